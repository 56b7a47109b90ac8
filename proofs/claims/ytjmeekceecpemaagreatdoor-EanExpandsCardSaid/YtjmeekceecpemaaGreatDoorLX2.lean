/- EanExpands: Expanding a compressed text restores it, with the same check digit; a completed text is complete; no further conditions. -/
/- Joined by a program of this work (pack.py) out of the texts LawsX, LawExpands of this seat, in build order. -/
import Derived.Test.YtjmeekceecpemaaGreatDoorLX1
import Derived.ShutString
/- The plain law EanExpands. -/
namespace Go.Proofs.YtjmeekceecpemaaGreatDoor.Q
open Go.RowKit Go.Proofs.YtjmeekceecpemaaGreatDoorW.PrintWords Go.Proofs.YtjmeekceecpemaaGreatDoorW.PrintLast Go.Proofs.YtjmeekceecpemaaGreatDoorW.PrintMore
theorem left_of (s t : ByteArray) (n : Nat) (h : s.size = n) : (s ++ t).extract 0 n = s := by
  apply bs_inj
  rw [bs_extract, bs_append, List.drop_zero, Nat.sub_zero, List.take_left' (by rw [bs_len]; exact h)]
theorem right_of (s t : ByteArray) (n m : Nat) (h : s.size = n) (h2 : m = n + t.size) : (s ++ t).extract n m = t := by
  have e : (bs s ++ bs t).drop n = bs t := by rw [List.drop_left' (by rw [bs_len]; exact h)]
  apply bs_inj
  rw [bs_extract, bs_append, e, List.take_of_length_le (by rw [bs_len]; omega)]
theorem halves (s : ByteArray) (n : Nat) : s.extract 0 n ++ s.extract n s.size = s := by
  apply bs_inj
  rw [bs_append, bs_extract, bs_extract, List.drop_zero, Nat.sub_zero, List.take_of_length_le (i := s.size - _) (by rw [List.length_drop, bs_len]; omega), List.take_append_drop]
theorem c_dig (u : ByteArray) (h : allDig u = true) : allDig (cA u) = true ∧ allDig (cB u) = true ∧ allDig (cC u) = true ∧ allDig (cD u) = true := by
  have e3 : allDig ⟨#[51]⟩ = true := by decide
  have e4 : allDig ⟨#[52]⟩ = true := by decide
  unfold cA cB cC cD
  simp only [dig_append, dig_extract h, e3, e4, Bool.and_true, and_self]
/-- What a fitting candidate gives. -/
theorem hit_gives (s x : ByteArray) (hs : cmpS 3 s = 0) (hx : x.size = 7) (hd : allDig x = true) (h : hit x s) : cmpS 4 (x ++ s.extract 11 s.size) = 0 ∧ expdS (x ++ s.extract 11 s.size) = (s, 0) := by
  obtain ⟨hn, hds, hz, _, ho⟩ := cmp_zero hs
  have hz2 : s.size = 12 := by rw [len3] at hz; omega
  have h1 := (out_split 3 s hn hz).1 ho
  have e1 : (lenS 3 - 1).toNat = 11 := by decide
  have e2 : bodyB 3 s = s.extract 0 11 := by unfold bodyB; rw [e1]
  rw [e1, e2] at h1
  have h2 : checkS 4 x = s.extract 11 s.size := by
    rw [← h1]
    unfold checkS
    rw [if_pos rfl, if_neg (by decide), h.2]
  have h3 : cmpS 4 (x ++ s.extract 11 s.size) = 0 := by
    rw [← h2]
    exact cmp_grown 4 x (by decide) (by rw [len4]; omega) hd (fun h4 => by have := h.1; omega)
  refine ⟨h3, ?_⟩
  unfold expdS
  rw [if_pos h3, ← exp_ex _ (by rw [ap_size]; omega), left_of x _ 7 hx, right_of x _ 7 _ hx (by rw [ap_size]; omega), h.2, halves s 11]
theorem cpr_gives (s : ByteArray) (h : (cprS s).2 = 0) : ∃ u : ByteArray, cprS s = (u, 0) ∧ expdS u = (s, 0) ∧ u.size = 8 ∧ s.size = 12 ∧ bt u 7 = bt s 11 := by
  unfold cprS at h ⊢
  by_cases hc : cmpS 3 s = 0
  · rw [if_pos hc] at h ⊢
    obtain ⟨hn, hds, hz, _, ho⟩ := cmp_zero hc
    have hz2 : s.size = 12 := by rw [len3] at hz; omega
    obtain ⟨zA, zB, zC, zD⟩ := c_size s hz2
    obtain ⟨dA, dB, dC, dD⟩ := c_dig s hds
    have fin : ∀ x : ByteArray, x.size = 7 → allDig x = true → hit x s → ∃ u : ByteArray, ((x ++ s.extract 11 s.size, (0 : Int)) : ByteArray × Int) = (u, 0) ∧ expdS u = (s, 0) ∧ u.size = 8 ∧ s.size = 12 ∧ bt u 7 = bt s 11 := by
      intro x hx hd hh
      refine ⟨_, rfl, (hit_gives s x hc hx hd hh).2, by rw [ap_size, ex_size]; omega, hz2, ?_⟩
      have h4 := bt_app_r x (s.extract 11 s.size) 0 (by rw [ex_size]; omega)
      rw [hx, bt_mid s 11 s.size 0 (by omega) (Nat.le_refl _)] at h4
      exact h4
    unfold srchS at h ⊢
    by_cases h1 : bt (cA s) 6 ≤ 50 ∧ hit (cA s) s
    · rw [if_pos h1]; exact fin _ zA dA h1.2
    rw [if_neg h1] at h ⊢
    by_cases h2 : hit (cB s) s
    · rw [if_pos h2]; exact fin _ zB dB h2
    rw [if_neg h2] at h ⊢
    by_cases h3 : hit (cC s) s
    · rw [if_pos h3]; exact fin _ zC dC h3
    rw [if_neg h3] at h ⊢
    by_cases h4 : bt (cD s) 6 ≥ 53 ∧ hit (cD s) s
    · rw [if_pos h4]; exact fin _ zD dD h4.2
    rw [if_neg h4] at h
    cases h
  · rw [if_neg hc] at h
    exact absurd h hc
theorem eight (s : ByteArray) (h : s.size = 8) : ∃ a b c d e f g i : UInt8, s = ⟨#[a, b, c, d, e, f, g, i]⟩ := by
  have hl := bs_len s
  rw [h] at hl
  match hb : bs s, hl with
  | [a, b, c, d, e, f, g, i], _ => exact ⟨a, b, c, d, e, f, g, i, bs_inj hb⟩
theorem expd_gives (s : ByteArray) (h : (expdS s).2 = 0) : ∃ u : ByteArray, expdS s = (u, 0) ∧ (cprS u).2 = 0 ∧ u.size = 12 := by
  unfold expdS at h ⊢
  by_cases hc : cmpS 4 s = 0
  · rw [if_pos hc] at h ⊢
    obtain ⟨hn, hds, hz, h49, ho⟩ := cmp_zero hc
    have hz2 : s.size = 8 := by rw [len4] at hz; omega
    have h1 := (out_split 4 s hn hz).1 ho
    have e1 : (lenS 4 - 1).toNat = 7 := by decide
    have e2 : bodyB 4 s = s.extract 0 7 := by unfold bodyB; rw [e1]
    rw [e1, e2] at h1
    have zE := exp_size s (by omega)
    have h2 : checkS 3 (expB s) = s.extract 7 s.size := by
      rw [← h1]
      unfold checkS
      rw [if_neg (by decide), if_pos rfl, exp_ex s (by omega)]
    have h3 : cmpS 3 (expB s ++ s.extract 7 s.size) = 0 := by
      rw [← h2]
      exact cmp_grown 3 (expB s) (by decide) (by rw [len3]; omega) (exp_dig s hds) (fun h4 => by cases h4.1)
    refine ⟨_, rfl, ?_, by rw [ap_size, ex_size]; omega⟩
    have hy : hit (s.extract 0 7) (expB s ++ s.extract 7 s.size) := by
      refine ⟨?_, ?_⟩
      · have := bt_ex s 7 0 (by omega) (by omega)
        rw [show ((0 : Nat) : Int) = 0 from rfl] at this
        rw [this]
        omega
      · rw [exp_ex s (by omega), left_of _ _ 11 zE]
    have d6 := dig_at hds 6 (by omega)
    rw [show ((6 : Nat) : Int) = 6 from rfl] at d6
    have l6 : bt (s.extract 0 7) 6 = bt s 6 := bt_ex s 7 6 (by omega) (by omega)
    unfold cprS
    rw [if_pos h3]
    unfold srchS
    obtain ⟨a, b, c, d, e, f, g, i, es⟩ := eight s hz2
    have e6 : bt s 6 = (g.toNat : Int) := by rw [es]; rfl
    have key : (bt s 6 ≤ 50 ∧ cA (expB s ++ s.extract 7 s.size) = s.extract 0 7) ∨ cB (expB s ++ s.extract 7 s.size) = s.extract 0 7 ∨ cC (expB s ++ s.extract 7 s.size) = s.extract 0 7 ∨ (bt s 6 ≥ 53 ∧ cD (expB s ++ s.extract 7 s.size) = s.extract 0 7) := by
      by_cases c1 : bt s 6 ≤ 50
      · refine .inl ⟨c1, ?_⟩
        unfold expB
        rw [if_pos c1]
        subst es
        apply bs_inj
        simp only [cA, bs_append, bs_extract]
        rfl
      by_cases c2 : bt s 6 = 51
      · refine .inr (.inl ?_)
        unfold expB
        rw [if_neg c1, if_pos c2]
        obtain rfl : g = 51 := UInt8.toNat_inj.1 (by rw [e6] at c2; show _ = 51; omega)
        subst es
        apply bs_inj
        simp only [cB, bs_append, bs_extract]
        rfl
      by_cases c3 : bt s 6 = 52
      · refine .inr (.inr (.inl ?_))
        unfold expB
        rw [if_neg c1, if_neg c2, if_pos c3]
        obtain rfl : g = 52 := UInt8.toNat_inj.1 (by rw [e6] at c3; show _ = 52; omega)
        subst es
        apply bs_inj
        simp only [cC, bs_append, bs_extract]
        rfl
      · refine .inr (.inr (.inr ⟨by omega, ?_⟩))
        unfold expB
        rw [if_neg c1, if_neg c2, if_neg c3]
        subst es
        apply bs_inj
        simp only [cD, bs_append, bs_extract]
        rfl
    by_cases g1 : bt (cA (expB s ++ s.extract 7 s.size)) 6 ≤ 50 ∧ hit (cA (expB s ++ s.extract 7 s.size)) (expB s ++ s.extract 7 s.size)
    · rw [if_pos g1]
    rw [if_neg g1]
    by_cases g2 : hit (cB (expB s ++ s.extract 7 s.size)) (expB s ++ s.extract 7 s.size)
    · rw [if_pos g2]
    rw [if_neg g2]
    by_cases g3 : hit (cC (expB s ++ s.extract 7 s.size)) (expB s ++ s.extract 7 s.size)
    · rw [if_pos g3]
    rw [if_neg g3]
    by_cases g4 : bt (cD (expB s ++ s.extract 7 s.size)) 6 ≥ 53 ∧ hit (cD (expB s ++ s.extract 7 s.size)) (expB s ++ s.extract 7 s.size)
    · rw [if_pos g4]
    exfalso
    rcases key with ⟨k1, k2⟩ | k | k | ⟨k1, k2⟩
    · exact g1 ⟨by rw [k2, l6]; exact k1, by rw [k2]; exact hy⟩
    · exact g2 (by rw [k]; exact hy)
    · exact g3 (by rw [k]; exact hy)
    · exact g4 ⟨by rw [k2, l6]; exact k1, by rw [k2]; exact hy⟩
  · rw [if_neg hc] at h
    exact absurd h hc
theorem comp_gives (a : Int) (s : ByteArray) (h : (compS a s).2 = 0) : ∃ u : ByteArray, compS a s = (u, 0) ∧ cmpS a u = 0 ∧ compS a u = (u, 0) ∧ s.size ≤ u.size ∧ u.size ≤ 13 ∧ u.extract 0 s.size = s := by
  have hb := len_bd a
  have cong : ∀ u : ByteArray, cmpS a u = 0 → compS a u = (u, 0) := by
    intro u hu
    obtain ⟨hn, hd, hz, _, _⟩ := cmp_zero hu
    have := comp_other a u (fun hh => by omega)
    rw [if_pos hu] at this
    exact this.symm
  by_cases hn : lenS a = 0
  · unfold compS at h; rw [if_pos hn] at h; cases h
  by_cases hd : allDig s = true
  · by_cases hz : (s.size : Int) = lenS a ∨ (s.size : Int) = lenS a - 1
    · by_cases h4 : a = 4 ∧ bt s 0 > 49
      · unfold compS at h; rw [if_neg hn, if_pos hd, if_pos hz, if_pos h4] at h; cases h
      by_cases ho : (s.size : Int) = lenS a ∧ ¬ s = outB a s
      · unfold compS at h; rw [if_neg hn, if_pos hd, if_pos hz, if_neg h4, if_pos ho] at h; cases h
      have e : compS a s = (outB a s, 0) := by unfold compS; rw [if_neg hn, if_pos hd, if_pos hz, if_neg h4, if_neg ho]
      by_cases hf : (s.size : Int) = lenS a
      · have e2 : s = outB a s := by
          rcases Classical.em (s = outB a s) with h | h
          · exact h
          · exact absurd ⟨hf, h⟩ ho
        have hc : cmpS a s = 0 := by unfold cmpS; rw [if_neg hn, if_pos hd, if_pos hf, if_neg h4, if_pos e2]
        refine ⟨s, by rw [e, ← e2], hc, cong s hc, Nat.le_refl _, by omega, ?_⟩
        apply bs_inj
        rw [bs_extract, List.drop_zero, Nat.sub_zero, List.take_of_length_le (by rw [bs_len]; omega)]
      · have hm : (s.size : Int) = lenS a - 1 := by omega
        have hc := cmp_grown a s hn hm hd h4
        have e2 : outB a s = s ++ checkS a s := by unfold outB; rw [body_full a s hm]
        rw [e2] at e
        exact ⟨_, e, hc, cong _ hc, by rw [ap_size]; omega, by rw [ap_size, checkS_size]; omega, left_of s _ _ rfl⟩
    · unfold compS at h; rw [if_neg hn, if_pos hd, if_neg hz] at h; cases h
  · unfold compS at h; rw [if_neg hn, if_neg hd] at h; cases h
theorem expands_law (a : Int) (s : ByteArray) (hs : s.size ≤ 9223372036854775807) : ∃ K, barscanlaw11_EanExpands.f K a s = some true := by
  have hfin : Ev (fun k => (barscanlaw11_examples.f k).bind fun t => some t) true := Ev.bind ev_examples (Ev.const rfl)
  have h1 : Ev (fun k => barscanlaw11_EanExpands.j1 k a s) true := by
    refine Ev.succ ?_
    simp only [barscanlaw11_EanExpands.j1]
    refine Ev.bind (Ev.add 4 fun k => gComplete k a s hs) ?_
    by_cases hc : (compS a s).2 = 0
    · obtain ⟨u, e, hu, e2, hle, h13, hx⟩ := comp_gives a s hc
      rw [e]
      refine Ev.pos rfl (Ev.bind (Ev.add 4 fun k => gComplete k a u (by omega)) (Ev.bind (gEncode a u ⟨#[]⟩ (by omega) (by decide)) ?_))
      rw [e2]
      have e3 : (encS a u ⟨#[]⟩).2 = 0 := by
        unfold encS
        rw [if_pos hu, if_pos (by decide), if_pos (.inl rfl)]
      refine Ev.pos rfl (Ev.pos rfl (Ev.pos e3 (Ev.neg (by show ¬ (u.size : Int) < (s.size : Int); omega) (Ev.pos (by omega) (Ev.pos (by show (s.size : Int) ≤ (u.size : Int); omega) (Ev.pos ?_ hfin))))))
      rw [Int.toNat_natCast]
      exact (tl_iff _ _).2 hx
    · exact Ev.neg hc hfin
  have h0 : Ev (fun k => barscanlaw11_EanExpands.j0 k a s) true := by
    refine Ev.succ ?_
    simp only [barscanlaw11_EanExpands.j0]
    refine Ev.bind (Ev.add 1 fun k => gExpand k s hs) ?_
    by_cases hc : (expdS s).2 = 0
    · obtain ⟨u, e, hu, hz⟩ := expd_gives s hc
      obtain ⟨v, e2, e3, hz2, _, _⟩ := cpr_gives u hu
      rw [e]
      refine Ev.pos rfl (Ev.bind (Ev.add 5 fun k => gCompress k u (by omega)) ?_)
      rw [e2]
      refine Ev.bind (Ev.add 1 fun k => gExpand k v (by omega)) ?_
      rw [e3]
      exact Ev.pos rfl (Ev.pos rfl (Ev.pos rfl h1))
    · exact Ev.neg hc h1
  refine Ev.get ?_
  unfold barscanlaw11_EanExpands.f
  refine Ev.bind (Ev.add 5 fun k => gCompress k s hs) ?_
  by_cases hc : (cprS s).2 = 0
  · obtain ⟨u, e, e2, hz, hz2, h7⟩ := cpr_gives s hc
    rw [e]
    refine Ev.pos rfl (Ev.bind (Ev.add 1 fun k => gExpand k u (by omega)) ?_)
    rw [e2]
    exact Ev.pos rfl (Ev.pos rfl (Ev.pos (by show (u.size : Int) = 8; omega) (Ev.pos (by omega) (Ev.pos (by show 7 < (u.size : Int); omega) (Ev.pos (by omega) (Ev.pos h7 h0))))))
  · exact Ev.neg hc h0
end Go.Proofs.YtjmeekceecpemaaGreatDoor.Q

/- The law EanExpands: its row and its card: Expanding a compressed text restores it, with the same check digit; a completed text is complete. -/
namespace Go.Proofs.YtjmeekceecpemaaGreatDoor.eanExpands
open Go.ChangeShapes Go.WideShapes Go.ChangeAt Go.RowKit
open Go.ChangeMaps (open_string shut_string)
set_option linter.unusedVariables false
set_option maxRecDepth 2000000 in
/-- WHAT THE WALK GIVES. -/
theorem contract (H : Type) (enc : TypeId × Value → H) (W : World) (base : Nat) (args : Array Value) (ds gs : List (DataW H)) (before : List MemPlace)
    (hval : ∀ (j : Nat) t v, Tryz.f7.params[j]? = some t → args[j]? = some v → Value.okWide Tryz.prog W .any base t v)
    (hW : DataW.Whole enc Tryz.prog Tryz.f7.params.toList Rows.eanExpandsSpec.vars false W args.toList ds gs before) (hL : laidMetH Tryz.prog Rows.eanExpandsRow.laid W) :
    Calls Tryz.prog 7 args W fun e W' => ∃ v, e = .returned v ∧ Rows.eanExpandsSpec.post enc Tryz.prog Tryz.f7 false true false false W args v W' := by
  have hW' := hW
  obtain ⟨p, q, hA0, hV, rfl, hfz, hnd⟩ := hW
  have hA : DataW.TrodAll enc Tryz.prog W 0 (fun _ => true) true Tryz.f7.params.toList args.toList ds p := hA0
  rw [Tryz.params7] at hA hval
  obtain ⟨v0, vs0, d0, ds0, p0, q0, hargs, rfl, rfl, h0, r0⟩ := trodAll_cons hA
  obtain ⟨v1, vs1, d1, ds1, p1, q1, rfl, rfl, rfl, h1, r1⟩ := trodAll_cons r0
  obtain ⟨rfl, rfl, rfl⟩ := trodAll_nil r1
  obtain rfl : args = #[v0, v1] := by cases args; simp_all
  obtain ⟨rfl, rfl⟩ := trodVars_none hV
  obtain ⟨n0, rfl, rfl, rfl, y0⟩ := open_int Tryz.underlying22 (hval 0 22 v0 rfl rfl) h0
  obtain ⟨s1, rfl, rfl, rfl, y1⟩ := open_string Tryz.underlying9 (hval 1 9 v1 rfl rfl) h1
  have hz1 : s1.size ≤ 9223372036854775807 := Nat.le_trans y1 (by decide)
  clear hA0
  obtain ⟨K, hK⟩ := Q.expands_law n0 s1 hz1
  have walk := Q.barscanlaw11_EanExpands.calls K n0 s1 true W hK rfl
  refine walk.mono fun e W' ⟨he, hg⟩ => ?_
  subst he
  exact ⟨_, rfl, _, _, _, [], _, [], hW', trodAll_mk1 (shut_bool Tryz.underlying4 _), (trodAll_cons_mk (shut_int Tryz.underlying22 y0) (trodAll_cons_mk (shut_string Tryz.underlying9 y1) trodAll_mk0)), rfl, hg.frame _, fun h => by cases h⟩
theorem reads (os : Os) {H : Type} (enc : TypeId × Value → H) : ∃ places, DataW.whole enc Tryz.prog ((Wit.laidWorld os).forCall (fun _ _ => 0) ⟨#[], #[.int .i64 0, .string ⟨#[]⟩], []⟩).memory Tryz.f7.params.toList Rows.eanExpandsSpec.vars false (#[.int .i64 0, .string ⟨#[]⟩] : Array Value).toList 8 = some ([.lit (.int .i64 0), .lit (.string [])], [], places) :=
  ⟨[], by kernel_rfl⟩
set_option maxRecDepth 100000 in
theorem lifted (os : Os) (started : os.Started) (H : Type) (enc : TypeId × Value → H) (F : Stop.Interp) :
    ReturnsInHanded {} Tryz.checked os 7 .any ((OpenSpec.ofChange Rows.eanExpandsSpec).preRow enc Tryz.prog Tryz.f7 Rows.eanExpandsRow.domain false Rows.eanExpandsRow.laid) (((OpenSpec.ofChange Rows.eanExpandsSpec).at F).post enc Tryz.prog Tryz.f7 false true false false) := by
  obtain ⟨places, hx⟩ := reads os enc
  refine returnsInHanded_of_row (C := Tryz.checked) (s := OpenSpec.ofChange Rows.eanExpandsSpec) Wit.own started (by kernel_rfl) Tryz.func7
    (witness_row_atRef (enc := enc) (C := Tryz.checked) false (Wit.laidWorld os) #[.int .i64 0, .string ⟨#[]⟩] rfl (by kernel_rfl) (by kernel_rfl) (by kernel_rfl)
      (OpenSpec.preRow_of_cond 8 hx (by kernel_rfl) (fun k hk => by cases hk) (by kernel_rfl) (Wit.laid_met os _))) ?_
  intro W base args ds gs before hval hW _ _ _ hL _ _
  exact contract H enc W base args ds gs before hval hW hL
theorem said : Rows.EanExpandsSaid :=
  OpenClaim.holds_of_cond 7 Tryz.f7 rfl rfl rfl rfl rfl rfl rfl ⟨rfl, rfl, rfl, rfl, rfl⟩ rfl rfl rfl rfl rfl (by kernel_rfl) Tryz.func7 (by kernel_rfl)
    (of_decide_eq_true (by kernel_rfl)) (by unfold Func.isWrapper; first | (rw [if_pos (by decide +kernel)]; kernel_rfl) | (rw [if_neg (by decide +kernel)]; exact ⟨rfl, rfl⟩))
    (fun os started H enc _ F => by rw [OpenClaim.pre_eq_preRow]; exact lifted os started H enc F)
theorem plain (f : FuncId) (fn : Func) (hf : Tryz.pinned.checked.prog.funcNamed "barscan/barscanlaw11.EanExpands" = some f) (hfn : Tryz.pinned.checked.prog.funcs[f]? = some fn) :
    true = Tryz.pinned.checked.prog.looks [] ∧ ∀ (j : Nat) t, fn.params[j]? = some t → Tryz.pinned.checked.prog.wantsStandIn t = false := by
  obtain rfl : f = 7 := Option.some.inj ((show Tryz.prog.funcNamed "barscan/barscanlaw11.EanExpands" = some 7 by kernel_rfl).symm.trans hf) |>.symm
  obtain rfl : fn = Tryz.f7 := (Option.some.inj (Tryz.func7.symm.trans hfn)).symm
  refine ⟨by kernel_rfl, fun j t ht => ?_⟩
  rw [Tryz.params7] at ht
  have hm : t ∈ [22, 9] := by
    have := Array.mem_of_getElem? ht
    simpa using this
  simp only [List.mem_cons, List.not_mem_nil, or_false] at hm
  rcases hm with rfl | rfl
  · exact (show Tryz.prog.wantsStandIn 22 = false by kernel_rfl)
  · exact (show Tryz.prog.wantsStandIn 9 = false by kernel_rfl)
/-- THE CARD. -/
theorem card : Rows.EanExpandsCardSaid :=
  Claim7.holds_tied_plain_at .later [] _ _ _ _ said (fun _ h => by cases h) (by kernel_rfl) (fun _ h => by cases h) eanExpands_row_tie rfl ⟨rfl, rfl⟩ (by kernel_rfl) rfl plain (by kernel_rfl)
end Go.Proofs.YtjmeekceecpemaaGreatDoor.eanExpands
