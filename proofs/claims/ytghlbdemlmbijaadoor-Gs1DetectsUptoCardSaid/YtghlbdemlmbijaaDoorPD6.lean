/- Joined by a program of this work (pack.py) out of the texts Qgs1FromChars, Qgs1verifyAll of this seat, in build order. -/
import Derived.Test.YtghlbdemlmbijaaDoorPD5
namespace Go.Proofs.YtghlbdemlmbijaaDoor.Q
open Go.RowKit Go.Proofs.YtghlbdemlmbijaaDoorW.PrintWords Go.Proofs.YtghlbdemlmbijaaDoorW.PrintLast Go.Proofs.YtghlbdemlmbijaaDoorW.PrintMore

set_option linter.unusedVariables false
set_option linter.unusedSimpArgs false

/-! ### gs1_FromChars: function 11 -/
mutual
def gs1_FromChars.j0 : Nat → List Int → Bool → Option ((List (S38)) × Int)
  | 0, _, _ => none
  | k + 1, x0, x19 => if x19 = true then (some (([] : List (S38)), 9)) else (if (x0.length : Int) = 1 then (some (([] : List (S38)), 5)) else (if 1 ≤ (x0.length : Int) then (gs1_FromChars.l0 k ([] : List (S38)) (x0.drop 1)) else (none)))
def gs1_FromChars.l0 : Nat → List (S38) → List Int → Option ((List (S38)) × Int)
  | 0, _, _ => none
  | k + 1, x4, x5 => if (x5.length : Int) > 0 then (if 0 < (x5.length : Int) then (if (rd x5 0) = 256 then (some (([] : List (S38)), 9)) else ((gs1_run.f k x5).bind fun t175 => ((gs1_prefix.f k t175).bind fun bt176 => (if bt176.2.2.2.2.2.2 = true then (if 0 ≤ (bt176.1.size : Int) then (if (bt176.1.size : Int) ≤ (t175.size : Int) then (if bt176.2.1 > 0 then (if ((t175.extract ((bt176.1.size : Int) : Int).toNat t175.size).size : Int) < bt176.2.1 then (some (([] : List (S38)), 10)) else (if 0 ≤ bt176.2.1 then (if bt176.2.1 ≤ ((t175.extract ((bt176.1.size : Int) : Int).toNat t175.size).size : Int) then (gs1_FromChars.j2 k x4 x5 bt176.1 bt176.2.1 bt176.2.2.1 bt176.2.2.2.1 bt176.2.2.2.2.1 bt176.2.2.2.2.2.1 bt176.1 ((t175.extract ((bt176.1.size : Int) : Int).toNat t175.size).extract 0 (bt176.2.1 : Int).toNat)) else (none)) else (none))) else (gs1_FromChars.j2 k x4 x5 bt176.1 bt176.2.1 bt176.2.2.1 bt176.2.2.2.1 bt176.2.2.2.2.1 bt176.2.2.2.2.2.1 bt176.1 (t175.extract ((bt176.1.size : Int) : Int).toNat t175.size))) else (none)) else (none)) else (some (([] : List (S38)), 29)))))) else (none)) else (some (x4, 0))
def gs1_FromChars.j2 : Nat → List (S38) → List Int → ByteArray → Int → Int → Bool → Bool → Bool → ByteArray → ByteArray → Option ((List (S38)) × Int)
  | 0, _, _, _, _, _, _, _, _, _, _ => none
  | k + 1, x4, x5, x7, x184000, x184001, x184002, x184003, x184004, x185000, x185001 => (gs1_form_verify.f k x184000 x184001 x184002 x184003 x184004 x185001).bind fun t185 => (if t185 = 0 then (if 0 ≤ (wrap64 ((x7.size : Int) + (x185001.size : Int))) then (if (wrap64 ((x7.size : Int) + (x185001.size : Int))) ≤ (x5.length : Int) then ((some (x5.drop ((wrap64 ((x7.size : Int) + (x185001.size : Int))) : Int).toNat : List Int)).bind fun y186 => (if x184000 = 0 then (gs1_FromChars.j3 k x4 y186 (decide ((y186.length : Int) > 0)) x185000 x185001) else (gs1_FromChars.j3 k x4 y186 false x185000 x185001))) else (none)) else (none)) else (some (([] : List (S38)), t185)))
def gs1_FromChars.j3 : Nat → List (S38) → List Int → Bool → ByteArray → ByteArray → Option ((List (S38)) × Int)
  | 0, _, _, _, _, _ => none
  | k + 1, x4, x5, x95, x185000, x185001 => if x95 = true then (if 1 ≤ (x5.length : Int) then ((some (x5.drop 1 : List Int)).bind fun y191 => (if (y191.length : Int) = 0 then (some (([] : List (S38)), 9)) else (if x4.length < 4398046511104 then (gs1_FromChars.l0 k (x4 ++ [(⟨x185000, x185001⟩ : S38)]) y191) else (none)))) else (none)) else (if x4.length < 4398046511104 then (gs1_FromChars.l0 k (x4 ++ [(⟨x185000, x185001⟩ : S38)]) x5) else (none))
end
def gs1_FromChars.f (k : Nat) (l0 : List Int) : Option ((List (S38)) × Int) := if (l0.length : Int) > 4096 then (some (([] : List (S38)), 4)) else ((slices_ContainsFunc_int.f l0).bind fun t167 => (if t167 = true then (some (([] : List (S38)), 6)) else (if (l0.length : Int) = 0 then (gs1_FromChars.j0 k l0 true) else (if 0 < (l0.length : Int) then (gs1_FromChars.j0 k l0 ((rd l0 0) != 256)) else (none)))))
theorem gs1_FromChars.mono_l : ∀ k, (∀ y0 y1, LeO (gs1_FromChars.j0 k y0 y1) (gs1_FromChars.j0 (k + 1) y0 y1)) ∧ (∀ y0 y1, LeO (gs1_FromChars.l0 k y0 y1) (gs1_FromChars.l0 (k + 1) y0 y1)) ∧ (∀ y0 y1 y2 y3 y4 y5 y6 y7 y8 y9, LeO (gs1_FromChars.j2 k y0 y1 y2 y3 y4 y5 y6 y7 y8 y9) (gs1_FromChars.j2 (k + 1) y0 y1 y2 y3 y4 y5 y6 y7 y8 y9)) ∧ (∀ y0 y1 y2 y3 y4, LeO (gs1_FromChars.j3 k y0 y1 y2 y3 y4) (gs1_FromChars.j3 (k + 1) y0 y1 y2 y3 y4))
  | 0 => ⟨fun _ _ r h => by simp [gs1_FromChars.j0] at h, fun _ _ r h => by simp [gs1_FromChars.l0] at h, fun _ _ _ _ _ _ _ _ _ _ r h => by simp [gs1_FromChars.j2] at h, fun _ _ _ _ _ r h => by simp [gs1_FromChars.j3] at h⟩
  | k + 1 => by
    obtain ⟨ih0, ih1, ih2, ih3⟩ := gs1_FromChars.mono_l k
    refine ⟨?_, ?_, ?_, ?_⟩
    · intro y0 y1
      unfold gs1_FromChars.j0
      repeat' first
      | (with_reducible exact ih0 _ _)
      | (with_reducible exact ih1 _ _)
      | (with_reducible exact ih2 _ _ _ _ _ _ _ _ _ _)
      | (with_reducible exact ih3 _ _ _ _ _)
      | (with_reducible exact gs1_form_verify.mono _ _ _ _ _ _ _)
      | (with_reducible exact gs1_prefix.mono _ _)
      | (with_reducible exact gs1_run.mono _ _)
      | (with_reducible exact LeO.refl _)
      | (with_reducible exact LeO.none _)
      | (with_reducible refine LeO.ite ?_ ?_)
      | (with_reducible refine LeO.bind ?_ (fun _ => ?_))
      | exact ih0 _ _
      | exact ih1 _ _
      | exact ih2 _ _ _ _ _ _ _ _ _ _
      | exact ih3 _ _ _ _ _
      | exact gs1_form_verify.mono _ _ _ _ _ _ _
      | exact gs1_prefix.mono _ _
      | exact gs1_run.mono _ _
      | exact LeO.none _
      | refine LeO.ite ?_ ?_
      | refine LeO.bind ?_ (fun _ => ?_)
    · intro y0 y1
      unfold gs1_FromChars.l0
      repeat' first
      | (with_reducible exact ih0 _ _)
      | (with_reducible exact ih1 _ _)
      | (with_reducible exact ih2 _ _ _ _ _ _ _ _ _ _)
      | (with_reducible exact ih3 _ _ _ _ _)
      | (with_reducible exact gs1_form_verify.mono _ _ _ _ _ _ _)
      | (with_reducible exact gs1_prefix.mono _ _)
      | (with_reducible exact gs1_run.mono _ _)
      | (with_reducible exact LeO.refl _)
      | (with_reducible exact LeO.none _)
      | (with_reducible refine LeO.ite ?_ ?_)
      | (with_reducible refine LeO.bind ?_ (fun _ => ?_))
      | exact ih0 _ _
      | exact ih1 _ _
      | exact ih2 _ _ _ _ _ _ _ _ _ _
      | exact ih3 _ _ _ _ _
      | exact gs1_form_verify.mono _ _ _ _ _ _ _
      | exact gs1_prefix.mono _ _
      | exact gs1_run.mono _ _
      | exact LeO.none _
      | refine LeO.ite ?_ ?_
      | refine LeO.bind ?_ (fun _ => ?_)
    · intro y0 y1 y2 y3 y4 y5 y6 y7 y8 y9
      unfold gs1_FromChars.j2
      repeat' first
      | (with_reducible exact ih0 _ _)
      | (with_reducible exact ih1 _ _)
      | (with_reducible exact ih2 _ _ _ _ _ _ _ _ _ _)
      | (with_reducible exact ih3 _ _ _ _ _)
      | (with_reducible exact gs1_form_verify.mono _ _ _ _ _ _ _)
      | (with_reducible exact gs1_prefix.mono _ _)
      | (with_reducible exact gs1_run.mono _ _)
      | (with_reducible exact LeO.refl _)
      | (with_reducible exact LeO.none _)
      | (with_reducible refine LeO.ite ?_ ?_)
      | (with_reducible refine LeO.bind ?_ (fun _ => ?_))
      | exact ih0 _ _
      | exact ih1 _ _
      | exact ih2 _ _ _ _ _ _ _ _ _ _
      | exact ih3 _ _ _ _ _
      | exact gs1_form_verify.mono _ _ _ _ _ _ _
      | exact gs1_prefix.mono _ _
      | exact gs1_run.mono _ _
      | exact LeO.none _
      | refine LeO.ite ?_ ?_
      | refine LeO.bind ?_ (fun _ => ?_)
    · intro y0 y1 y2 y3 y4
      unfold gs1_FromChars.j3
      repeat' first
      | (with_reducible exact ih0 _ _)
      | (with_reducible exact ih1 _ _)
      | (with_reducible exact ih2 _ _ _ _ _ _ _ _ _ _)
      | (with_reducible exact ih3 _ _ _ _ _)
      | (with_reducible exact gs1_form_verify.mono _ _ _ _ _ _ _)
      | (with_reducible exact gs1_prefix.mono _ _)
      | (with_reducible exact gs1_run.mono _ _)
      | (with_reducible exact LeO.refl _)
      | (with_reducible exact LeO.none _)
      | (with_reducible refine LeO.ite ?_ ?_)
      | (with_reducible refine LeO.bind ?_ (fun _ => ?_))
      | exact ih0 _ _
      | exact ih1 _ _
      | exact ih2 _ _ _ _ _ _ _ _ _ _
      | exact ih3 _ _ _ _ _
      | exact gs1_form_verify.mono _ _ _ _ _ _ _
      | exact gs1_prefix.mono _ _
      | exact gs1_run.mono _ _
      | exact LeO.none _
      | refine LeO.ite ?_ ?_
      | refine LeO.bind ?_ (fun _ => ?_)
theorem gs1_FromChars.mono : ∀ a0 k, LeO (gs1_FromChars.f k a0) (gs1_FromChars.f (k + 1) a0) := by
  intro a0 k
  obtain ⟨ih0, ih1, ih2, ih3⟩ := gs1_FromChars.mono_l k
  unfold gs1_FromChars.f
  repeat' first
      | (with_reducible exact ih0 _ _)
      | (with_reducible exact ih1 _ _)
      | (with_reducible exact ih2 _ _ _ _ _ _ _ _ _ _)
      | (with_reducible exact ih3 _ _ _ _ _)
      | (with_reducible exact gs1_form_verify.mono _ _ _ _ _ _ _)
      | (with_reducible exact gs1_prefix.mono _ _)
      | (with_reducible exact gs1_run.mono _ _)
      | (with_reducible exact LeO.refl _)
      | (with_reducible exact LeO.none _)
      | (with_reducible refine LeO.ite ?_ ?_)
      | (with_reducible refine LeO.bind ?_ (fun _ => ?_))
      | exact ih0 _ _
      | exact ih1 _ _
      | exact ih2 _ _ _ _ _ _ _ _ _ _
      | exact ih3 _ _ _ _ _
      | exact gs1_form_verify.mono _ _ _ _ _ _ _
      | exact gs1_prefix.mono _ _
      | exact gs1_run.mono _ _
      | exact LeO.none _
      | refine LeO.ite ?_ ?_
      | refine LeO.bind ?_ (fun _ => ?_)
set_option maxHeartbeats 8000000 in
set_option maxRecDepth 100000 in
theorem gs1_FromChars.calls (k : Nat) (P0_ : Nat → Prop) (A0 : Option Addr) (c0 : Nat) (l0 : List Int) (r1 : List (S38)) (r2 : Int) (w : World) (hT : Tabs w) (hs0 : Kd.V (Kd.int .i64) 3 w w.heap.size (fun k_ => P0_ k_) (.slice A0 l0.length c0) l0) (h : gs1_FromChars.f k l0 = some (r1, r2)) :
    Calls Tryd.prog 11 #[.slice A0 l0.length c0] w fun e w' => ∃ v0_ : Value, e = .returned (.tuple #[v0_, .int .i64 r2]) ∧ Kd.R k38 38 w' w.heap.size (fun k_ => (w.heap.size ≤ k_)) v0_ r1 ∧ Below w.heap.size w w' := by
  have hu56 := Tryd.underlying56
  have hu38 := Tryd.underlying38
  have HO0 := Aside0.mk (show Kd.V (Kd.int .i64) 3 w w.heap.size (fun k_ => (P0_ k_ ∨ w.heap.size ≤ k_)) (.slice A0 l0.length c0) l0 from Kd.V_mono hs0 (fun k_ hk => .inl hk))
  have HT := Aside0.mk hT
  clear hT
  have HB := Aside0.mk (Below.refl w.heap.size w)
  have H : (if (l0.length : Int) > 4096 then (some (([] : List (S38)), 4)) else ((slices_ContainsFunc_int.f l0).bind fun t167 => (if t167 = true then (some (([] : List (S38)), 6)) else (if (l0.length : Int) = 0 then (gs1_FromChars.j0 k l0 true) else (if 0 < (l0.length : Int) then (gs1_FromChars.j0 k l0 ((rd l0 0) != 256)) else (none)))))) = some (r1, r2) := h
  clear h
  by_cases c2 : (l0.length : Int) > 4096
  · rw [if_pos c2] at H
    have c2b0 : decide (4096 < (l0.length : Int)) = true := decide_eq_true c2
    have c2b1 : decide (4096 < l0.length) = true := decide_eq_true (by omega)
    clear c2
    simp only [Option.some.injEq, Prod.mk.injEq] at H
    obtain ⟨rfl, rfl⟩ := H
    go_enter Tryd.func11, Tryd.ntmps11
    go_wp2
    go_ret2
    exact ⟨_, by first | rfl | (simp [errW_none, errW_some] <;> rfl) | (simp [*, errW_none, errW_some] <;> rfl), by first | exact Kd.R_nil _ _ _ _ _ | exact Kd.N_nil _ _ _ _ _ | exact Kd.V_nil _ _ _ _ _ | exact Kd.Q_nil _ _ _ _ _ | exact Kd.S_nil _ _ _ _ _, by repeat (first | (with_reducible first | exact HB.out | apply below_alloc | apply pw_below_drewN | apply below_drew1) | exact HB.out)⟩
  · rw [if_neg c2] at H
    have c2b0 : decide (4096 < (l0.length : Int)) = false := decide_eq_false c2
    have c2b1 : decide (4096 < l0.length) = false := decide_eq_false (by omega)
    clear c2
    replace H := Option.bind_eq_some_iff.mp H
    obtain ⟨t167, A30, H⟩ := H
    replace H : (if t167 = true then (some (([] : List (S38)), 6)) else (if (l0.length : Int) = 0 then (gs1_FromChars.j0 k l0 true) else (if 0 < (l0.length : Int) then (gs1_FromChars.j0 k l0 ((rd l0 0) != 256)) else (none)))) = some (r1, r2) := H
    have A3 := Aside0.mk A30
    clear A30
    by_cases c4 : t167 = true
    · subst c4
      have H1 : (some (([] : List (S38)), 6)) = some (r1, r2) := by rw [if_pos rfl] at H; exact H
      clear H
      have H := H1
      clear H1
      simp only [Option.some.injEq, Prod.mk.injEq] at H
      obtain ⟨rfl, rfl⟩ := H
      go_enter Tryd.func11, Tryd.ntmps11
      go_wp2_with (first | ((with_reducible refine gate_callee (f := 23) rfl ?_); refine goesL_ (some 18) rfl rfl Tryd.func23 (by kernel_rfl) rfl #[.slice A0 l0.length c0, .func (.func 24) #[] #[]] rfl (by (try simp only [List.map_toArray, List.map_cons, List.map_nil]); first | done | rfl | (simp only [List.length_drop, List.length_take]; rfl)) ?_; (with_reducible refine (slices_ContainsFunc_int.calls _ _ l0  true _ ?side1 ?side2 A3.out).mono ?_); (case side1 => repeat (first | exact (Kd.V_reads' HO0.out).2.2 | (with_reducible refine Kd.C_alloc ?_ _) | (with_reducible refine Kd.C_drewN ?_ _) | (with_reducible refine Kd.C_drew ?_))); (case side2 => exact (Kd.V_reads' HO0.out).2.1); rintro e w' ⟨rfl, ⟨nd, rfl⟩⟩; refine ⟨_, rfl, ?_⟩))
      go_ret2
      exact ⟨_, by first | rfl | (simp [errW_none, errW_some] <;> rfl) | (simp [*, errW_none, errW_some] <;> rfl), by first | exact Kd.R_nil _ _ _ _ _ | exact Kd.N_nil _ _ _ _ _ | exact Kd.V_nil _ _ _ _ _ | exact Kd.Q_nil _ _ _ _ _ | exact Kd.S_nil _ _ _ _ _, by repeat (first | (with_reducible first | exact HB.out | apply below_alloc | apply pw_below_drewN | apply below_drew1) | exact HB.out)⟩
    · replace c4 := Bool.eq_false_iff.mpr c4
      subst c4
      have H1 : (if (l0.length : Int) = 0 then (gs1_FromChars.j0 k l0 true) else (if 0 < (l0.length : Int) then (gs1_FromChars.j0 k l0 ((rd l0 0) != 256)) else (none))) = some (r1, r2) := by rw [if_neg (show ¬ (false = true) by decide)] at H; exact H
      clear H
      have H := H1
      clear H1
      have HC5 := Aside0.mk H
      clear H
      go_enter Tryd.func11, Tryd.ntmps11
      go_upto_region 5 with (first | ((with_reducible refine gate_callee (f := 23) rfl ?_); refine goesL_ (some 18) rfl rfl Tryd.func23 (by kernel_rfl) rfl #[.slice A0 l0.length c0, .func (.func 24) #[] #[]] rfl (by (try simp only [List.map_toArray, List.map_cons, List.map_nil]); first | done | rfl | (simp only [List.length_drop, List.length_take]; rfl)) ?_; (with_reducible refine (slices_ContainsFunc_int.calls _ _ l0  false _ ?side1 ?side2 A3.out).mono ?_); (case side1 => repeat (first | exact (Kd.V_reads' HO0.out).2.2 | (with_reducible refine Kd.C_alloc ?_ _) | (with_reducible refine Kd.C_drewN ?_ _) | (with_reducible refine Kd.C_drew ?_))); (case side2 => exact (Kd.V_reads' HO0.out).2.1); rintro e w' ⟨rfl, ⟨nd, rfl⟩⟩; refine ⟨_, rfl, ?_⟩))
      (try simp only [Act.put, List.setIfInBounds_toArray, List.set_cons_zero, List.set_cons_succ])
      go_cut [19] (fun v19 wc => ∃ (kq : Nat) (x19_4 : Bool), v19 = .bool x19_4 ∧ Aside0 (gs1_FromChars.j0 kq l0 x19_4 = some (r1, r2)) ∧ Aside0 (kq ≤ k) ∧ Aside0 (Kd.V (Kd.int .i64) 3 wc w.heap.size (fun k_ => (P0_ k_ ∨ w.heap.size ≤ k_)) (.slice A0 l0.length c0) l0) ∧ Aside0 (Below w.heap.size w wc))
      case first =>
        have H := HC5.out
        clear HC5
        by_cases c6 : (l0.length : Int) = 0
        · rw [if_pos c6] at H
          have c6b0 : ((l0.length : Int) == 0) = true := beq_iff_eq.mpr c6
          have c6b1 : ((l0.length : Int) != 0) = false := bne_eq_false_iff_eq.mpr c6
          clear c6
          (first | rw [c6b0] | (simp only [i64_w]; rw [c6b0]) | skip)
          have H' := Aside0.mk H
          clear H
          go_wp2
          go_meet
          case rel => exact ⟨_, (true), (by first | rfl | (simp; done) | (simp [*]; done)), H', ⟨by first | omega | exact Nat.le_refl _⟩, ⟨by (with_reducible repeat (first | apply Kd.V_alloc | apply Kd.V_drewN | apply Kd.V_drew)); exact HO0.out⟩, ⟨by repeat (first | (with_reducible first | exact HB.out | apply below_alloc | apply pw_below_drewN | apply below_drew1) | exact HB.out)⟩⟩
        · rw [if_neg c6] at H
          have c6b0 : ((l0.length : Int) == 0) = false := beq_eq_false_iff_ne.mpr c6
          have c6b1 : ((l0.length : Int) != 0) = true := bne_iff_ne.mpr c6
          have c6b2 : ¬ (l0 = []) := fun h_ => c6 (by rw [h_]; rfl)
          (first | rw [c6b0] | (simp only [i64_w]; rw [c6b0]) | skip)
          by_cases c7 : 0 < (l0.length : Int)
          · rw [if_pos c7] at H
            have c7b0 : decide (0 < (l0.length : Int)) = true := decide_eq_true c7
            have c7b1 : decide (0 < l0.length) = true := decide_eq_true (by omega)
            clear c7
            have H' := Aside0.mk H
            clear H
            have p168 : 0 ≤ (0 : Int) := (by omega)
            have q168 : 0 < (l0.length : Int) := of_decide_eq_true (by first | (with_reducible assumption) | assumption)
            obtain ⟨ad168, e168, hx168_0⟩ := Kd.at_int (Kd.V_reads' HO0.out).2.2 0 p168 q168
            cases e168
            have qi168 : (0 < l0.length) = True := eq_true (by omega)
            (try rw [show ((0 : Int)).toNat = 0 from rfl] at hx168_0)
            (try rw [Addr.add_zero'] at hx168_0)
            replace p168 := eq_true p168
            replace q168 := eq_true q168
            (try (have h_ := of_eq_true q168; simp only [ByteArray.size_append, ByteArray.size_extract, Nat.min_self, Int.toNat_natCast, Nat.sub_zero, Int.natCast_add, size_lit, List.length_cons, List.length_nil, Nat.zero_add, Nat.reduceAdd, Int.natCast_one, Int.cast_ofNat_Int] at h_; have q168s := eq_true h_; clear h_))
            go_wp2
            go_meet
            case rel => exact ⟨_, (((rd l0 0) != 256)), (by first | rfl | (simp; done) | (simp [*]; done)), H', ⟨by first | omega | exact Nat.le_refl _⟩, ⟨by (with_reducible repeat (first | apply Kd.V_alloc | apply Kd.V_drewN | apply Kd.V_drew)); exact HO0.out⟩, ⟨by repeat (first | (with_reducible first | exact HB.out | apply below_alloc | apply pw_below_drewN | apply below_drew1) | exact HB.out)⟩⟩
          · rw [if_neg c7] at H
            exact absurd H (by simp)
      case rest =>
        clear HC5
        try clear c1
        try clear p1
        try clear q1
        try clear hx1
        try clear qi1
        try clear c2
        try clear c2b0
        try clear c2b1
        try clear p2
        try clear c4
        try clear c6
        try clear c6b0
        try clear c6b1
        try clear c6b2
        try clear c7
        try clear c7b0
        try clear c7b1
        try clear hx168_0
        try clear p168
        try clear q168
        obtain ⟨kq, x19_4, rfl, HA, HJ4, HO_0, HB⟩ := hcut
        cases kq with
        | zero => exact absurd HA.out (by simp [gs1_FromChars.j0])
        | succ kj4 =>
          have H := HA.out
          clear HA
          simp only [gs1_FromChars.j0] at H
          by_cases c8 : x19_4 = true
          · subst c8
            have H1 : (some (([] : List (S38)), 9)) = some (r1, r2) := by rw [if_pos rfl] at H; exact H
            clear H
            have H := H1
            clear H1
            simp only [Option.some.injEq, Prod.mk.injEq] at H
            obtain ⟨rfl, rfl⟩ := H
            go_wp2
            go_ret2
            exact ⟨_, by first | rfl | (simp [errW_none, errW_some] <;> rfl) | (simp [*, errW_none, errW_some] <;> rfl), by first | exact Kd.R_nil _ _ _ _ _ | exact Kd.N_nil _ _ _ _ _ | exact Kd.V_nil _ _ _ _ _ | exact Kd.Q_nil _ _ _ _ _ | exact Kd.S_nil _ _ _ _ _, by repeat (first | (with_reducible first | exact HB.out | apply below_alloc | apply pw_below_drewN | apply below_drew1) | exact HB.out)⟩
          · replace c8 := Bool.eq_false_iff.mpr c8
            subst c8
            have H1 : (if (l0.length : Int) = 1 then (some (([] : List (S38)), 5)) else (if 1 ≤ (l0.length : Int) then (gs1_FromChars.l0 kj4 ([] : List (S38)) (l0.drop 1)) else (none))) = some (r1, r2) := by rw [if_neg (show ¬ (false = true) by decide)] at H; exact H
            clear H
            have H := H1
            clear H1
            by_cases c9 : (l0.length : Int) = 1
            · rw [if_pos c9] at H
              have c9b0 : ((l0.length : Int) == 1) = true := beq_iff_eq.mpr c9
              have c9b1 : ((l0.length : Int) != 1) = false := bne_eq_false_iff_eq.mpr c9
              clear c9
              simp only [Option.some.injEq, Prod.mk.injEq] at H
              obtain ⟨rfl, rfl⟩ := H
              go_wp2
              go_ret2
              exact ⟨_, by first | rfl | (simp [errW_none, errW_some] <;> rfl) | (simp [*, errW_none, errW_some] <;> rfl), by first | exact Kd.R_nil _ _ _ _ _ | exact Kd.N_nil _ _ _ _ _ | exact Kd.V_nil _ _ _ _ _ | exact Kd.Q_nil _ _ _ _ _ | exact Kd.S_nil _ _ _ _ _, by repeat (first | (with_reducible first | exact HB.out | apply below_alloc | apply pw_below_drewN | apply below_drew1) | exact HB.out)⟩
            · rw [if_neg c9] at H
              have c9b0 : ((l0.length : Int) == 1) = false := beq_eq_false_iff_ne.mpr c9
              have c9b1 : ((l0.length : Int) != 1) = true := bne_iff_ne.mpr c9
              by_cases c10 : 1 ≤ (l0.length : Int)
              · rw [if_pos c10] at H
                have c10b0 := eq_true c10
                (try (have h_ := of_eq_true c10b0; simp only [ByteArray.size_append, ByteArray.size_extract, Nat.min_self, Int.toNat_natCast, Nat.sub_zero, Int.natCast_add, size_lit, List.length_cons, List.length_nil, Nat.zero_add, Nat.reduceAdd, Int.natCast_one, Int.cast_ofNat_Int] at h_; have c10b0s := eq_true h_; clear h_))
                have c10b1 : decide (1 ≤ (l0.length : Int)) = true := decide_eq_true c10
                clear c10
                obtain ⟨y169, hy169⟩ : ∃ y_ : List Int, y_ = (l0.drop 1) := ⟨_, rfl⟩
                replace H : (gs1_FromChars.l0 kj4 ([] : List (S38)) y169) = some (r1, r2) := by first | (rw [hy169]; with_reducible exact H) | (have H2_ := (Option.bind_some _ _).symm.trans H; rw [hy169]; with_reducible exact H2_) | (have H2_ := (Option.bind_some _ _).symm.trans H; with_reducible exact H2_) | with_reducible exact H | (rw [hy169]; exact H) | exact H
                have Ny169 := Aside0.mk hy169
                clear hy169
                have H' := Aside0.mk H
                clear H
                have q11 : (1 : Int) ≤ ((l0.length : Int) : Int) := of_decide_eq_true (by first | (with_reducible assumption) | assumption)
                obtain ⟨i011, hi011, _, hsz11, _⟩ := info_parts info3
                have hroom11 : l0.length ≤ c0 := (Kd.V_reads' HO_0.out).2.1
                have hC11 : Kd.F (Kd.int .i64) _ _ A0 l0.length l0 := (Kd.V_at (base := w.heap.size) HO_0.out).2.2
                have hcut11 := cut_from (P := Tryd.prog) 29 3 .i64 Tryd.underlying29 hi011 1 hsz11 A0 l0.length c0 1 (by omega) q11
                have hr11 := Kd.F_cut (m := (1 : Int).toNat) (c := c0) hC11 (by omega) hroom11
                obtain ⟨A11, hA11⟩ : ∃ A1, A1 = (if c0 = (1 : Int).toNat then A0 else (A0 : Option Addr).map (·.add ((1 : Int).toNat * 1))) := ⟨_, rfl⟩
                obtain ⟨c11, hc11⟩ : ∃ c1, c1 = c0 - (1 : Int).toNat := ⟨_, rfl⟩
                have hy11 : y169.length = l0.length - (1 : Int).toNat := (by rw [Ny169.out, List.length_drop] <;> omega)
                rw [show (l0).drop (1 : Int).toNat = y169 from Ny169.out.symm] at hr11
                replace hr11 : Kd.F (Kd.int .i64) _ _ A11 y169.length y169 := (by rw [hA11]; exact hr11)
                rw [← hy11, ← hA11, ← hc11] at hcut11
                have HO173 := Aside0.mk (show Kd.V (Kd.int .i64) 3 _ w.heap.size _ (.slice A11 y169.length c11) y169 from Kd.V_mk (by rw [hy11, hc11]; exact Nat.sub_le_sub_right hroom11 _) hr11)
                have HC173 := Aside0.mk (show y169.length ≤ c11 from by rw [hy11, hc11]; exact Nat.sub_le_sub_right hroom11 _)
                clear hr11 hC11 hroom11 hi011 hsz11 hc11
                have KY11 := Aside0.mk hy11
                have KA11 := Aside0.mk hA11
                clear hy11 hA11
                replace q11 := eq_true q11
                (try (have h_ := of_eq_true q11; simp only [ByteArray.size_append, ByteArray.size_extract, Nat.min_self, Int.toNat_natCast, Nat.sub_zero, Int.natCast_add, size_lit, List.length_cons, List.length_nil, Nat.zero_add, Nat.reduceAdd, Int.natCast_one, Int.cast_ofNat_Int] at h_; have q11s := eq_true h_; clear h_))
                go_wp2
                go_loopg [4, 5] kj4 (fun kq v4 v5 w' => ∃ (x4_2 : List (S38)) (x5_2 : List Int), Aside0 (gs1_FromChars.l0 kq x4_2 x5_2 = some (r1, r2)) ∧ Aside0 (kq ≤ kj4) ∧ Aside0 (Kd.R k38 38 w' w.heap.size (fun k_ => (w.heap.size ≤ k_)) v4 x4_2) ∧ Aside0 (Kd.V (Kd.int .i64) 3 w' w.heap.size (fun k_ => (P0_ k_ ∨ w.heap.size ≤ k_) ∧ some k_ ≠ (v4 : Value).ownBlock) v5 x5_2) ∧ Aside0 (Below w.heap.size w w'))
                case atStart => exact ⟨(([] : List (S38))), (y169), H', ⟨Nat.le_refl _⟩, ⟨by first | exact Kd.R_nil _ _ _ _ _ | exact Kd.N_nil _ _ _ _ _ | exact Kd.V_nil _ _ _ _ _ | exact Kd.Q_nil _ _ _ _ _ | exact Kd.S_nil _ _ _ _ _⟩, ⟨by (with_reducible repeat (first | apply Kd.V_alloc | apply Kd.V_drewN | apply Kd.V_drew)); exact Kd.V_mono HO173.out (fun _ hk => ⟨hk, (by simp [Value.ownBlock])⟩)⟩, ⟨by repeat (first | (with_reducible first | exact HB.out | apply below_alloc | apply pw_below_drewN | apply below_drew1) | exact HB.out)⟩⟩
                case round =>
                  clear H'
                  try clear c1
                  try clear p1
                  try clear q1
                  try clear hx1
                  try clear qi1
                  try clear c2
                  try clear c2b0
                  try clear c2b1
                  try clear p2
                  try clear c4
                  try clear c6
                  try clear c6b0
                  try clear c6b1
                  try clear c6b2
                  try clear c7
                  try clear c7b0
                  try clear c7b1
                  try clear c8
                  try clear c9
                  try clear c9b0
                  try clear c9b1
                  try clear c10
                  try clear c10b0
                  try clear c10b1
                  try clear c11
                  try clear q11
                  try clear hx168_0
                  try clear p1
                  try clear p168
                  try clear p2
                  try clear q1
                  try clear q11
                  try clear q168
                  obtain ⟨x4_2, x5_2, HA, HK2, HO_4, HO_5, HB⟩ := hrel
                  cases gk with
                  | zero => exact absurd HA.out (by simp [gs1_FromChars.l0])
                  | succ k2 =>
                    have H := HA.out
                    clear HA
                    simp only [gs1_FromChars.l0] at H
                    by_cases c12 : (x5_2.length : Int) > 0
                    · rw [if_pos c12] at H
                      have c12b0 : decide (0 < (x5_2.length : Int)) = true := decide_eq_true c12
                      have c12b1 : decide (0 < x5_2.length) = true := decide_eq_true (by omega)
                      clear c12
                      by_cases c13 : 0 < (x5_2.length : Int)
                      · rw [if_pos c13] at H
                        have c13b0 : decide (0 < (x5_2.length : Int)) = true := decide_eq_true c13
                        have c13b1 : decide (0 < x5_2.length) = true := decide_eq_true (by omega)
                        clear c13
                        by_cases c14 : (rd x5_2 0) = 256
                        · rw [if_pos c14] at H
                          have c14b0 : ((rd x5_2 0) == 256) = true := beq_iff_eq.mpr c14
                          have c14b1 : ((rd x5_2 0) != 256) = false := bne_eq_false_iff_eq.mpr c14
                          clear c14
                          simp only [Option.some.injEq, Prod.mk.injEq] at H
                          obtain ⟨rfl, rfl⟩ := H
                          obtain ⟨Ao15, co15, eo15⟩ := Kd.V_slice HO_5.out
                          subst eo15
                          have p174 : 0 ≤ (0 : Int) := (by omega)
                          have q174 : 0 < (x5_2.length : Int) := of_decide_eq_true (by first | (with_reducible assumption) | assumption)
                          obtain ⟨ad174, e174, hx174_0⟩ := Kd.at_int (Kd.V_reads' HO_5.out).2.2 0 p174 q174
                          cases e174
                          have qi174 : (0 < x5_2.length) = True := eq_true (by omega)
                          (try rw [show ((0 : Int)).toNat = 0 from rfl] at hx174_0)
                          (try rw [Addr.add_zero'] at hx174_0)
                          replace p174 := eq_true p174
                          replace q174 := eq_true q174
                          (try (have h_ := of_eq_true q174; simp only [ByteArray.size_append, ByteArray.size_extract, Nat.min_self, Int.toNat_natCast, Nat.sub_zero, Int.natCast_add, size_lit, List.length_cons, List.length_nil, Nat.zero_add, Nat.reduceAdd, Int.natCast_one, Int.cast_ofNat_Int] at h_; have q174s := eq_true h_; clear h_))
                          go_wp2
                          go_ret2
                          exact ⟨_, by first | rfl | (simp [errW_none, errW_some] <;> rfl) | (simp [*, errW_none, errW_some] <;> rfl), by first | exact Kd.R_nil _ _ _ _ _ | exact Kd.N_nil _ _ _ _ _ | exact Kd.V_nil _ _ _ _ _ | exact Kd.Q_nil _ _ _ _ _ | exact Kd.S_nil _ _ _ _ _, by repeat (first | (with_reducible first | exact HB.out | apply below_alloc | apply pw_below_drewN | apply below_drew1) | exact HB.out)⟩
                        · rw [if_neg c14] at H
                          have c14b0 : ((rd x5_2 0) == 256) = false := beq_eq_false_iff_ne.mpr c14
                          have c14b1 : ((rd x5_2 0) != 256) = true := bne_iff_ne.mpr c14
                          replace H := Option.bind_eq_some_iff.mp H
                          obtain ⟨t175, A160, H⟩ := H
                          replace H : ((gs1_prefix.f k2 t175).bind fun bt176 => (if bt176.2.2.2.2.2.2 = true then (if 0 ≤ (bt176.1.size : Int) then (if (bt176.1.size : Int) ≤ (t175.size : Int) then (if bt176.2.1 > 0 then (if ((t175.extract ((bt176.1.size : Int) : Int).toNat t175.size).size : Int) < bt176.2.1 then (some (([] : List (S38)), 10)) else (if 0 ≤ bt176.2.1 then (if bt176.2.1 ≤ ((t175.extract ((bt176.1.size : Int) : Int).toNat t175.size).size : Int) then (gs1_FromChars.j2 k2 x4_2 x5_2 bt176.1 bt176.2.1 bt176.2.2.1 bt176.2.2.2.1 bt176.2.2.2.2.1 bt176.2.2.2.2.2.1 bt176.1 ((t175.extract ((bt176.1.size : Int) : Int).toNat t175.size).extract 0 (bt176.2.1 : Int).toNat)) else (none)) else (none))) else (gs1_FromChars.j2 k2 x4_2 x5_2 bt176.1 bt176.2.1 bt176.2.2.1 bt176.2.2.2.1 bt176.2.2.2.2.1 bt176.2.2.2.2.2.1 bt176.1 (t175.extract ((bt176.1.size : Int) : Int).toNat t175.size))) else (none)) else (none)) else (some (([] : List (S38)), 29)))) = some (r1, r2) := H
                          have A16 := Aside0.mk A160
                          clear A160
                          replace H := Option.bind_eq_some_iff.mp H
                          obtain ⟨⟨t176, t177, t178, t179, t180, t181, t182⟩, A170, H⟩ := H
                          replace H : (if t182 = true then (if 0 ≤ (t176.size : Int) then (if (t176.size : Int) ≤ (t175.size : Int) then (if t177 > 0 then (if ((t175.extract ((t176.size : Int) : Int).toNat t175.size).size : Int) < t177 then (some (([] : List (S38)), 10)) else (if 0 ≤ t177 then (if t177 ≤ ((t175.extract ((t176.size : Int) : Int).toNat t175.size).size : Int) then (gs1_FromChars.j2 k2 x4_2 x5_2 t176 t177 t178 t179 t180 t181 t176 ((t175.extract ((t176.size : Int) : Int).toNat t175.size).extract 0 (t177 : Int).toNat)) else (none)) else (none))) else (gs1_FromChars.j2 k2 x4_2 x5_2 t176 t177 t178 t179 t180 t181 t176 (t175.extract ((t176.size : Int) : Int).toNat t175.size))) else (none)) else (none)) else (some (([] : List (S38)), 29))) = some (r1, r2) := H
                          have A17 := Aside0.mk A170
                          clear A170
                          by_cases c18 : t182 = true
                          · subst c18
                            have H1 : (if 0 ≤ (t176.size : Int) then (if (t176.size : Int) ≤ (t175.size : Int) then (if t177 > 0 then (if ((t175.extract ((t176.size : Int) : Int).toNat t175.size).size : Int) < t177 then (some (([] : List (S38)), 10)) else (if 0 ≤ t177 then (if t177 ≤ ((t175.extract ((t176.size : Int) : Int).toNat t175.size).size : Int) then (gs1_FromChars.j2 k2 x4_2 x5_2 t176 t177 t178 t179 t180 t181 t176 ((t175.extract ((t176.size : Int) : Int).toNat t175.size).extract 0 (t177 : Int).toNat)) else (none)) else (none))) else (gs1_FromChars.j2 k2 x4_2 x5_2 t176 t177 t178 t179 t180 t181 t176 (t175.extract ((t176.size : Int) : Int).toNat t175.size))) else (none)) else (none)) = some (r1, r2) := by rw [if_pos rfl] at H; exact H
                            clear H
                            have H := H1
                            clear H1
                            by_cases c19 : 0 ≤ (t176.size : Int)
                            · rw [if_pos c19] at H
                              have c19b0 := eq_true c19
                              (try (have h_ := of_eq_true c19b0; simp only [ByteArray.size_append, ByteArray.size_extract, Nat.min_self, Int.toNat_natCast, Nat.sub_zero, Int.natCast_add, size_lit, List.length_cons, List.length_nil, Nat.zero_add, Nat.reduceAdd, Int.natCast_one, Int.cast_ofNat_Int] at h_; have c19b0s := eq_true h_; clear h_))
                              have c19b1 : decide (0 ≤ (t176.size : Int)) = true := decide_eq_true c19
                              clear c19
                              by_cases c20 : (t176.size : Int) ≤ (t175.size : Int)
                              · rw [if_pos c20] at H
                                have c20b0 := eq_true c20
                                (try (have h_ := of_eq_true c20b0; simp only [ByteArray.size_append, ByteArray.size_extract, Nat.min_self, Int.toNat_natCast, Nat.sub_zero, Int.natCast_add, size_lit, List.length_cons, List.length_nil, Nat.zero_add, Nat.reduceAdd, Int.natCast_one, Int.cast_ofNat_Int] at h_; have c20b0s := eq_true h_; clear h_))
                                have c20b1 : decide ((t176.size : Int) ≤ (t175.size : Int)) = true := decide_eq_true c20
                                clear c20
                                have HC21 := Aside0.mk H
                                clear H
                                obtain ⟨Ao22, co22, eo22⟩ := Kd.V_slice HO_5.out
                                subst eo22
                                have p174 : 0 ≤ (0 : Int) := (by omega)
                                have q174 : 0 < (x5_2.length : Int) := of_decide_eq_true (by first | (with_reducible assumption) | assumption)
                                obtain ⟨ad174, e174, hx174_0⟩ := Kd.at_int (Kd.V_reads' HO_5.out).2.2 0 p174 q174
                                cases e174
                                have qi174 : (0 < x5_2.length) = True := eq_true (by omega)
                                (try rw [show ((0 : Int)).toNat = 0 from rfl] at hx174_0)
                                (try rw [Addr.add_zero'] at hx174_0)
                                replace p174 := eq_true p174
                                replace q174 := eq_true q174
                                (try (have h_ := of_eq_true q174; simp only [ByteArray.size_append, ByteArray.size_extract, Nat.min_self, Int.toNat_natCast, Nat.sub_zero, Int.natCast_add, size_lit, List.length_cons, List.length_nil, Nat.zero_add, Nat.reduceAdd, Int.natCast_one, Int.cast_ofNat_Int] at h_; have q174s := eq_true h_; clear h_))
                                go_upto_if 60 with (first | ((with_reducible refine gate_callee (f := 25) rfl ?_); refine goesL_ (some 43) rfl rfl Tryd.func25 (by kernel_rfl) rfl #[.slice (some ad174) x5_2.length co22] rfl (by (try simp only [List.map_toArray, List.map_cons, List.map_nil]); first | done | rfl | (simp only [List.length_drop, List.length_take]; rfl)) ?_; (with_reducible refine (gs1_run.calls k2 (fun k_ => ((P0_ k_ ∨ w.heap.size ≤ k_) ∧ some k_ ≠ (u4 : Value).ownBlock)) _ _ x5_2 t175 _ ?side1 A16.out).mono ?_); (case side1 => exact HO_5.out); rintro e w23 ⟨rfl, hb⟩; refine ⟨_, rfl, ?_⟩; have n0_ := Aside0.mk (Kd.R_below (by (with_reducible repeat (first | apply Kd.R_alloc | apply Kd.R_drewN | apply Kd.R_drew)); exact HO_4.out) hb); have n1_ := Aside0.mk (Kd.V_below (by (with_reducible repeat (first | apply Kd.V_alloc | apply Kd.V_drewN | apply Kd.V_drew)); exact HO_5.out) hb); have n2_ := Aside0.mk (below_step (by repeat (first | (with_reducible first | exact HB.out | apply below_alloc | apply pw_below_drewN | apply below_drew1) | exact HB.out)) hb); clear HO_4; clear HO_5; clear HB; have HO_4 := n0_; have HO_5 := n1_; have HB := n2_; clear n0_ n1_ n2_; (try clear hb); (try clear hb2); (try clear hk); (try clear hi)) | ((with_reducible refine gate_callee (f := 26) rfl ?_); refine goesL_ (some 46) rfl rfl Tryd.func26 (by kernel_rfl) rfl #[.string t175] rfl (by (try simp only [List.map_toArray, List.map_cons, List.map_nil]); first | done | rfl | (simp only [List.length_drop, List.length_take]; rfl)) ?_; (with_reducible refine (gs1_prefix.calls k2 t175 t176 t177 t178 t179 t180 t181 true _ ?side1 A17.out).mono ?_); (case side1 => exact Tabs.below HT.out (by repeat (first | (with_reducible first | exact HB.out | apply below_alloc | apply pw_below_drewN | apply below_drew1) | exact HB.out))); rintro e w24 ⟨rfl, hb⟩; refine ⟨_, rfl, ?_⟩; have n0_ := Aside0.mk (Kd.R_below (by (with_reducible repeat (first | apply Kd.R_alloc | apply Kd.R_drewN | apply Kd.R_drew)); exact HO_4.out) hb); have n1_ := Aside0.mk (Kd.V_below (by (with_reducible repeat (first | apply Kd.V_alloc | apply Kd.V_drewN | apply Kd.V_drew)); exact HO_5.out) hb); have n2_ := Aside0.mk (below_step (by repeat (first | (with_reducible first | exact HB.out | apply below_alloc | apply pw_below_drewN | apply below_drew1) | exact HB.out)) hb); clear HO_4; clear HO_5; clear HB; have HO_4 := n0_; have HO_5 := n1_; have HB := n2_; clear n0_ n1_ n2_; (try clear hb); (try clear hb2); (try clear hk); (try clear hi)) | ((with_reducible refine gate_dst (N := 8) rfl ?_); (try (refine gate_guard (by rfl) ?_; dsimp only)); refine box_event ?hg (N := 8) ?hd (cs := #[.int .i64 0, .int .i64 0, .bool false, .bool false, .bool false]) (t := 56) ?hr ?_; (case hd => rfl); (case hg => rfl); (case hr => first | (go_simp; done) | (go_simp; rfl)); intro gb183 hg w25 hbox hb; have n0_ := Aside0.mk (Kd.R_below (by (with_reducible repeat (first | apply Kd.R_alloc | apply Kd.R_drewN | apply Kd.R_drew)); exact HO_4.out) hb); have n1_ := Aside0.mk (Kd.V_below (Kd.V_elderB (by (with_reducible repeat (first | apply Kd.V_alloc | apply Kd.V_drewN | apply Kd.V_drew)); exact HO_5.out) gb183 (Nat.le_of_eq hg.symm)) hb); have n2_ := Aside0.mk (below_step (by repeat (first | (with_reducible first | exact HB.out | apply below_alloc | apply pw_below_drewN | apply below_drew1) | exact HB.out)) hb); have n3_ := Aside0.mk (hbox); have n4_ := Aside0.mk ((by rw [hg]; exact (below_size (by repeat (first | (with_reducible first | exact HB.out | apply below_alloc | apply pw_below_drewN | apply below_drew1) | exact HB.out))) : w.heap.size ≤ gb183)); have n5_ := Aside0.mk ((by rw [hg]; exact (below_size (by repeat (first | (with_reducible first | exact HB.out | apply below_alloc | apply pw_below_drewN | apply below_drew1) | exact HB.out))) : w.heap.size ≤ gb183)); clear HO_4; clear HO_5; clear HB; have HO_4 := n0_; have HO_5 := n1_; have HB := n2_; have BK183 := n3_; have GW183 := n4_; have GE183 := n5_; clear n0_ n1_ n2_ n3_ n4_ n5_; clear hb hbox hg; have hcz26_0 : w25.cell? ⟨gb183, 0, none⟩ = some (.int .i64 0) := (blk_cell BK183.out 0).trans rfl; have hcz26_1 : w25.cell? ⟨gb183, 1, none⟩ = some (.int .i64 0) := (blk_cell BK183.out 1).trans rfl; have hcz26_2 : w25.cell? ⟨gb183, 2, none⟩ = some (.bool false) := (blk_cell BK183.out 2).trans rfl; have hcz26_3 : w25.cell? ⟨gb183, 3, none⟩ = some (.bool false) := (blk_cell BK183.out 3).trans rfl; have hcz26_4 : w25.cell? ⟨gb183, 4, none⟩ = some (.bool false) := (blk_cell BK183.out 4).trans rfl; have hfz26_0 := blk_frozen BK183.out 0; have hfz26_1 := blk_frozen BK183.out 1; have hfz26_2 := blk_frozen BK183.out 2; have hfz26_3 := blk_frozen BK183.out 3; have hfz26_4 := blk_frozen BK183.out 4) | ((with_reducible refine gate_dst (N := 10) rfl ?_); (try (refine gate_guard (by rfl) ?_; dsimp only)); refine box_event ?hg (N := 10) ?hd (cs := #[.string (⟨#[]⟩ : ByteArray), .string (⟨#[]⟩ : ByteArray)]) (t := 38) ?hr ?_; (case hd => rfl); (case hg => rfl); (case hr => first | (go_simp; done) | (go_simp; rfl)); intro gb184 hg w27 hbox hb; have n0_ := Aside0.mk (Kd.R_below (Kd.R_elderB (by (with_reducible repeat (first | apply Kd.R_alloc | apply Kd.R_drewN | apply Kd.R_drew)); exact (Kd.R_mono (Kd.R_far (p := ⟨gb183, 4, none⟩) (Kd.R_far (p := ⟨gb183, 3, none⟩) (Kd.R_far (p := ⟨gb183, 2, none⟩) (Kd.R_far (p := ⟨gb183, 1, none⟩) (Kd.R_far (p := ⟨gb183, 0, none⟩) (Kd.R_types HO_4.out BK183.out (by decide)) (fun _ hk => hk.2) (.int .i64 t177)) (fun _ hk => hk.2) (.int .i64 t178)) (fun _ hk => hk.2) (.bool t179)) (fun _ hk => hk.2) (.bool t180)) (fun _ hk => hk.2) (.bool t181)) (fun _ h_ => h_.1))) gb184 (Nat.le_of_eq hg.symm)) hb); have n1_ := Aside0.mk (Kd.V_below (Kd.V_elderB (by (with_reducible repeat (first | apply Kd.V_alloc | apply Kd.V_drewN | apply Kd.V_drew)); exact (Kd.V_mono (Kd.V_far (p := ⟨gb183, 4, none⟩) (Kd.V_far (p := ⟨gb183, 3, none⟩) (Kd.V_far (p := ⟨gb183, 2, none⟩) (Kd.V_far (p := ⟨gb183, 1, none⟩) (Kd.V_far (p := ⟨gb183, 0, none⟩) (Kd.V_mono HO_5.out (fun k_ hk => (⟨hk, hk.2⟩ : _ ∧ k_ ≠ gb183))) (fun _ hk => hk.2) (.int .i64 t177)) (fun _ hk => hk.2) (.int .i64 t178)) (fun _ hk => hk.2) (.bool t179)) (fun _ hk => hk.2) (.bool t180)) (fun _ hk => hk.2) (.bool t181)) (fun _ h_ => h_.1))) gb184 (Nat.le_of_eq hg.symm)) hb); have n2_ := Aside0.mk (blk_below (g := gb183) (o := .cells #[.int .i64 t177, .int .i64 t178, .bool t179, .bool t180, .bool t181] 56 (0, 0)) (by (with_reducible repeat (first | refine blk_drewN ?_ _ | refine blk_drew ?_ | refine blk_alloc ?_ _)); refine blk_put (cs := #[.int .i64 t177, .int .i64 t178, .bool t179, .bool t180, .bool false]) ?_ 4 _ rfl; (with_reducible repeat (first | refine blk_drewN ?_ _ | refine blk_drew ?_ | refine blk_alloc ?_ _)); refine blk_put (cs := #[.int .i64 t177, .int .i64 t178, .bool t179, .bool false, .bool false]) ?_ 3 _ rfl; (with_reducible repeat (first | refine blk_drewN ?_ _ | refine blk_drew ?_ | refine blk_alloc ?_ _)); refine blk_put (cs := #[.int .i64 t177, .int .i64 t178, .bool false, .bool false, .bool false]) ?_ 2 _ rfl; (with_reducible repeat (first | refine blk_drewN ?_ _ | refine blk_drew ?_ | refine blk_alloc ?_ _)); refine blk_put (cs := #[.int .i64 t177, .int .i64 0, .bool false, .bool false, .bool false]) ?_ 1 _ rfl; (with_reducible repeat (first | refine blk_drewN ?_ _ | refine blk_drew ?_ | refine blk_alloc ?_ _)); refine blk_put (cs := #[.int .i64 0, .int .i64 0, .bool false, .bool false, .bool false]) ?_ 0 _ rfl; (with_reducible repeat (first | refine blk_drewN ?_ _ | refine blk_drew ?_ | refine blk_alloc ?_ _)); exact BK183.out) hb); have n3_ := Aside0.mk (below_step (by repeat (first | (with_reducible first | exact HB.out | apply below_alloc | apply pw_below_drewN | apply below_drew1 | refine below_set ?_ GE183.out) | exact HB.out)) hb); have n4_ := Aside0.mk (hbox); have n5_ := Aside0.mk ((by rw [hg]; exact (below_size (by repeat (first | (with_reducible first | exact HB.out | apply below_alloc | apply pw_below_drewN | apply below_drew1 | refine below_set ?_ GE183.out) | exact HB.out))) : w.heap.size ≤ gb184)); have n6_ := Aside0.mk ((by rw [hg]; exact (below_size (by repeat (first | (with_reducible first | exact HB.out | apply below_alloc | apply pw_below_drewN | apply below_drew1 | refine below_set ?_ GE183.out) | exact HB.out))) : w.heap.size ≤ gb184)); have n7_ := Aside0.mk ((by rw [hg]; exact Nat.ne_of_lt (blk_lt (g := gb183) (o := .cells #[.int .i64 t177, .int .i64 t178, .bool t179, .bool t180, .bool t181] 56 (0, 0)) (by (with_reducible repeat (first | refine blk_drewN ?_ _ | refine blk_drew ?_ | refine blk_alloc ?_ _)); refine blk_put (cs := #[.int .i64 t177, .int .i64 t178, .bool t179, .bool t180, .bool false]) ?_ 4 _ rfl; (with_reducible repeat (first | refine blk_drewN ?_ _ | refine blk_drew ?_ | refine blk_alloc ?_ _)); refine blk_put (cs := #[.int .i64 t177, .int .i64 t178, .bool t179, .bool false, .bool false]) ?_ 3 _ rfl; (with_reducible repeat (first | refine blk_drewN ?_ _ | refine blk_drew ?_ | refine blk_alloc ?_ _)); refine blk_put (cs := #[.int .i64 t177, .int .i64 t178, .bool false, .bool false, .bool false]) ?_ 2 _ rfl; (with_reducible repeat (first | refine blk_drewN ?_ _ | refine blk_drew ?_ | refine blk_alloc ?_ _)); refine blk_put (cs := #[.int .i64 t177, .int .i64 0, .bool false, .bool false, .bool false]) ?_ 1 _ rfl; (with_reducible repeat (first | refine blk_drewN ?_ _ | refine blk_drew ?_ | refine blk_alloc ?_ _)); refine blk_put (cs := #[.int .i64 0, .int .i64 0, .bool false, .bool false, .bool false]) ?_ 0 _ rfl; (with_reducible repeat (first | refine blk_drewN ?_ _ | refine blk_drew ?_ | refine blk_alloc ?_ _)); exact BK183.out)) : gb183 ≠ gb184)); have n8_ := Aside0.mk ((by rw [hg]; exact Nat.ne_of_gt (blk_lt (g := gb183) (o := .cells #[.int .i64 t177, .int .i64 t178, .bool t179, .bool t180, .bool t181] 56 (0, 0)) (by (with_reducible repeat (first | refine blk_drewN ?_ _ | refine blk_drew ?_ | refine blk_alloc ?_ _)); refine blk_put (cs := #[.int .i64 t177, .int .i64 t178, .bool t179, .bool t180, .bool false]) ?_ 4 _ rfl; (with_reducible repeat (first | refine blk_drewN ?_ _ | refine blk_drew ?_ | refine blk_alloc ?_ _)); refine blk_put (cs := #[.int .i64 t177, .int .i64 t178, .bool t179, .bool false, .bool false]) ?_ 3 _ rfl; (with_reducible repeat (first | refine blk_drewN ?_ _ | refine blk_drew ?_ | refine blk_alloc ?_ _)); refine blk_put (cs := #[.int .i64 t177, .int .i64 t178, .bool false, .bool false, .bool false]) ?_ 2 _ rfl; (with_reducible repeat (first | refine blk_drewN ?_ _ | refine blk_drew ?_ | refine blk_alloc ?_ _)); refine blk_put (cs := #[.int .i64 t177, .int .i64 0, .bool false, .bool false, .bool false]) ?_ 1 _ rfl; (with_reducible repeat (first | refine blk_drewN ?_ _ | refine blk_drew ?_ | refine blk_alloc ?_ _)); refine blk_put (cs := #[.int .i64 0, .int .i64 0, .bool false, .bool false, .bool false]) ?_ 0 _ rfl; (with_reducible repeat (first | refine blk_drewN ?_ _ | refine blk_drew ?_ | refine blk_alloc ?_ _)); exact BK183.out)) : gb184 ≠ gb183)); clear HO_4; clear HO_5; clear BK183; clear HB; have HO_4 := n0_; have HO_5 := n1_; have BK183 := n2_; have HB := n3_; have BK184 := n4_; have GW184 := n5_; have GE184 := n6_; have NB183_184 := n7_; have NB184_183 := n8_; clear n0_ n1_ n2_ n3_ n4_ n5_ n6_ n7_ n8_; clear hb hbox hg; have hnb28 := NB184_183.out; have hnc28 := NB183_184.out; have hcz29_0 : w27.cell? ⟨gb184, 0, none⟩ = some (.string (⟨#[]⟩ : ByteArray)) := (blk_cell BK184.out 0).trans rfl; have hcz29_1 : w27.cell? ⟨gb184, 1, none⟩ = some (.string (⟨#[]⟩ : ByteArray)) := (blk_cell BK184.out 1).trans rfl; have hfz29_0 := blk_frozen BK184.out 0; have hfz29_1 := blk_frozen BK184.out 1; have hcz30_0 : w27.cell? ⟨gb183, 0, none⟩ = some (.int .i64 t177) := (blk_cell BK183.out 0).trans rfl; have hcz30_1 : w27.cell? ⟨gb183, 1, none⟩ = some (.int .i64 t178) := (blk_cell BK183.out 1).trans rfl; have hcz30_2 : w27.cell? ⟨gb183, 2, none⟩ = some (.bool t179) := (blk_cell BK183.out 2).trans rfl; have hcz30_3 : w27.cell? ⟨gb183, 3, none⟩ = some (.bool t180) := (blk_cell BK183.out 3).trans rfl; have hcz30_4 : w27.cell? ⟨gb183, 4, none⟩ = some (.bool t181) := (blk_cell BK183.out 4).trans rfl; have hfz30_0 := blk_frozen BK183.out 0; have hfz30_1 := blk_frozen BK183.out 1; have hfz30_2 := blk_frozen BK183.out 2; have hfz30_3 := blk_frozen BK183.out 3; have hfz30_4 := blk_frozen BK183.out 4))
                                (try simp only [Act.put, List.setIfInBounds_toArray, List.set_cons_zero, List.set_cons_succ])
                                go_cut [] (fun wc => ∃ (kq : Nat) (x185001_20 : ByteArray), Aside0 (gs1_FromChars.j2 kq x4_2 x5_2 t176 t177 t178 t179 t180 t181 t176 x185001_20 = some (r1, r2)) ∧ Aside0 (kq ≤ k2) ∧ Aside0 (Kd.R k38 38 wc w.heap.size (fun k_ => (w.heap.size ≤ k_) ∧ k_ ≠ gb184) u4 x4_2) ∧ Aside0 (Kd.V (Kd.int .i64) 3 wc w.heap.size (fun k_ => (P0_ k_ ∨ w.heap.size ≤ k_) ∧ some k_ ≠ (u4 : Value).ownBlock ∧ k_ ≠ gb183 ∧ k_ ≠ gb184) (.slice (some ad174) x5_2.length co22) x5_2) ∧ Aside0 (wc.heap[gb183]? = some (.cells #[.int .i64 t177, .int .i64 t178, .bool t179, .bool t180, .bool t181] 56 (0, 0))) ∧ Aside0 (wc.heap[gb184]? = some (.cells #[.string t176, .string x185001_20] 38 (0, 0))) ∧ Aside0 (Below w.heap.size w wc))
                                case first =>
                                  have H := HC21.out
                                  clear HC21
                                  by_cases c31 : t177 > 0
                                  · rw [if_pos c31] at H
                                    have c31b0 : decide (0 < t177) = true := decide_eq_true c31
                                    clear c31
                                    (first | rw [c31b0] | (simp only [i64_w]; rw [c31b0]) | skip)
                                    by_cases c32 : ((t175.extract ((t176.size : Int) : Int).toNat t175.size).size : Int) < t177
                                    · rw [if_pos c32] at H
                                      have c32b0 : decide (((t175.extract ((t176.size : Int) : Int).toNat t175.size).size : Int) < t177) = true := decide_eq_true c32
                                      (try (have c32b0s := c32b0; simp only [ByteArray.size_append, ByteArray.size_extract, Nat.min_self, Int.toNat_natCast, Nat.sub_zero, Int.natCast_add, size_lit, List.length_cons, List.length_nil, Nat.zero_add, Nat.reduceAdd, Int.natCast_one, Int.cast_ofNat_Int] at c32b0s))
                                      (try (have h_ := of_decide_eq_true c32b0; simp only [ByteArray.size_append, ByteArray.size_extract, Nat.min_self, Int.toNat_natCast, Nat.sub_zero, Int.natCast_add, size_lit, List.length_cons, List.length_nil, Nat.zero_add, Nat.reduceAdd, Int.natCast_one, Int.cast_ofNat_Int] at h_; have c32b0t := eq_true h_; clear h_))
                                      clear c32
                                      simp only [Option.some.injEq, Prod.mk.injEq] at H
                                      obtain ⟨rfl, rfl⟩ := H
                                      have hnb33 := NB184_183.out
                                      have hnc33 := NB183_184.out
                                      have hcz34_0 : w27.cell? ⟨gb184, 0, none⟩ = some (.string (⟨#[]⟩ : ByteArray)) := (blk_cell BK184.out 0).trans rfl
                                      have hcz34_1 : w27.cell? ⟨gb184, 1, none⟩ = some (.string (⟨#[]⟩ : ByteArray)) := (blk_cell BK184.out 1).trans rfl
                                      have hfz34_0 := blk_frozen BK184.out 0
                                      have hfz34_1 := blk_frozen BK184.out 1
                                      have hcz35_0 : w27.cell? ⟨gb183, 0, none⟩ = some (.int .i64 t177) := (blk_cell BK183.out 0).trans rfl
                                      have hcz35_1 : w27.cell? ⟨gb183, 1, none⟩ = some (.int .i64 t178) := (blk_cell BK183.out 1).trans rfl
                                      have hcz35_2 : w27.cell? ⟨gb183, 2, none⟩ = some (.bool t179) := (blk_cell BK183.out 2).trans rfl
                                      have hcz35_3 : w27.cell? ⟨gb183, 3, none⟩ = some (.bool t180) := (blk_cell BK183.out 3).trans rfl
                                      have hcz35_4 : w27.cell? ⟨gb183, 4, none⟩ = some (.bool t181) := (blk_cell BK183.out 4).trans rfl
                                      have hfz35_0 := blk_frozen BK183.out 0
                                      have hfz35_1 := blk_frozen BK183.out 1
                                      have hfz35_2 := blk_frozen BK183.out 2
                                      have hfz35_3 := blk_frozen BK183.out 3
                                      have hfz35_4 := blk_frozen BK183.out 4
                                      go_wp2
                                      go_ret2
                                      exact ⟨_, by first | rfl | (simp [errW_none, errW_some] <;> rfl) | (simp [*, errW_none, errW_some] <;> rfl), by first | exact Kd.R_nil _ _ _ _ _ | exact Kd.N_nil _ _ _ _ _ | exact Kd.V_nil _ _ _ _ _ | exact Kd.Q_nil _ _ _ _ _ | exact Kd.S_nil _ _ _ _ _, by repeat (first | (with_reducible first | exact HB.out | apply below_alloc | apply pw_below_drewN | apply below_drew1 | refine below_set ?_ GE183.out | refine below_set ?_ GE184.out) | exact HB.out)⟩
                                    · rw [if_neg c32] at H
                                      have c32b0 : decide (((t175.extract ((t176.size : Int) : Int).toNat t175.size).size : Int) < t177) = false := decide_eq_false c32
                                      (try (have c32b0s := c32b0; simp only [ByteArray.size_append, ByteArray.size_extract, Nat.min_self, Int.toNat_natCast, Nat.sub_zero, Int.natCast_add, size_lit, List.length_cons, List.length_nil, Nat.zero_add, Nat.reduceAdd, Int.natCast_one, Int.cast_ofNat_Int] at c32b0s))
                                      clear c32
                                      by_cases c36 : 0 ≤ t177
                                      · rw [if_pos c36] at H
                                        have c36b0 := eq_true c36
                                        (try (have h_ := of_eq_true c36b0; simp only [ByteArray.size_append, ByteArray.size_extract, Nat.min_self, Int.toNat_natCast, Nat.sub_zero, Int.natCast_add, size_lit, List.length_cons, List.length_nil, Nat.zero_add, Nat.reduceAdd, Int.natCast_one, Int.cast_ofNat_Int] at h_; have c36b0s := eq_true h_; clear h_))
                                        have c36b1 : decide (0 ≤ t177) = true := decide_eq_true c36
                                        clear c36
                                        by_cases c37 : t177 ≤ ((t175.extract ((t176.size : Int) : Int).toNat t175.size).size : Int)
                                        · rw [if_pos c37] at H
                                          have c37b0 := eq_true c37
                                          (try (have h_ := of_eq_true c37b0; simp only [ByteArray.size_append, ByteArray.size_extract, Nat.min_self, Int.toNat_natCast, Nat.sub_zero, Int.natCast_add, size_lit, List.length_cons, List.length_nil, Nat.zero_add, Nat.reduceAdd, Int.natCast_one, Int.cast_ofNat_Int] at h_; have c37b0s := eq_true h_; clear h_))
                                          have c37b1 : decide (t177 ≤ ((t175.extract ((t176.size : Int) : Int).toNat t175.size).size : Int)) = true := decide_eq_true c37
                                          (try (have c37b1s := c37b1; simp only [ByteArray.size_append, ByteArray.size_extract, Nat.min_self, Int.toNat_natCast, Nat.sub_zero, Int.natCast_add, size_lit, List.length_cons, List.length_nil, Nat.zero_add, Nat.reduceAdd, Int.natCast_one, Int.cast_ofNat_Int] at c37b1s))
                                          (try (have h_ := of_decide_eq_true c37b1; simp only [ByteArray.size_append, ByteArray.size_extract, Nat.min_self, Int.toNat_natCast, Nat.sub_zero, Int.natCast_add, size_lit, List.length_cons, List.length_nil, Nat.zero_add, Nat.reduceAdd, Int.natCast_one, Int.cast_ofNat_Int] at h_; have c37b1t := eq_true h_; clear h_))
                                          clear c37
                                          have H' := Aside0.mk H
                                          clear H
                                          have hnb38 := NB184_183.out
                                          have hnc38 := NB183_184.out
                                          have hcz39_0 : w27.cell? ⟨gb184, 0, none⟩ = some (.string (⟨#[]⟩ : ByteArray)) := (blk_cell BK184.out 0).trans rfl
                                          have hcz39_1 : w27.cell? ⟨gb184, 1, none⟩ = some (.string (⟨#[]⟩ : ByteArray)) := (blk_cell BK184.out 1).trans rfl
                                          have hfz39_0 := blk_frozen BK184.out 0
                                          have hfz39_1 := blk_frozen BK184.out 1
                                          have hcz40_0 : w27.cell? ⟨gb183, 0, none⟩ = some (.int .i64 t177) := (blk_cell BK183.out 0).trans rfl
                                          have hcz40_1 : w27.cell? ⟨gb183, 1, none⟩ = some (.int .i64 t178) := (blk_cell BK183.out 1).trans rfl
                                          have hcz40_2 : w27.cell? ⟨gb183, 2, none⟩ = some (.bool t179) := (blk_cell BK183.out 2).trans rfl
                                          have hcz40_3 : w27.cell? ⟨gb183, 3, none⟩ = some (.bool t180) := (blk_cell BK183.out 3).trans rfl
                                          have hcz40_4 : w27.cell? ⟨gb183, 4, none⟩ = some (.bool t181) := (blk_cell BK183.out 4).trans rfl
                                          have hfz40_0 := blk_frozen BK183.out 0
                                          have hfz40_1 := blk_frozen BK183.out 1
                                          have hfz40_2 := blk_frozen BK183.out 2
                                          have hfz40_3 := blk_frozen BK183.out 3
                                          have hfz40_4 := blk_frozen BK183.out 4
                                          go_wp2
                                          go_meet
                                          case rel => exact ⟨_, ((t175.extract ((t176.size : Int) : Int).toNat t175.size).extract 0 (t177 : Int).toNat), H', ⟨by have := HJ4.out; have := HK2.out; first | omega | exact Nat.le_refl _⟩, ⟨by (with_reducible repeat (first | apply Kd.R_alloc | apply Kd.R_drewN | apply Kd.R_drew)); exact Kd.R_mono (Kd.R_far (p := ⟨gb184, 1, none⟩) (Kd.R_far (p := ⟨gb184, 1, none⟩) (Kd.R_far (p := ⟨gb184, 0, none⟩) (Kd.R_mono HO_4.out (fun k_ hk => (⟨hk, hk.2⟩ : _ ∧ k_ ≠ gb184))) (fun _ hk => hk.2) (.string t176)) (fun _ hk => hk.2) (.string (t175.extract ((t176.size : Int) : Int).toNat t175.size))) (fun _ hk => hk.2) (.string ((t175.extract ((t176.size : Int) : Int).toNat t175.size).extract 0 (t177 : Int).toNat))) (fun _ hk => ⟨hk.1.1, hk.1.2⟩)⟩, ⟨by (with_reducible repeat (first | apply Kd.V_alloc | apply Kd.V_drewN | apply Kd.V_drew)); exact Kd.V_mono (Kd.V_far (p := ⟨gb184, 1, none⟩) (Kd.V_far (p := ⟨gb184, 1, none⟩) (Kd.V_far (p := ⟨gb184, 0, none⟩) (Kd.V_mono HO_5.out (fun k_ hk => (⟨hk, hk.2⟩ : _ ∧ k_ ≠ gb184))) (fun _ hk => hk.2) (.string t176)) (fun _ hk => hk.2) (.string (t175.extract ((t176.size : Int) : Int).toNat t175.size))) (fun _ hk => hk.2) (.string ((t175.extract ((t176.size : Int) : Int).toNat t175.size).extract 0 (t177 : Int).toNat))) (fun _ hk => ⟨hk.1.1.1.1, ⟨hk.1.1.1.2, ⟨hk.1.1.2, hk.1.2⟩⟩⟩)⟩, ⟨by (with_reducible repeat (first | refine blk_drewN ?_ _ | refine blk_drew ?_ | refine blk_alloc ?_ _)); refine blk_far ?_ NB183_184.out _; (with_reducible repeat (first | refine blk_drewN ?_ _ | refine blk_drew ?_ | refine blk_alloc ?_ _)); refine blk_far ?_ NB183_184.out _; (with_reducible repeat (first | refine blk_drewN ?_ _ | refine blk_drew ?_ | refine blk_alloc ?_ _)); refine blk_far ?_ NB183_184.out _; (with_reducible repeat (first | refine blk_drewN ?_ _ | refine blk_drew ?_ | refine blk_alloc ?_ _)); exact BK183.out⟩, ⟨by (with_reducible repeat (first | refine blk_drewN ?_ _ | refine blk_drew ?_ | refine blk_alloc ?_ _)); refine blk_put (cs := #[.string t176, .string (t175.extract ((t176.size : Int) : Int).toNat t175.size)]) ?_ 1 _ rfl; (with_reducible repeat (first | refine blk_drewN ?_ _ | refine blk_drew ?_ | refine blk_alloc ?_ _)); refine blk_put (cs := #[.string t176, .string (⟨#[]⟩ : ByteArray)]) ?_ 1 _ rfl; (with_reducible repeat (first | refine blk_drewN ?_ _ | refine blk_drew ?_ | refine blk_alloc ?_ _)); refine blk_put (cs := #[.string (⟨#[]⟩ : ByteArray), .string (⟨#[]⟩ : ByteArray)]) ?_ 0 _ rfl; (with_reducible repeat (first | refine blk_drewN ?_ _ | refine blk_drew ?_ | refine blk_alloc ?_ _)); exact BK184.out⟩, ⟨by repeat (first | (with_reducible first | exact HB.out | apply below_alloc | apply pw_below_drewN | apply below_drew1 | refine below_set ?_ GE183.out | refine below_set ?_ GE184.out) | exact HB.out)⟩⟩
                                        · rw [if_neg c37] at H
                                          exact absurd H (by simp)
                                      · rw [if_neg c36] at H
                                        exact absurd H (by simp)
                                  · rw [if_neg c31] at H
                                    have c31b0 : decide (0 < t177) = false := decide_eq_false c31
                                    clear c31
                                    (first | rw [c31b0] | (simp only [i64_w]; rw [c31b0]) | skip)
                                    have H' := Aside0.mk H
                                    clear H
                                    go_wp2
                                    go_meet
                                    case rel => exact ⟨_, (t175.extract ((t176.size : Int) : Int).toNat t175.size), H', ⟨by have := HJ4.out; have := HK2.out; first | omega | exact Nat.le_refl _⟩, ⟨by (with_reducible repeat (first | apply Kd.R_alloc | apply Kd.R_drewN | apply Kd.R_drew)); exact Kd.R_mono (Kd.R_far (p := ⟨gb184, 1, none⟩) (Kd.R_far (p := ⟨gb184, 0, none⟩) (Kd.R_mono HO_4.out (fun k_ hk => (⟨hk, hk.2⟩ : _ ∧ k_ ≠ gb184))) (fun _ hk => hk.2) (.string t176)) (fun _ hk => hk.2) (.string (t175.extract ((t176.size : Int) : Int).toNat t175.size))) (fun _ hk => ⟨hk.1.1, hk.1.2⟩)⟩, ⟨by (with_reducible repeat (first | apply Kd.V_alloc | apply Kd.V_drewN | apply Kd.V_drew)); exact Kd.V_mono (Kd.V_far (p := ⟨gb184, 1, none⟩) (Kd.V_far (p := ⟨gb184, 0, none⟩) (Kd.V_mono HO_5.out (fun k_ hk => (⟨hk, hk.2⟩ : _ ∧ k_ ≠ gb184))) (fun _ hk => hk.2) (.string t176)) (fun _ hk => hk.2) (.string (t175.extract ((t176.size : Int) : Int).toNat t175.size))) (fun _ hk => ⟨hk.1.1.1.1, ⟨hk.1.1.1.2, ⟨hk.1.1.2, hk.1.2⟩⟩⟩)⟩, ⟨by (with_reducible repeat (first | refine blk_drewN ?_ _ | refine blk_drew ?_ | refine blk_alloc ?_ _)); refine blk_far ?_ NB183_184.out _; (with_reducible repeat (first | refine blk_drewN ?_ _ | refine blk_drew ?_ | refine blk_alloc ?_ _)); refine blk_far ?_ NB183_184.out _; (with_reducible repeat (first | refine blk_drewN ?_ _ | refine blk_drew ?_ | refine blk_alloc ?_ _)); exact BK183.out⟩, ⟨by (with_reducible repeat (first | refine blk_drewN ?_ _ | refine blk_drew ?_ | refine blk_alloc ?_ _)); refine blk_put (cs := #[.string t176, .string (⟨#[]⟩ : ByteArray)]) ?_ 1 _ rfl; (with_reducible repeat (first | refine blk_drewN ?_ _ | refine blk_drew ?_ | refine blk_alloc ?_ _)); refine blk_put (cs := #[.string (⟨#[]⟩ : ByteArray), .string (⟨#[]⟩ : ByteArray)]) ?_ 0 _ rfl; (with_reducible repeat (first | refine blk_drewN ?_ _ | refine blk_drew ?_ | refine blk_alloc ?_ _)); exact BK184.out⟩, ⟨by repeat (first | (with_reducible first | exact HB.out | apply below_alloc | apply pw_below_drewN | apply below_drew1 | refine below_set ?_ GE183.out | refine below_set ?_ GE184.out) | exact HB.out)⟩⟩
                                case rest =>
                                  clear HC21
                                  try clear c1
                                  try clear p1
                                  try clear q1
                                  try clear hx1
                                  try clear qi1
                                  try clear c2
                                  try clear c2b0
                                  try clear c2b1
                                  try clear p2
                                  try clear c3
                                  try clear c4
                                  try clear c6
                                  try clear c6b0
                                  try clear c6b1
                                  try clear c6b2
                                  try clear c7
                                  try clear c7b0
                                  try clear c7b1
                                  try clear c8
                                  try clear c9
                                  try clear c9b0
                                  try clear c9b1
                                  try clear c10
                                  try clear c10b0
                                  try clear c10b1
                                  try clear c11
                                  try clear q11
                                  try clear c12
                                  try clear c12b0
                                  try clear c12b1
                                  try clear c13
                                  try clear c13b0
                                  try clear c13b1
                                  try clear c14
                                  try clear c14b0
                                  try clear c14b1
                                  try clear p16
                                  try clear q16
                                  try clear hx16
                                  try clear qi16
                                  try clear p17
                                  try clear q17
                                  try clear hx17
                                  try clear qi17
                                  try clear c18
                                  try clear c19
                                  try clear c19b0
                                  try clear c19b1
                                  try clear c20
                                  try clear c20b0
                                  try clear c20b1
                                  try clear c23
                                  try clear c25
                                  try clear c26
                                  try clear c28
                                  try clear c31
                                  try clear c31b0
                                  try clear c32
                                  try clear c32b0
                                  try clear c33
                                  try clear c36
                                  try clear c36b0
                                  try clear c36b1
                                  try clear c37
                                  try clear c37b0
                                  try clear c37b1
                                  try clear c38
                                  try clear hcz26_0
                                  try clear hcz26_1
                                  try clear hcz26_2
                                  try clear hcz26_3
                                  try clear hcz26_4
                                  try clear hcz29_0
                                  try clear hcz29_1
                                  try clear hcz30_0
                                  try clear hcz30_1
                                  try clear hcz30_2
                                  try clear hcz30_3
                                  try clear hcz30_4
                                  try clear hcz34_0
                                  try clear hcz34_1
                                  try clear hcz35_0
                                  try clear hcz35_1
                                  try clear hcz35_2
                                  try clear hcz35_3
                                  try clear hcz35_4
                                  try clear hcz39_0
                                  try clear hcz39_1
                                  try clear hcz40_0
                                  try clear hcz40_1
                                  try clear hcz40_2
                                  try clear hcz40_3
                                  try clear hcz40_4
                                  try clear hfz26_0
                                  try clear hfz26_1
                                  try clear hfz26_2
                                  try clear hfz26_3
                                  try clear hfz26_4
                                  try clear hfz29_0
                                  try clear hfz29_1
                                  try clear hfz30_0
                                  try clear hfz30_1
                                  try clear hfz30_2
                                  try clear hfz30_3
                                  try clear hfz30_4
                                  try clear hfz34_0
                                  try clear hfz34_1
                                  try clear hfz35_0
                                  try clear hfz35_1
                                  try clear hfz35_2
                                  try clear hfz35_3
                                  try clear hfz35_4
                                  try clear hfz39_0
                                  try clear hfz39_1
                                  try clear hfz40_0
                                  try clear hfz40_1
                                  try clear hfz40_2
                                  try clear hfz40_3
                                  try clear hfz40_4
                                  try clear hx168_0
                                  try clear hx174_0
                                  try clear p1
                                  try clear p168
                                  try clear p174
                                  try clear p2
                                  try clear q1
                                  try clear q11
                                  try clear q168
                                  try clear q174
                                  obtain ⟨kq, x185001_20, HA, HJ20, HO_4, HO_5, BK183, BK184, HB⟩ := hcut
                                  cases kq with
                                  | zero => exact absurd HA.out (by simp [gs1_FromChars.j2])
                                  | succ kj20 =>
                                    have H := HA.out
                                    clear HA
                                    simp only [gs1_FromChars.j2] at H
                                    replace H := Option.bind_eq_some_iff.mp H
                                    obtain ⟨t185, A410, H⟩ := H
                                    replace H : (if t185 = 0 then (if 0 ≤ (wrap64 ((t176.size : Int) + (x185001_20.size : Int))) then (if (wrap64 ((t176.size : Int) + (x185001_20.size : Int))) ≤ (x5_2.length : Int) then ((some (x5_2.drop ((wrap64 ((t176.size : Int) + (x185001_20.size : Int))) : Int).toNat : List Int)).bind fun y186 => (if t177 = 0 then (gs1_FromChars.j3 kj20 x4_2 y186 (decide ((y186.length : Int) > 0)) t176 x185001_20) else (gs1_FromChars.j3 kj20 x4_2 y186 false t176 x185001_20))) else (none)) else (none)) else (some (([] : List (S38)), t185))) = some (r1, r2) := H
                                    have A41 := Aside0.mk A410
                                    clear A410
                                    by_cases c42 : t185 = 0
                                    · rw [if_pos c42] at H
                                      have c42b0 : (t185 == 0) = true := beq_iff_eq.mpr c42
                                      have c42b1 : (t185 != 0) = false := bne_eq_false_iff_eq.mpr c42
                                      clear c42
                                      obtain ⟨ji43, hji43⟩ : ∃ j_ : Int, (wrap64 ((t176.size : Int) + (x185001_20.size : Int))) = j_ := ⟨_, rfl⟩
                                      replace H : (if 0 ≤ (ji43) then (if (ji43) ≤ (x5_2.length : Int) then ((some (x5_2.drop ((ji43) : Int).toNat : List Int)).bind fun y186 => (if t177 = 0 then (gs1_FromChars.j3 kj20 x4_2 y186 (decide ((y186.length : Int) > 0)) t176 x185001_20) else (gs1_FromChars.j3 kj20 x4_2 y186 false t176 x185001_20))) else (none)) else (none)) = some (r1, r2) := by first | (rw [hji43] at H; exact H) | (simp only [hji43] at H ⊢; exact H)
                                      (try rw [hji43] at A41)
                                      have hji43w : (IntKind.i64.wrap ((t176.size : Int) + (x185001_20.size : Int))) = ji43 := (i64_w _).trans hji43
                                      by_cases c44 : 0 ≤ (ji43)
                                      · rw [if_pos c44] at H
                                        have c44b0 := eq_true c44
                                        (try (have h_ := of_eq_true c44b0; simp only [ByteArray.size_append, ByteArray.size_extract, Nat.min_self, Int.toNat_natCast, Nat.sub_zero, Int.natCast_add, size_lit, List.length_cons, List.length_nil, Nat.zero_add, Nat.reduceAdd, Int.natCast_one, Int.cast_ofNat_Int] at h_; have c44b0s := eq_true h_; clear h_))
                                        have c44b1 : decide (0 ≤ (ji43)) = true := decide_eq_true c44
                                        clear c44
                                        by_cases c45 : (ji43) ≤ (x5_2.length : Int)
                                        · rw [if_pos c45] at H
                                          have c45b0 := eq_true c45
                                          (try (have h_ := of_eq_true c45b0; simp only [ByteArray.size_append, ByteArray.size_extract, Nat.min_self, Int.toNat_natCast, Nat.sub_zero, Int.natCast_add, size_lit, List.length_cons, List.length_nil, Nat.zero_add, Nat.reduceAdd, Int.natCast_one, Int.cast_ofNat_Int] at h_; have c45b0s := eq_true h_; clear h_))
                                          have c45b1 : decide ((ji43) ≤ (x5_2.length : Int)) = true := decide_eq_true c45
                                          clear c45
                                          obtain ⟨y186, hy186⟩ : ∃ y_ : List Int, y_ = (x5_2.drop ((ji43) : Int).toNat) := ⟨_, rfl⟩
                                          replace H : (if t177 = 0 then (gs1_FromChars.j3 kj20 x4_2 y186 (decide ((y186.length : Int) > 0)) t176 x185001_20) else (gs1_FromChars.j3 kj20 x4_2 y186 false t176 x185001_20)) = some (r1, r2) := by first | (rw [hy186]; with_reducible exact H) | (have H2_ := (Option.bind_some _ _).symm.trans H; rw [hy186]; with_reducible exact H2_) | (have H2_ := (Option.bind_some _ _).symm.trans H; with_reducible exact H2_) | with_reducible exact H | (rw [hy186]; exact H) | exact H
                                          have Ny186 := Aside0.mk hy186
                                          clear hy186
                                          have HC46 := Aside0.mk H
                                          clear H
                                          have hnb47 := NB183_184.out
                                          have hnc47 := NB184_183.out
                                          have hcz48_0 : wc.cell? ⟨gb183, 0, none⟩ = some (.int .i64 t177) := (blk_cell BK183.out 0).trans rfl
                                          have hcz48_1 : wc.cell? ⟨gb183, 1, none⟩ = some (.int .i64 t178) := (blk_cell BK183.out 1).trans rfl
                                          have hcz48_2 : wc.cell? ⟨gb183, 2, none⟩ = some (.bool t179) := (blk_cell BK183.out 2).trans rfl
                                          have hcz48_3 : wc.cell? ⟨gb183, 3, none⟩ = some (.bool t180) := (blk_cell BK183.out 3).trans rfl
                                          have hcz48_4 : wc.cell? ⟨gb183, 4, none⟩ = some (.bool t181) := (blk_cell BK183.out 4).trans rfl
                                          have hfz48_0 := blk_frozen BK183.out 0
                                          have hfz48_1 := blk_frozen BK183.out 1
                                          have hfz48_2 := blk_frozen BK183.out 2
                                          have hfz48_3 := blk_frozen BK183.out 3
                                          have hfz48_4 := blk_frozen BK183.out 4
                                          have hcz49_0 : wc.cell? ⟨gb184, 0, none⟩ = some (.string t176) := (blk_cell BK184.out 0).trans rfl
                                          have hcz49_1 : wc.cell? ⟨gb184, 1, none⟩ = some (.string x185001_20) := (blk_cell BK184.out 1).trans rfl
                                          have hfz49_0 := blk_frozen BK184.out 0
                                          have hfz49_1 := blk_frozen BK184.out 1
                                          go_upto_region 27 with (first | ((with_reducible refine gate_callee (f := 27) rfl ?_); refine goesL_ (some 76) rfl rfl Tryd.func27 (by kernel_rfl) rfl #[.agg #[.int .i64 t177, .int .i64 t178, .bool t179, .bool t180, .bool t181], .string x185001_20] rfl (by (try simp only [List.map_toArray, List.map_cons, List.map_nil]); first | done | rfl | (simp only [List.length_drop, List.length_take]; rfl)) ?_; (with_reducible refine (gs1_form_verify.calls kj20 t177 t178 t179 t180 t181 x185001_20 t185 _ A41.out).mono ?_); rintro e w50 ⟨rfl, hb⟩; refine ⟨_, rfl, ?_⟩; have n0_ := Aside0.mk (Kd.R_below (by (with_reducible repeat (first | apply Kd.R_alloc | apply Kd.R_drewN | apply Kd.R_drew)); exact HO_4.out) hb); have n1_ := Aside0.mk (Kd.V_below (by (with_reducible repeat (first | apply Kd.V_alloc | apply Kd.V_drewN | apply Kd.V_drew)); exact HO_5.out) hb); have n2_ := Aside0.mk (blk_below (g := gb183) (o := .cells #[.int .i64 t177, .int .i64 t178, .bool t179, .bool t180, .bool t181] 56 (0, 0)) (by (with_reducible repeat (first | refine blk_drewN ?_ _ | refine blk_drew ?_ | refine blk_alloc ?_ _)); exact BK183.out) hb); have n3_ := Aside0.mk (blk_below (g := gb184) (o := .cells #[.string t176, .string x185001_20] 38 (0, 0)) (by (with_reducible repeat (first | refine blk_drewN ?_ _ | refine blk_drew ?_ | refine blk_alloc ?_ _)); exact BK184.out) hb); have n4_ := Aside0.mk (below_step (by repeat (first | (with_reducible first | exact HB.out | apply below_alloc | apply pw_below_drewN | apply below_drew1 | refine below_set ?_ GE183.out | refine below_set ?_ GE184.out) | exact HB.out)) hb); clear HO_4; clear HO_5; clear BK183; clear BK184; clear HB; have HO_4 := n0_; have HO_5 := n1_; have BK183 := n2_; have BK184 := n3_; have HB := n4_; clear n0_ n1_ n2_ n3_ n4_; (try clear hb); (try clear hb2); (try clear hk); (try clear hi); have hcz51_0 : w50.cell? ⟨gb184, 0, none⟩ = some (.string t176) := (blk_cell BK184.out 0).trans rfl; have hcz51_1 : w50.cell? ⟨gb184, 1, none⟩ = some (.string x185001_20) := (blk_cell BK184.out 1).trans rfl; have hfz51_0 := blk_frozen BK184.out 0; have hfz51_1 := blk_frozen BK184.out 1; have q52 : ((ji43) : Int) ≤ ((x5_2.length : Int) : Int) := of_decide_eq_true (by first | (with_reducible assumption) | assumption); obtain ⟨i052, hi052, _, hsz52, _⟩ := info_parts info3; have hroom52 : x5_2.length ≤ co22 := (Kd.V_reads' HO_5.out).2.1; have hC52 : Kd.F (Kd.int .i64) _ _ (some ad174) x5_2.length x5_2 := (Kd.V_at (base := w.heap.size) HO_5.out).2.2; have q052 : (0 : Int) ≤ ((ji43) : Int) := of_decide_eq_true (by first | (with_reducible assumption) | assumption); have hcut52 := cut_from (P := Tryd.prog) 29 3 .i64 Tryd.underlying29 hi052 1 hsz52 (some ad174) x5_2.length co22 (ji43) q052 q52; have hr52 := Kd.F_cut (m := ((ji43) : Int).toNat) (c := co22) hC52 (by omega) hroom52; obtain ⟨A52, hA52⟩ : ∃ A1, A1 = (if co22 = ((ji43) : Int).toNat then (some ad174) else ((some ad174) : Option Addr).map (·.add (((ji43) : Int).toNat * 1))) := ⟨_, rfl⟩; obtain ⟨c52, hc52⟩ : ∃ c1, c1 = co22 - ((ji43) : Int).toNat := ⟨_, rfl⟩; have hy52 : y186.length = x5_2.length - ((ji43) : Int).toNat := (by rw [Ny186.out, List.length_drop] <;> omega); rw [show (x5_2).drop ((ji43) : Int).toNat = y186 from Ny186.out.symm] at hr52; replace hr52 : Kd.F (Kd.int .i64) _ _ A52 y186.length y186 := (by rw [hA52]; exact hr52); rw [← hy52, ← hA52, ← hc52] at hcut52; have HO190 := Aside0.mk (show Kd.V (Kd.int .i64) 3 _ w.heap.size _ (.slice A52 y186.length c52) y186 from Kd.V_mk (by rw [hy52, hc52]; exact Nat.sub_le_sub_right hroom52 _) hr52); have HC190 := Aside0.mk (show y186.length ≤ c52 from by rw [hy52, hc52]; exact Nat.sub_le_sub_right hroom52 _); clear hr52 hC52 hroom52 hi052 hsz52 hc52; have KY52 := Aside0.mk hy52; have KA52 := Aside0.mk hA52; clear hy52 hA52; replace q52 := eq_true q52))
                                          (try simp only [Act.put, List.setIfInBounds_toArray, List.set_cons_zero, List.set_cons_succ])
                                          go_cut [95] (fun v95 wc => ∃ (kq : Nat) (x95_45 : Bool), v95 = .bool x95_45 ∧ Aside0 (gs1_FromChars.j3 kq x4_2 y186 x95_45 t176 x185001_20 = some (r1, r2)) ∧ Aside0 (kq ≤ kj20) ∧ Aside0 (Kd.R k38 38 wc w.heap.size (fun k_ => (w.heap.size ≤ k_) ∧ k_ ≠ gb184) u4 x4_2) ∧ Aside0 (Kd.V (Kd.int .i64) 3 wc w.heap.size (fun k_ => (P0_ k_ ∨ w.heap.size ≤ k_) ∧ some k_ ≠ (u4 : Value).ownBlock ∧ k_ ≠ gb183 ∧ k_ ≠ gb184) (.slice A52 y186.length c52) y186) ∧ Aside0 (wc.heap[gb183]? = some (.cells #[.int .i64 t177, .int .i64 t178, .bool t179, .bool t180, .bool t181] 56 (0, 0))) ∧ Aside0 (wc.heap[gb184]? = some (.cells #[.string t176, .string x185001_20] 38 (0, 0))) ∧ Aside0 (Below w.heap.size w wc))
                                          case first =>
                                            have H := HC46.out
                                            clear HC46
                                            by_cases c53 : t177 = 0
                                            · rw [if_pos c53] at H
                                              have c53b0 : (t177 == 0) = true := beq_iff_eq.mpr c53
                                              have c53b1 : (t177 != 0) = false := bne_eq_false_iff_eq.mpr c53
                                              clear c53
                                              (first | rw [c53b0] | (simp only [i64_w]; rw [c53b0]) | skip)
                                              have H' := Aside0.mk H
                                              clear H
                                              have hnb54 := NB183_184.out
                                              have hnc54 := NB184_183.out
                                              have hcz55_0 : w50.cell? ⟨gb183, 0, none⟩ = some (.int .i64 t177) := (blk_cell BK183.out 0).trans rfl
                                              have hcz55_1 : w50.cell? ⟨gb183, 1, none⟩ = some (.int .i64 t178) := (blk_cell BK183.out 1).trans rfl
                                              have hcz55_2 : w50.cell? ⟨gb183, 2, none⟩ = some (.bool t179) := (blk_cell BK183.out 2).trans rfl
                                              have hcz55_3 : w50.cell? ⟨gb183, 3, none⟩ = some (.bool t180) := (blk_cell BK183.out 3).trans rfl
                                              have hcz55_4 : w50.cell? ⟨gb183, 4, none⟩ = some (.bool t181) := (blk_cell BK183.out 4).trans rfl
                                              have hfz55_0 := blk_frozen BK183.out 0
                                              have hfz55_1 := blk_frozen BK183.out 1
                                              have hfz55_2 := blk_frozen BK183.out 2
                                              have hfz55_3 := blk_frozen BK183.out 3
                                              have hfz55_4 := blk_frozen BK183.out 4
                                              go_wp2
                                              go_meet
                                              case rel => exact ⟨_, (decide ((y186.length : Int) > 0)), (by first | rfl | (simp; done) | (simp [*]; done)), H', ⟨by have := HJ4.out; have := HK2.out; have := HJ20.out; first | omega | exact Nat.le_refl _⟩, ⟨by (with_reducible repeat (first | apply Kd.R_alloc | apply Kd.R_drewN | apply Kd.R_drew)); exact HO_4.out⟩, ⟨by (with_reducible repeat (first | apply Kd.V_alloc | apply Kd.V_drewN | apply Kd.V_drew)); exact HO190.out⟩, ⟨by (with_reducible repeat (first | refine blk_drewN ?_ _ | refine blk_drew ?_ | refine blk_alloc ?_ _)); exact BK183.out⟩, ⟨by (with_reducible repeat (first | refine blk_drewN ?_ _ | refine blk_drew ?_ | refine blk_alloc ?_ _)); exact BK184.out⟩, ⟨by repeat (first | (with_reducible first | exact HB.out | apply below_alloc | apply pw_below_drewN | apply below_drew1 | refine below_set ?_ GE183.out | refine below_set ?_ GE184.out) | exact HB.out)⟩⟩
                                            · rw [if_neg c53] at H
                                              have c53b0 : (t177 == 0) = false := beq_eq_false_iff_ne.mpr c53
                                              have c53b1 : (t177 != 0) = true := bne_iff_ne.mpr c53
                                              (first | rw [c53b0] | (simp only [i64_w]; rw [c53b0]) | skip)
                                              have H' := Aside0.mk H
                                              clear H
                                              have hnb56 := NB183_184.out
                                              have hnc56 := NB184_183.out
                                              have hcz57_0 : w50.cell? ⟨gb183, 0, none⟩ = some (.int .i64 t177) := (blk_cell BK183.out 0).trans rfl
                                              have hcz57_1 : w50.cell? ⟨gb183, 1, none⟩ = some (.int .i64 t178) := (blk_cell BK183.out 1).trans rfl
                                              have hcz57_2 : w50.cell? ⟨gb183, 2, none⟩ = some (.bool t179) := (blk_cell BK183.out 2).trans rfl
                                              have hcz57_3 : w50.cell? ⟨gb183, 3, none⟩ = some (.bool t180) := (blk_cell BK183.out 3).trans rfl
                                              have hcz57_4 : w50.cell? ⟨gb183, 4, none⟩ = some (.bool t181) := (blk_cell BK183.out 4).trans rfl
                                              have hfz57_0 := blk_frozen BK183.out 0
                                              have hfz57_1 := blk_frozen BK183.out 1
                                              have hfz57_2 := blk_frozen BK183.out 2
                                              have hfz57_3 := blk_frozen BK183.out 3
                                              have hfz57_4 := blk_frozen BK183.out 4
                                              go_wp2
                                              go_meet
                                              case rel => exact ⟨_, (false), (by first | rfl | (simp; done) | (simp [*]; done)), H', ⟨by have := HJ4.out; have := HK2.out; have := HJ20.out; first | omega | exact Nat.le_refl _⟩, ⟨by (with_reducible repeat (first | apply Kd.R_alloc | apply Kd.R_drewN | apply Kd.R_drew)); exact HO_4.out⟩, ⟨by (with_reducible repeat (first | apply Kd.V_alloc | apply Kd.V_drewN | apply Kd.V_drew)); exact HO190.out⟩, ⟨by (with_reducible repeat (first | refine blk_drewN ?_ _ | refine blk_drew ?_ | refine blk_alloc ?_ _)); exact BK183.out⟩, ⟨by (with_reducible repeat (first | refine blk_drewN ?_ _ | refine blk_drew ?_ | refine blk_alloc ?_ _)); exact BK184.out⟩, ⟨by repeat (first | (with_reducible first | exact HB.out | apply below_alloc | apply pw_below_drewN | apply below_drew1 | refine below_set ?_ GE183.out | refine below_set ?_ GE184.out) | exact HB.out)⟩⟩
                                          case rest =>
                                            clear HC46
                                            try clear c1
                                            try clear p1
                                            try clear q1
                                            try clear hx1
                                            try clear qi1
                                            try clear c2
                                            try clear c2b0
                                            try clear c2b1
                                            try clear p2
                                            try clear c3
                                            try clear c4
                                            try clear c5
                                            try clear q5
                                            try clear c6
                                            try clear c6b0
                                            try clear c6b1
                                            try clear c6b2
                                            try clear p6
                                            try clear c7
                                            try clear c7b0
                                            try clear c7b1
                                            try clear c8
                                            try clear c9
                                            try clear c9b0
                                            try clear c9b1
                                            try clear c10
                                            try clear c10b0
                                            try clear c10b1
                                            try clear c11
                                            try clear q11
                                            try clear c12
                                            try clear c12b0
                                            try clear c12b1
                                            try clear c13
                                            try clear c13b0
                                            try clear c13b1
                                            try clear c14
                                            try clear c14b0
                                            try clear c14b1
                                            try clear p16
                                            try clear q16
                                            try clear hx16
                                            try clear qi16
                                            try clear p17
                                            try clear q17
                                            try clear hx17
                                            try clear qi17
                                            try clear c18
                                            try clear c19
                                            try clear c19b0
                                            try clear c19b1
                                            try clear c20
                                            try clear c20b0
                                            try clear c20b1
                                            try clear c23
                                            try clear c25
                                            try clear c26
                                            try clear c27
                                            try clear c28
                                            try clear c31
                                            try clear c31b0
                                            try clear c32
                                            try clear c32b0
                                            try clear c33
                                            try clear c36
                                            try clear c36b0
                                            try clear c36b1
                                            try clear c37
                                            try clear c37b0
                                            try clear c37b1
                                            try clear c38
                                            try clear c42
                                            try clear c42b0
                                            try clear c42b1
                                            try clear c44
                                            try clear c44b0
                                            try clear c44b1
                                            try clear c45
                                            try clear c45b0
                                            try clear c45b1
                                            try clear c47
                                            try clear c52
                                            try clear q52
                                            try clear c53
                                            try clear c53b0
                                            try clear c53b1
                                            try clear c54
                                            try clear c56
                                            try clear hcz26_0
                                            try clear hcz26_1
                                            try clear hcz26_2
                                            try clear hcz26_3
                                            try clear hcz26_4
                                            try clear hcz29_0
                                            try clear hcz29_1
                                            try clear hcz30_0
                                            try clear hcz30_1
                                            try clear hcz30_2
                                            try clear hcz30_3
                                            try clear hcz30_4
                                            try clear hcz34_0
                                            try clear hcz34_1
                                            try clear hcz35_0
                                            try clear hcz35_1
                                            try clear hcz35_2
                                            try clear hcz35_3
                                            try clear hcz35_4
                                            try clear hcz39_0
                                            try clear hcz39_1
                                            try clear hcz40_0
                                            try clear hcz40_1
                                            try clear hcz40_2
                                            try clear hcz40_3
                                            try clear hcz40_4
                                            try clear hcz48_0
                                            try clear hcz48_1
                                            try clear hcz48_2
                                            try clear hcz48_3
                                            try clear hcz48_4
                                            try clear hcz49_0
                                            try clear hcz49_1
                                            try clear hcz51_0
                                            try clear hcz51_1
                                            try clear hcz55_0
                                            try clear hcz55_1
                                            try clear hcz55_2
                                            try clear hcz55_3
                                            try clear hcz55_4
                                            try clear hcz57_0
                                            try clear hcz57_1
                                            try clear hcz57_2
                                            try clear hcz57_3
                                            try clear hcz57_4
                                            try clear hfz26_0
                                            try clear hfz26_1
                                            try clear hfz26_2
                                            try clear hfz26_3
                                            try clear hfz26_4
                                            try clear hfz29_0
                                            try clear hfz29_1
                                            try clear hfz30_0
                                            try clear hfz30_1
                                            try clear hfz30_2
                                            try clear hfz30_3
                                            try clear hfz30_4
                                            try clear hfz34_0
                                            try clear hfz34_1
                                            try clear hfz35_0
                                            try clear hfz35_1
                                            try clear hfz35_2
                                            try clear hfz35_3
                                            try clear hfz35_4
                                            try clear hfz39_0
                                            try clear hfz39_1
                                            try clear hfz40_0
                                            try clear hfz40_1
                                            try clear hfz40_2
                                            try clear hfz40_3
                                            try clear hfz40_4
                                            try clear hfz48_0
                                            try clear hfz48_1
                                            try clear hfz48_2
                                            try clear hfz48_3
                                            try clear hfz48_4
                                            try clear hfz49_0
                                            try clear hfz49_1
                                            try clear hfz51_0
                                            try clear hfz51_1
                                            try clear hfz55_0
                                            try clear hfz55_1
                                            try clear hfz55_2
                                            try clear hfz55_3
                                            try clear hfz55_4
                                            try clear hfz57_0
                                            try clear hfz57_1
                                            try clear hfz57_2
                                            try clear hfz57_3
                                            try clear hfz57_4
                                            try clear hx168_0
                                            try clear hx174_0
                                            try clear p1
                                            try clear p16
                                            try clear p168
                                            try clear p17
                                            try clear p174
                                            try clear p2
                                            try clear q052
                                            try clear q1
                                            try clear q11
                                            try clear q16
                                            try clear q168
                                            try clear q17
                                            try clear q174
                                            try clear q52
                                            obtain ⟨kq, x95_45, rfl, HA, HJ45, HO_4, HO_5, BK183, BK184, HB⟩ := hcut
                                            cases kq with
                                            | zero => exact absurd HA.out (by simp [gs1_FromChars.j3])
                                            | succ kj45 =>
                                              have H := HA.out
                                              clear HA
                                              simp only [gs1_FromChars.j3] at H
                                              by_cases c58 : x95_45 = true
                                              · subst c58
                                                have H1 : (if 1 ≤ (y186.length : Int) then ((some (y186.drop 1 : List Int)).bind fun y191 => (if (y191.length : Int) = 0 then (some (([] : List (S38)), 9)) else (if x4_2.length < 4398046511104 then (gs1_FromChars.l0 kj45 (x4_2 ++ [(⟨t176, x185001_20⟩ : S38)]) y191) else (none)))) else (none)) = some (r1, r2) := by rw [if_pos rfl] at H; exact H
                                                clear H
                                                have H := H1
                                                clear H1
                                                by_cases c59 : 1 ≤ (y186.length : Int)
                                                · rw [if_pos c59] at H
                                                  have c59b0 := eq_true c59
                                                  (try (have h_ := of_eq_true c59b0; simp only [ByteArray.size_append, ByteArray.size_extract, Nat.min_self, Int.toNat_natCast, Nat.sub_zero, Int.natCast_add, size_lit, List.length_cons, List.length_nil, Nat.zero_add, Nat.reduceAdd, Int.natCast_one, Int.cast_ofNat_Int] at h_; have c59b0s := eq_true h_; clear h_))
                                                  have c59b1 : decide (1 ≤ (y186.length : Int)) = true := decide_eq_true c59
                                                  clear c59
                                                  obtain ⟨y191, hy191⟩ : ∃ y_ : List Int, y_ = (y186.drop 1) := ⟨_, rfl⟩
                                                  replace H : (if (y191.length : Int) = 0 then (some (([] : List (S38)), 9)) else (if x4_2.length < 4398046511104 then (gs1_FromChars.l0 kj45 (x4_2 ++ [(⟨t176, x185001_20⟩ : S38)]) y191) else (none))) = some (r1, r2) := by first | (rw [hy191]; with_reducible exact H) | (have H2_ := (Option.bind_some _ _).symm.trans H; rw [hy191]; with_reducible exact H2_) | (have H2_ := (Option.bind_some _ _).symm.trans H; with_reducible exact H2_) | with_reducible exact H | (rw [hy191]; exact H) | exact H
                                                  have Ny191 := Aside0.mk hy191
                                                  clear hy191
                                                  by_cases c60 : (y191.length : Int) = 0
                                                  · rw [if_pos c60] at H
                                                    have c60b0 : ((y191.length : Int) == 0) = true := beq_iff_eq.mpr c60
                                                    have c60b1 : ((y191.length : Int) != 0) = false := bne_eq_false_iff_eq.mpr c60
                                                    clear c60
                                                    simp only [Option.some.injEq, Prod.mk.injEq] at H
                                                    obtain ⟨rfl, rfl⟩ := H
                                                    have q61 : (1 : Int) ≤ ((y186.length : Int) : Int) := of_decide_eq_true (by first | (with_reducible assumption) | assumption)
                                                    obtain ⟨i061, hi061, _, hsz61, _⟩ := info_parts info3
                                                    have hroom61 : y186.length ≤ c52 := (Kd.V_reads' HO_5.out).2.1
                                                    have hC61 : Kd.F (Kd.int .i64) _ _ A52 y186.length y186 := (Kd.V_at (base := w.heap.size) HO_5.out).2.2
                                                    have hcut61 := cut_from (P := Tryd.prog) 29 3 .i64 Tryd.underlying29 hi061 1 hsz61 A52 y186.length c52 1 (by omega) q61
                                                    have hr61 := Kd.F_cut (m := (1 : Int).toNat) (c := c52) hC61 (by omega) hroom61
                                                    obtain ⟨A61, hA61⟩ : ∃ A1, A1 = (if c52 = (1 : Int).toNat then A52 else (A52 : Option Addr).map (·.add ((1 : Int).toNat * 1))) := ⟨_, rfl⟩
                                                    obtain ⟨c61, hc61⟩ : ∃ c1, c1 = c52 - (1 : Int).toNat := ⟨_, rfl⟩
                                                    have hy61 : y191.length = y186.length - (1 : Int).toNat := (by rw [Ny191.out, List.length_drop] <;> omega)
                                                    rw [show (y186).drop (1 : Int).toNat = y191 from Ny191.out.symm] at hr61
                                                    replace hr61 : Kd.F (Kd.int .i64) _ _ A61 y191.length y191 := (by rw [hA61]; exact hr61)
                                                    rw [← hy61, ← hA61, ← hc61] at hcut61
                                                    have HO195 := Aside0.mk (show Kd.V (Kd.int .i64) 3 _ w.heap.size _ (.slice A61 y191.length c61) y191 from Kd.V_mk (by rw [hy61, hc61]; exact Nat.sub_le_sub_right hroom61 _) hr61)
                                                    have HC195 := Aside0.mk (show y191.length ≤ c61 from by rw [hy61, hc61]; exact Nat.sub_le_sub_right hroom61 _)
                                                    clear hr61 hC61 hroom61 hi061 hsz61 hc61
                                                    have KY61 := Aside0.mk hy61
                                                    have KA61 := Aside0.mk hA61
                                                    clear hy61 hA61
                                                    replace q61 := eq_true q61
                                                    (try (have h_ := of_eq_true q61; simp only [ByteArray.size_append, ByteArray.size_extract, Nat.min_self, Int.toNat_natCast, Nat.sub_zero, Int.natCast_add, size_lit, List.length_cons, List.length_nil, Nat.zero_add, Nat.reduceAdd, Int.natCast_one, Int.cast_ofNat_Int] at h_; have q61s := eq_true h_; clear h_))
                                                    go_wp2
                                                    go_ret2
                                                    exact ⟨_, by first | rfl | (simp [errW_none, errW_some] <;> rfl) | (simp only [← hji43]; first | rfl | (simp [errW_none, errW_some] <;> rfl)) | (simp [*, errW_none, errW_some] <;> rfl), by first | exact Kd.R_nil _ _ _ _ _ | exact Kd.N_nil _ _ _ _ _ | exact Kd.V_nil _ _ _ _ _ | exact Kd.Q_nil _ _ _ _ _ | exact Kd.S_nil _ _ _ _ _, by repeat (first | (with_reducible first | exact HB.out | apply below_alloc | apply pw_below_drewN | apply below_drew1 | refine below_set ?_ GE183.out | refine below_set ?_ GE184.out) | exact HB.out)⟩
                                                  · rw [if_neg c60] at H
                                                    have c60b0 : ((y191.length : Int) == 0) = false := beq_eq_false_iff_ne.mpr c60
                                                    have c60b1 : ((y191.length : Int) != 0) = true := bne_iff_ne.mpr c60
                                                    have c60b2 : ¬ (y191 = []) := fun h_ => c60 (by rw [h_]; rfl)
                                                    by_cases c62 : x4_2.length < 4398046511104
                                                    · rw [if_pos c62] at H
                                                      have LMc62 := Aside0.mk c62
                                                      clear c62
                                                      obtain ⟨y196, hy196⟩ : ∃ y_ : List (S38), y_ = (x4_2 ++ [(⟨t176, x185001_20⟩ : S38)]) := ⟨_, rfl⟩
                                                      replace H : (gs1_FromChars.l0 kj45 y196 y191) = some (r1, r2) := by first | (rw [hy196]; with_reducible exact H) | (have H2_ := (Option.bind_some _ _).symm.trans H; rw [hy196]; with_reducible exact H2_) | (have H2_ := (Option.bind_some _ _).symm.trans H; with_reducible exact H2_) | with_reducible exact H | (rw [hy196]; exact H) | exact H
                                                      have Ny196 := Aside0.mk hy196
                                                      clear hy196
                                                      have H' := Aside0.mk H
                                                      clear H
                                                      have q63 : (1 : Int) ≤ ((y186.length : Int) : Int) := of_decide_eq_true (by first | (with_reducible assumption) | assumption)
                                                      obtain ⟨i063, hi063, _, hsz63, _⟩ := info_parts info3
                                                      have hroom63 : y186.length ≤ c52 := (Kd.V_reads' HO_5.out).2.1
                                                      have hC63 : Kd.F (Kd.int .i64) _ _ A52 y186.length y186 := (Kd.V_at (base := w.heap.size) HO_5.out).2.2
                                                      have hcut63 := cut_from (P := Tryd.prog) 29 3 .i64 Tryd.underlying29 hi063 1 hsz63 A52 y186.length c52 1 (by omega) q63
                                                      have hr63 := Kd.F_cut (m := (1 : Int).toNat) (c := c52) hC63 (by omega) hroom63
                                                      obtain ⟨A63, hA63⟩ : ∃ A1, A1 = (if c52 = (1 : Int).toNat then A52 else (A52 : Option Addr).map (·.add ((1 : Int).toNat * 1))) := ⟨_, rfl⟩
                                                      obtain ⟨c63, hc63⟩ : ∃ c1, c1 = c52 - (1 : Int).toNat := ⟨_, rfl⟩
                                                      have hy63 : y191.length = y186.length - (1 : Int).toNat := (by rw [Ny191.out, List.length_drop] <;> omega)
                                                      rw [show (y186).drop (1 : Int).toNat = y191 from Ny191.out.symm] at hr63
                                                      replace hr63 : Kd.F (Kd.int .i64) _ _ A63 y191.length y191 := (by rw [hA63]; exact hr63)
                                                      rw [← hy63, ← hA63, ← hc63] at hcut63
                                                      have HO195 := Aside0.mk (show Kd.V (Kd.int .i64) 3 _ w.heap.size _ (.slice A63 y191.length c63) y191 from Kd.V_mk (by rw [hy63, hc63]; exact Nat.sub_le_sub_right hroom63 _) hr63)
                                                      have HC195 := Aside0.mk (show y191.length ≤ c63 from by rw [hy63, hc63]; exact Nat.sub_le_sub_right hroom63 _)
                                                      clear hr63 hC63 hroom63 hi063 hsz63 hc63
                                                      have KY63 := Aside0.mk hy63
                                                      have KA63 := Aside0.mk hA63
                                                      clear hy63 hA63
                                                      replace q63 := eq_true q63
                                                      (try (have h_ := of_eq_true q63; simp only [ByteArray.size_append, ByteArray.size_extract, Nat.min_self, Int.toNat_natCast, Nat.sub_zero, Int.natCast_add, size_lit, List.length_cons, List.length_nil, Nat.zero_add, Nat.reduceAdd, Int.natCast_one, Int.cast_ofNat_Int] at h_; have q63s := eq_true h_; clear h_))
                                                      have hnb64 := NB184_183.out
                                                      have hnc64 := NB183_184.out
                                                      have hcz65_0 : wc.cell? ⟨gb184, 0, none⟩ = some (.string t176) := (blk_cell BK184.out 0).trans rfl
                                                      have hcz65_1 : wc.cell? ⟨gb184, 1, none⟩ = some (.string x185001_20) := (blk_cell BK184.out 1).trans rfl
                                                      have hfz65_0 := blk_frozen BK184.out 0
                                                      have hfz65_1 := blk_frozen BK184.out 1
                                                      go_wp2_with (first | ((with_reducible refine gate_builtin (b := .append) (xs := #[.tmp 101, .tmp 103]) rfl ?_); (try (refine gate_guard (by rfl) ?_; dsimp only)); at_builtin; refine Kd.R_append k38 (w0 := w) w.heap.size rfl (.tmp 101) (.tmp 103) 22 38 (.agg #[(.string ⟨#[]⟩), (.string ⟨#[]⟩)]) 32 rfl Tryd.underlying22 info38 rfl (by decide) (by omega) u4 x4_2 (⟨t176, x185001_20⟩ : S38) [.string t176, .string x185001_20] (fun k_ => (w.heap.size ≤ k_) ∧ k_ ≠ gb184) (fun _ => False) rfl rfl ?aP (fun _ hk => hk.elim) ?aF ?aO ?aB ?aS ?aL ?_; (case aP => exact k38_mkM _ _ _ (⟨t176, x185001_20⟩ : S38)); (case aB => exact (by repeat (first | (with_reducible first | exact HB.out | apply below_alloc | apply pw_below_drewN | apply below_drew1 | refine below_set ?_ GE183.out | refine below_set ?_ GE184.out) | exact HB.out))); (case aF => exact (fun k_ hk => ⟨(Nat.le_trans (below_size (by repeat (first | (with_reducible first | exact HB.out | apply below_alloc | apply pw_below_drewN | apply below_drew1 | refine below_set ?_ GE183.out | refine below_set ?_ GE184.out) | exact HB.out))) hk), Kd.freshB (g := gb184) (o := .cells #[.string t176, .string x185001_20] 38 (0, 0)) (by (with_reducible repeat (first | refine blk_drewN ?_ _ | refine blk_drew ?_ | refine blk_alloc ?_ _)); exact BK184.out) k_ hk⟩)); (case aO => exact (by (with_reducible repeat (first | apply Kd.R_alloc | apply Kd.R_drewN | apply Kd.R_drew)); exact HO_4.out)); (case aS => exact (below_size (by repeat (first | (with_reducible first | exact HB.out | apply below_alloc | apply pw_below_drewN | apply below_drew1 | refine below_set ?_ GE183.out | refine below_set ?_ GE184.out) | exact HB.out)))); (case aL => have := LMc62.out; omega); intro v197 w66 ho hb hg hat; rw [← Ny196.out] at ho; have n0_ := Aside0.mk (Kd.V_afterv (ok := (fun k_ => (P0_ k_ ∨ w.heap.size ≤ k_) ∧ k_ ≠ gb183 ∧ k_ ≠ gb184)) (by (with_reducible repeat (first | apply Kd.V_alloc | apply Kd.V_drewN | apply Kd.V_drew)); exact Kd.V_mono HO_5.out (fun _ hk => ⟨⟨hk.1, ⟨hk.2.2.1, hk.2.2.2⟩⟩, hk.2.1⟩)) hg hat); have n1_ := Aside0.mk (blk_grown (g := gb183) (o := .cells #[.int .i64 t177, .int .i64 t178, .bool t179, .bool t180, .bool t181] 56 (0, 0)) (by (with_reducible repeat (first | refine blk_drewN ?_ _ | refine blk_drew ?_ | refine blk_alloc ?_ _)); exact BK183.out) hg (Kd.R_ne HO_4.out BK183.out (by decide))); have n2_ := Aside0.mk (blk_grown (g := gb184) (o := .cells #[.string t176, .string x185001_20] 38 (0, 0)) (by (with_reducible repeat (first | refine blk_drewN ?_ _ | refine blk_drew ?_ | refine blk_alloc ?_ _)); exact BK184.out) hg (Kd.R_away HO_4.out (fun _ hk => hk.2))); have n3_ := Aside0.mk (Kd.V_afterv (ok := (fun k_ => (P0_ k_ ∨ w.heap.size ≤ k_) ∧ k_ ≠ gb183 ∧ k_ ≠ gb184)) (by (with_reducible repeat (first | apply Kd.V_alloc | apply Kd.V_drewN | apply Kd.V_drew)); exact Kd.V_mono HO195.out (fun _ hk => ⟨⟨hk.1, ⟨hk.2.2.1, hk.2.2.2⟩⟩, hk.2.1⟩)) hg hat); have n4_ := Aside0.mk (hb); have n5_ := Aside0.mk (ho); clear HO_5; clear BK183; clear BK184; clear HO195; clear HB; clear HO_4; have HO_5 := n0_; have BK183 := n1_; have BK184 := n2_; have HO195 := n3_; have HB := n4_; have HO198 := n5_; clear n0_ n1_ n2_ n3_ n4_ n5_; clear ho hb hg hat))
                                                      go_roundg kj45
                                                      case measure => have := HJ4.out; have := HK2.out; have := HJ20.out; have := HJ45.out; omega
                                                      case rel => exact ⟨(y196), (y191), H', ⟨by have := HJ4.out; have := HK2.out; have := HJ20.out; have := HJ45.out; omega⟩, ⟨by (with_reducible repeat (first | apply Kd.R_alloc | apply Kd.R_drewN | apply Kd.R_drew)); exact Kd.R_mono HO198.out (fun _ hk => hk.1)⟩, ⟨by (with_reducible repeat (first | apply Kd.V_alloc | apply Kd.V_drewN | apply Kd.V_drew)); exact Kd.V_mono HO195.out (fun _ hk => ⟨hk.1.1, hk.2⟩)⟩, ⟨by repeat (first | (with_reducible first | exact HB.out | apply below_alloc | apply pw_below_drewN | apply below_drew1 | refine below_set ?_ GE183.out | refine below_set ?_ GE184.out) | exact HB.out)⟩⟩
                                                    · rw [if_neg c62] at H
                                                      exact absurd H (by simp)
                                                · rw [if_neg c59] at H
                                                  exact absurd H (by simp)
                                              · replace c58 := Bool.eq_false_iff.mpr c58
                                                subst c58
                                                have H1 : (if x4_2.length < 4398046511104 then (gs1_FromChars.l0 kj45 (x4_2 ++ [(⟨t176, x185001_20⟩ : S38)]) y186) else (none)) = some (r1, r2) := by rw [if_neg (show ¬ (false = true) by decide)] at H; exact H
                                                clear H
                                                have H := H1
                                                clear H1
                                                by_cases c67 : x4_2.length < 4398046511104
                                                · rw [if_pos c67] at H
                                                  have LMc67 := Aside0.mk c67
                                                  clear c67
                                                  obtain ⟨y199, hy199⟩ : ∃ y_ : List (S38), y_ = (x4_2 ++ [(⟨t176, x185001_20⟩ : S38)]) := ⟨_, rfl⟩
                                                  replace H : (gs1_FromChars.l0 kj45 y199 y186) = some (r1, r2) := by first | (rw [hy199]; with_reducible exact H) | (have H2_ := (Option.bind_some _ _).symm.trans H; rw [hy199]; with_reducible exact H2_) | (have H2_ := (Option.bind_some _ _).symm.trans H; with_reducible exact H2_) | with_reducible exact H | (rw [hy199]; exact H) | exact H
                                                  have Ny199 := Aside0.mk hy199
                                                  clear hy199
                                                  have H' := Aside0.mk H
                                                  clear H
                                                  have hnb68 := NB184_183.out
                                                  have hnc68 := NB183_184.out
                                                  have hcz69_0 : wc.cell? ⟨gb184, 0, none⟩ = some (.string t176) := (blk_cell BK184.out 0).trans rfl
                                                  have hcz69_1 : wc.cell? ⟨gb184, 1, none⟩ = some (.string x185001_20) := (blk_cell BK184.out 1).trans rfl
                                                  have hfz69_0 := blk_frozen BK184.out 0
                                                  have hfz69_1 := blk_frozen BK184.out 1
                                                  go_wp2_with (first | ((with_reducible refine gate_builtin (b := .append) (xs := #[.tmp 101, .tmp 103]) rfl ?_); (try (refine gate_guard (by rfl) ?_; dsimp only)); at_builtin; refine Kd.R_append k38 (w0 := w) w.heap.size rfl (.tmp 101) (.tmp 103) 22 38 (.agg #[(.string ⟨#[]⟩), (.string ⟨#[]⟩)]) 32 rfl Tryd.underlying22 info38 rfl (by decide) (by omega) u4 x4_2 (⟨t176, x185001_20⟩ : S38) [.string t176, .string x185001_20] (fun k_ => (w.heap.size ≤ k_) ∧ k_ ≠ gb184) (fun _ => False) rfl rfl ?aP (fun _ hk => hk.elim) ?aF ?aO ?aB ?aS ?aL ?_; (case aP => exact k38_mkM _ _ _ (⟨t176, x185001_20⟩ : S38)); (case aB => exact (by repeat (first | (with_reducible first | exact HB.out | apply below_alloc | apply pw_below_drewN | apply below_drew1 | refine below_set ?_ GE183.out | refine below_set ?_ GE184.out) | exact HB.out))); (case aF => exact (fun k_ hk => ⟨(Nat.le_trans (below_size (by repeat (first | (with_reducible first | exact HB.out | apply below_alloc | apply pw_below_drewN | apply below_drew1 | refine below_set ?_ GE183.out | refine below_set ?_ GE184.out) | exact HB.out))) hk), Kd.freshB (g := gb184) (o := .cells #[.string t176, .string x185001_20] 38 (0, 0)) (by (with_reducible repeat (first | refine blk_drewN ?_ _ | refine blk_drew ?_ | refine blk_alloc ?_ _)); exact BK184.out) k_ hk⟩)); (case aO => exact (by (with_reducible repeat (first | apply Kd.R_alloc | apply Kd.R_drewN | apply Kd.R_drew)); exact HO_4.out)); (case aS => exact (below_size (by repeat (first | (with_reducible first | exact HB.out | apply below_alloc | apply pw_below_drewN | apply below_drew1 | refine below_set ?_ GE183.out | refine below_set ?_ GE184.out) | exact HB.out)))); (case aL => have := LMc67.out; omega); intro v200 w70 ho hb hg hat; rw [← Ny199.out] at ho; have n0_ := Aside0.mk (Kd.V_afterv (ok := (fun k_ => (P0_ k_ ∨ w.heap.size ≤ k_) ∧ k_ ≠ gb183 ∧ k_ ≠ gb184)) (by (with_reducible repeat (first | apply Kd.V_alloc | apply Kd.V_drewN | apply Kd.V_drew)); exact Kd.V_mono HO_5.out (fun _ hk => ⟨⟨hk.1, ⟨hk.2.2.1, hk.2.2.2⟩⟩, hk.2.1⟩)) hg hat); have n1_ := Aside0.mk (blk_grown (g := gb183) (o := .cells #[.int .i64 t177, .int .i64 t178, .bool t179, .bool t180, .bool t181] 56 (0, 0)) (by (with_reducible repeat (first | refine blk_drewN ?_ _ | refine blk_drew ?_ | refine blk_alloc ?_ _)); exact BK183.out) hg (Kd.R_ne HO_4.out BK183.out (by decide))); have n2_ := Aside0.mk (blk_grown (g := gb184) (o := .cells #[.string t176, .string x185001_20] 38 (0, 0)) (by (with_reducible repeat (first | refine blk_drewN ?_ _ | refine blk_drew ?_ | refine blk_alloc ?_ _)); exact BK184.out) hg (Kd.R_away HO_4.out (fun _ hk => hk.2))); have n3_ := Aside0.mk (hb); have n4_ := Aside0.mk (ho); clear HO_5; clear BK183; clear BK184; clear HB; clear HO_4; have HO_5 := n0_; have BK183 := n1_; have BK184 := n2_; have HB := n3_; have HO201 := n4_; clear n0_ n1_ n2_ n3_ n4_; clear ho hb hg hat))
                                                  go_roundg kj45
                                                  case measure => have := HJ4.out; have := HK2.out; have := HJ20.out; have := HJ45.out; omega
                                                  case rel => exact ⟨(y199), (y186), H', ⟨by have := HJ4.out; have := HK2.out; have := HJ20.out; have := HJ45.out; omega⟩, ⟨by (with_reducible repeat (first | apply Kd.R_alloc | apply Kd.R_drewN | apply Kd.R_drew)); exact Kd.R_mono HO201.out (fun _ hk => hk.1)⟩, ⟨by (with_reducible repeat (first | apply Kd.V_alloc | apply Kd.V_drewN | apply Kd.V_drew)); exact Kd.V_mono HO_5.out (fun _ hk => ⟨hk.1.1, hk.2⟩)⟩, ⟨by repeat (first | (with_reducible first | exact HB.out | apply below_alloc | apply pw_below_drewN | apply below_drew1 | refine below_set ?_ GE183.out | refine below_set ?_ GE184.out) | exact HB.out)⟩⟩
                                                · rw [if_neg c67] at H
                                                  exact absurd H (by simp)
                                        · rw [if_neg c45] at H
                                          exact absurd H (by simp)
                                      · rw [if_neg c44] at H
                                        exact absurd H (by simp)
                                    · rw [if_neg c42] at H
                                      have c42b0 : (t185 == 0) = false := beq_eq_false_iff_ne.mpr c42
                                      have c42b1 : (t185 != 0) = true := bne_iff_ne.mpr c42
                                      simp only [Option.some.injEq, Prod.mk.injEq] at H
                                      obtain ⟨rfl, rfl⟩ := H
                                      have hnb71 := NB183_184.out
                                      have hnc71 := NB184_183.out
                                      have hcz72_0 : wc.cell? ⟨gb183, 0, none⟩ = some (.int .i64 t177) := (blk_cell BK183.out 0).trans rfl
                                      have hcz72_1 : wc.cell? ⟨gb183, 1, none⟩ = some (.int .i64 t178) := (blk_cell BK183.out 1).trans rfl
                                      have hcz72_2 : wc.cell? ⟨gb183, 2, none⟩ = some (.bool t179) := (blk_cell BK183.out 2).trans rfl
                                      have hcz72_3 : wc.cell? ⟨gb183, 3, none⟩ = some (.bool t180) := (blk_cell BK183.out 3).trans rfl
                                      have hcz72_4 : wc.cell? ⟨gb183, 4, none⟩ = some (.bool t181) := (blk_cell BK183.out 4).trans rfl
                                      have hfz72_0 := blk_frozen BK183.out 0
                                      have hfz72_1 := blk_frozen BK183.out 1
                                      have hfz72_2 := blk_frozen BK183.out 2
                                      have hfz72_3 := blk_frozen BK183.out 3
                                      have hfz72_4 := blk_frozen BK183.out 4
                                      have hcz73_0 : wc.cell? ⟨gb184, 0, none⟩ = some (.string t176) := (blk_cell BK184.out 0).trans rfl
                                      have hcz73_1 : wc.cell? ⟨gb184, 1, none⟩ = some (.string x185001_20) := (blk_cell BK184.out 1).trans rfl
                                      have hfz73_0 := blk_frozen BK184.out 0
                                      have hfz73_1 := blk_frozen BK184.out 1
                                      go_wp2_with (first | ((with_reducible refine gate_callee (f := 27) rfl ?_); refine goesL_ (some 76) rfl rfl Tryd.func27 (by kernel_rfl) rfl #[.agg #[.int .i64 t177, .int .i64 t178, .bool t179, .bool t180, .bool t181], .string x185001_20] rfl (by (try simp only [List.map_toArray, List.map_cons, List.map_nil]); first | done | rfl | (simp only [List.length_drop, List.length_take]; rfl)) ?_; (with_reducible refine (gs1_form_verify.calls kj20 t177 t178 t179 t180 t181 x185001_20 t185 _ A41.out).mono ?_); rintro e w74 ⟨rfl, hb⟩; refine ⟨_, rfl, ?_⟩; have n0_ := Aside0.mk (Kd.R_below (by (with_reducible repeat (first | apply Kd.R_alloc | apply Kd.R_drewN | apply Kd.R_drew)); exact HO_4.out) hb); have n1_ := Aside0.mk (Kd.V_below (by (with_reducible repeat (first | apply Kd.V_alloc | apply Kd.V_drewN | apply Kd.V_drew)); exact HO_5.out) hb); have n2_ := Aside0.mk (blk_below (g := gb183) (o := .cells #[.int .i64 t177, .int .i64 t178, .bool t179, .bool t180, .bool t181] 56 (0, 0)) (by (with_reducible repeat (first | refine blk_drewN ?_ _ | refine blk_drew ?_ | refine blk_alloc ?_ _)); exact BK183.out) hb); have n3_ := Aside0.mk (blk_below (g := gb184) (o := .cells #[.string t176, .string x185001_20] 38 (0, 0)) (by (with_reducible repeat (first | refine blk_drewN ?_ _ | refine blk_drew ?_ | refine blk_alloc ?_ _)); exact BK184.out) hb); have n4_ := Aside0.mk (below_step (by repeat (first | (with_reducible first | exact HB.out | apply below_alloc | apply pw_below_drewN | apply below_drew1 | refine below_set ?_ GE183.out | refine below_set ?_ GE184.out) | exact HB.out)) hb); clear HO_4; clear HO_5; clear BK183; clear BK184; clear HB; have HO_4 := n0_; have HO_5 := n1_; have BK183 := n2_; have BK184 := n3_; have HB := n4_; clear n0_ n1_ n2_ n3_ n4_; (try clear hb); (try clear hb2); (try clear hk); (try clear hi)))
                                      go_ret2
                                      exact ⟨_, by first | rfl | (simp [errW_none, errW_some] <;> rfl) | (simp [*, errW_none, errW_some] <;> rfl), by first | exact Kd.R_nil _ _ _ _ _ | exact Kd.N_nil _ _ _ _ _ | exact Kd.V_nil _ _ _ _ _ | exact Kd.Q_nil _ _ _ _ _ | exact Kd.S_nil _ _ _ _ _, by repeat (first | (with_reducible first | exact HB.out | apply below_alloc | apply pw_below_drewN | apply below_drew1 | refine below_set ?_ GE183.out | refine below_set ?_ GE184.out) | exact HB.out)⟩
                              · rw [if_neg c20] at H
                                exact absurd H (by simp)
                            · rw [if_neg c19] at H
                              exact absurd H (by simp)
                          · replace c18 := Bool.eq_false_iff.mpr c18
                            subst c18
                            have H1 : (some (([] : List (S38)), 29)) = some (r1, r2) := by rw [if_neg (show ¬ (false = true) by decide)] at H; exact H
                            clear H
                            have H := H1
                            clear H1
                            simp only [Option.some.injEq, Prod.mk.injEq] at H
                            obtain ⟨rfl, rfl⟩ := H
                            obtain ⟨Ao75, co75, eo75⟩ := Kd.V_slice HO_5.out
                            subst eo75
                            have p174 : 0 ≤ (0 : Int) := (by omega)
                            have q174 : 0 < (x5_2.length : Int) := of_decide_eq_true (by first | (with_reducible assumption) | assumption)
                            obtain ⟨ad174, e174, hx174_0⟩ := Kd.at_int (Kd.V_reads' HO_5.out).2.2 0 p174 q174
                            cases e174
                            have qi174 : (0 < x5_2.length) = True := eq_true (by omega)
                            (try rw [show ((0 : Int)).toNat = 0 from rfl] at hx174_0)
                            (try rw [Addr.add_zero'] at hx174_0)
                            replace p174 := eq_true p174
                            replace q174 := eq_true q174
                            (try (have h_ := of_eq_true q174; simp only [ByteArray.size_append, ByteArray.size_extract, Nat.min_self, Int.toNat_natCast, Nat.sub_zero, Int.natCast_add, size_lit, List.length_cons, List.length_nil, Nat.zero_add, Nat.reduceAdd, Int.natCast_one, Int.cast_ofNat_Int] at h_; have q174s := eq_true h_; clear h_))
                            go_wp2_with (first | ((with_reducible refine gate_callee (f := 25) rfl ?_); refine goesL_ (some 43) rfl rfl Tryd.func25 (by kernel_rfl) rfl #[.slice (some ad174) x5_2.length co75] rfl (by (try simp only [List.map_toArray, List.map_cons, List.map_nil]); first | done | rfl | (simp only [List.length_drop, List.length_take]; rfl)) ?_; (with_reducible refine (gs1_run.calls k2 (fun k_ => ((P0_ k_ ∨ w.heap.size ≤ k_) ∧ some k_ ≠ (u4 : Value).ownBlock)) _ _ x5_2 t175 _ ?side1 A16.out).mono ?_); (case side1 => exact HO_5.out); rintro e w76 ⟨rfl, hb⟩; refine ⟨_, rfl, ?_⟩; have n0_ := Aside0.mk (Kd.R_below (by (with_reducible repeat (first | apply Kd.R_alloc | apply Kd.R_drewN | apply Kd.R_drew)); exact HO_4.out) hb); have n1_ := Aside0.mk (Kd.V_below (by (with_reducible repeat (first | apply Kd.V_alloc | apply Kd.V_drewN | apply Kd.V_drew)); exact HO_5.out) hb); have n2_ := Aside0.mk (below_step (by repeat (first | (with_reducible first | exact HB.out | apply below_alloc | apply pw_below_drewN | apply below_drew1) | exact HB.out)) hb); clear HO_4; clear HO_5; clear HB; have HO_4 := n0_; have HO_5 := n1_; have HB := n2_; clear n0_ n1_ n2_; (try clear hb); (try clear hb2); (try clear hk); (try clear hi)) | ((with_reducible refine gate_callee (f := 26) rfl ?_); refine goesL_ (some 46) rfl rfl Tryd.func26 (by kernel_rfl) rfl #[.string t175] rfl (by (try simp only [List.map_toArray, List.map_cons, List.map_nil]); first | done | rfl | (simp only [List.length_drop, List.length_take]; rfl)) ?_; (with_reducible refine (gs1_prefix.calls k2 t175 t176 t177 t178 t179 t180 t181 false _ ?side1 A17.out).mono ?_); (case side1 => exact Tabs.below HT.out (by repeat (first | (with_reducible first | exact HB.out | apply below_alloc | apply pw_below_drewN | apply below_drew1) | exact HB.out))); rintro e w77 ⟨rfl, hb⟩; refine ⟨_, rfl, ?_⟩; have n0_ := Aside0.mk (Kd.R_below (by (with_reducible repeat (first | apply Kd.R_alloc | apply Kd.R_drewN | apply Kd.R_drew)); exact HO_4.out) hb); have n1_ := Aside0.mk (Kd.V_below (by (with_reducible repeat (first | apply Kd.V_alloc | apply Kd.V_drewN | apply Kd.V_drew)); exact HO_5.out) hb); have n2_ := Aside0.mk (below_step (by repeat (first | (with_reducible first | exact HB.out | apply below_alloc | apply pw_below_drewN | apply below_drew1) | exact HB.out)) hb); clear HO_4; clear HO_5; clear HB; have HO_4 := n0_; have HO_5 := n1_; have HB := n2_; clear n0_ n1_ n2_; (try clear hb); (try clear hb2); (try clear hk); (try clear hi)) | ((with_reducible refine gate_dst (N := 8) rfl ?_); (try (refine gate_guard (by rfl) ?_; dsimp only)); refine box_event ?hg (N := 8) ?hd (cs := #[.int .i64 0, .int .i64 0, .bool false, .bool false, .bool false]) (t := 56) ?hr ?_; (case hd => rfl); (case hg => rfl); (case hr => first | (go_simp; done) | (go_simp; rfl)); intro gb183 hg w78 hbox hb; have n0_ := Aside0.mk (Kd.R_below (by (with_reducible repeat (first | apply Kd.R_alloc | apply Kd.R_drewN | apply Kd.R_drew)); exact HO_4.out) hb); have n1_ := Aside0.mk (Kd.V_below (Kd.V_elderB (by (with_reducible repeat (first | apply Kd.V_alloc | apply Kd.V_drewN | apply Kd.V_drew)); exact HO_5.out) gb183 (Nat.le_of_eq hg.symm)) hb); have n2_ := Aside0.mk (below_step (by repeat (first | (with_reducible first | exact HB.out | apply below_alloc | apply pw_below_drewN | apply below_drew1) | exact HB.out)) hb); have n3_ := Aside0.mk (hbox); have n4_ := Aside0.mk ((by rw [hg]; exact (below_size (by repeat (first | (with_reducible first | exact HB.out | apply below_alloc | apply pw_below_drewN | apply below_drew1) | exact HB.out))) : w.heap.size ≤ gb183)); have n5_ := Aside0.mk ((by rw [hg]; exact (below_size (by repeat (first | (with_reducible first | exact HB.out | apply below_alloc | apply pw_below_drewN | apply below_drew1) | exact HB.out))) : w.heap.size ≤ gb183)); clear HO_4; clear HO_5; clear HB; have HO_4 := n0_; have HO_5 := n1_; have HB := n2_; have BK183 := n3_; have GW183 := n4_; have GE183 := n5_; clear n0_ n1_ n2_ n3_ n4_ n5_; clear hb hbox hg; have hcz79_0 : w78.cell? ⟨gb183, 0, none⟩ = some (.int .i64 0) := (blk_cell BK183.out 0).trans rfl; have hcz79_1 : w78.cell? ⟨gb183, 1, none⟩ = some (.int .i64 0) := (blk_cell BK183.out 1).trans rfl; have hcz79_2 : w78.cell? ⟨gb183, 2, none⟩ = some (.bool false) := (blk_cell BK183.out 2).trans rfl; have hcz79_3 : w78.cell? ⟨gb183, 3, none⟩ = some (.bool false) := (blk_cell BK183.out 3).trans rfl; have hcz79_4 : w78.cell? ⟨gb183, 4, none⟩ = some (.bool false) := (blk_cell BK183.out 4).trans rfl; have hfz79_0 := blk_frozen BK183.out 0; have hfz79_1 := blk_frozen BK183.out 1; have hfz79_2 := blk_frozen BK183.out 2; have hfz79_3 := blk_frozen BK183.out 3; have hfz79_4 := blk_frozen BK183.out 4))
                            go_ret2
                            exact ⟨_, by first | rfl | (simp [errW_none, errW_some] <;> rfl) | (simp [*, errW_none, errW_some] <;> rfl), by first | exact Kd.R_nil _ _ _ _ _ | exact Kd.N_nil _ _ _ _ _ | exact Kd.V_nil _ _ _ _ _ | exact Kd.Q_nil _ _ _ _ _ | exact Kd.S_nil _ _ _ _ _, by repeat (first | (with_reducible first | exact HB.out | apply below_alloc | apply pw_below_drewN | apply below_drew1 | refine below_set ?_ GE183.out) | exact HB.out)⟩
                      · rw [if_neg c13] at H
                        exact absurd H (by simp)
                    · rw [if_neg c12] at H
                      have c12b0 : decide (0 < (x5_2.length : Int)) = false := decide_eq_false c12
                      have c12b1 : decide (0 < x5_2.length) = false := decide_eq_false (by omega)
                      clear c12
                      simp only [Option.some.injEq, Prod.mk.injEq] at H
                      obtain ⟨rfl, rfl⟩ := H
                      obtain ⟨Ao80, co80, eo80⟩ := Kd.V_slice HO_5.out
                      subst eo80
                      go_wp2
                      go_ret2
                      exact ⟨_, by first | rfl | (simp [errW_none, errW_some] <;> rfl) | (simp [*, errW_none, errW_some] <;> rfl), by (with_reducible repeat (first | apply Kd.R_alloc | apply Kd.R_drewN | apply Kd.R_drew)); exact HO_4.out, by repeat (first | (with_reducible first | exact HB.out | apply below_alloc | apply pw_below_drewN | apply below_drew1) | exact HB.out)⟩
              · rw [if_neg c10] at H
                exact absurd H (by simp)

end Go.Proofs.YtghlbdemlmbijaaDoor.Q

namespace Go.Proofs.YtghlbdemlmbijaaDoor.Q
open Go.RowKit Go.Proofs.YtghlbdemlmbijaaDoorW.PrintWords Go.Proofs.YtghlbdemlmbijaaDoorW.PrintLast Go.Proofs.YtghlbdemlmbijaaDoorW.PrintMore

set_option linter.unusedVariables false
set_option linter.unusedSimpArgs false

/-! ### gs1_verifyAll: function 16 -/
def gs1_verifyAll.l0 : Nat → List (S38) → Int → Int → Option (Int)
  | 0, _, _, _ => none
  | k + 1, x9, x10, x11 => if x11 < x10 then (if 0 ≤ x11 then (if x11 < (x9.length : Int) then ((gs1_Verify.f k ((rd_T38 x9 x11).f0) ((rd_T38 x9 x11).f1)).bind fun t132 => (if t132 = 0 then (gs1_verifyAll.l0 k x9 x10 (wrap64 (x11 + 1))) else (some t132))) else (none)) else (none)) else (some 0)
def gs1_verifyAll.f (k : Nat) (l0 : List (S38)) : Option (Int) := if (l0.length : Int) = 0 then (some 5) else (gs1_verifyAll.l0 k l0 (l0.length : Int) 0)
theorem gs1_verifyAll.mono_l : ∀ k, (∀ y0 y1 y2, LeO (gs1_verifyAll.l0 k y0 y1 y2) (gs1_verifyAll.l0 (k + 1) y0 y1 y2))
  | 0 => fun _ _ _ r h => by simp [gs1_verifyAll.l0] at h
  | k + 1 => by
    have ih0 := gs1_verifyAll.mono_l k
    · intro y0 y1 y2
      unfold gs1_verifyAll.l0
      repeat' first
      | (with_reducible exact ih0 _ _ _)
      | (with_reducible exact gs1_Verify.mono _ _ _)
      | (with_reducible exact LeO.refl _)
      | (with_reducible exact LeO.none _)
      | (with_reducible refine LeO.ite ?_ ?_)
      | (with_reducible refine LeO.bind ?_ (fun _ => ?_))
      | exact ih0 _ _ _
      | exact gs1_Verify.mono _ _ _
      | exact LeO.none _
      | refine LeO.ite ?_ ?_
      | refine LeO.bind ?_ (fun _ => ?_)
theorem gs1_verifyAll.mono : ∀ a0 k, LeO (gs1_verifyAll.f k a0) (gs1_verifyAll.f (k + 1) a0) := by
  intro a0 k
  have ih0 := gs1_verifyAll.mono_l k
  unfold gs1_verifyAll.f
  repeat' first
      | (with_reducible exact ih0 _ _ _)
      | (with_reducible exact gs1_Verify.mono _ _ _)
      | (with_reducible exact LeO.refl _)
      | (with_reducible exact LeO.none _)
      | (with_reducible refine LeO.ite ?_ ?_)
      | (with_reducible refine LeO.bind ?_ (fun _ => ?_))
      | exact ih0 _ _ _
      | exact gs1_Verify.mono _ _ _
      | exact LeO.none _
      | refine LeO.ite ?_ ?_
      | refine LeO.bind ?_ (fun _ => ?_)
set_option maxHeartbeats 8000000 in
set_option maxRecDepth 100000 in
theorem gs1_verifyAll.calls (k : Nat) (A0 : Option Addr) (c0 : Nat) (l0 : List (S38)) (r : Int) (w : World) (hT : Tabs w) (hr0 : Kd.C k38 w A0 l0.length l0) (hc0 : l0.length ≤ c0) (h : gs1_verifyAll.f k l0 = some r) :
    Calls Tryd.prog 16 #[.slice A0 l0.length c0] w fun e w' => e = .returned (.int .i64 r) ∧ Below w.heap.size w w' := by
  have hu38 := Tryd.underlying38
  have HR0 := Aside0.mk hr0
  have HC0 := Aside0.mk hc0
  clear hr0 hc0
  have HT := Aside0.mk hT
  clear hT
  have HB := Aside0.mk (Below.refl w.heap.size w)
  have H : (if (l0.length : Int) = 0 then (some 5) else (gs1_verifyAll.l0 k l0 (l0.length : Int) 0)) = some r := h
  clear h
  by_cases c2 : (l0.length : Int) = 0
  · rw [if_pos c2] at H
    have c2b0 : ((l0.length : Int) == 0) = true := beq_iff_eq.mpr c2
    have c2b1 : ((l0.length : Int) != 0) = false := bne_eq_false_iff_eq.mpr c2
    clear c2
    obtain rfl := Option.some.inj H
    go_enter Tryd.func16, Tryd.ntmps16
    go_wp2
    go_ret
    exact ⟨by first | rfl | (simp [errW_none, errW_some] <;> rfl) | (simp [*, errW_none, errW_some] <;> rfl), by repeat (first | (with_reducible first | exact HB.out | apply below_alloc | apply pw_below_drewN | apply below_drew1) | exact HB.out)⟩
  · rw [if_neg c2] at H
    have c2b0 : ((l0.length : Int) == 0) = false := beq_eq_false_iff_ne.mpr c2
    have c2b1 : ((l0.length : Int) != 0) = true := bne_iff_ne.mpr c2
    have c2b2 : ¬ (l0 = []) := fun h_ => c2 (by rw [h_]; rfl)
    have H' := Aside0.mk H
    clear H
    go_enter Tryd.func16, Tryd.ntmps16
    go_wp2
    go_loopg [11] k (fun kq v11 w' => ∃ (x11_1 : Int), v11 = .int .i64 x11_1 ∧ Aside0 (gs1_verifyAll.l0 kq l0 (l0.length : Int) x11_1 = some r) ∧ Aside0 (kq ≤ k) ∧ Aside0 (Below w.heap.size w w'))
    case atStart => exact ⟨(0), (by first | rfl | (simp; done) | (simp [*]; done)), H', ⟨Nat.le_refl _⟩, ⟨by repeat (first | (with_reducible first | exact HB.out | apply below_alloc | apply pw_below_drewN | apply below_drew1) | exact HB.out)⟩⟩
    case round =>
      clear H'
      try clear c1
      try clear c2
      try clear c2b0
      try clear c2b1
      try clear c2b2
      try clear p2
      obtain ⟨x11_1, rfl, HA, HK1, HB⟩ := hrel
      cases gk with
      | zero => exact absurd HA.out (by simp [gs1_verifyAll.l0])
      | succ k1 =>
        have H := HA.out
        clear HA
        simp only [gs1_verifyAll.l0] at H
        by_cases c3 : x11_1 < (l0.length : Int)
        · rw [if_pos c3] at H
          have c3b0 : decide (x11_1 < (l0.length : Int)) = true := decide_eq_true c3
          clear c3
          by_cases c4 : 0 ≤ x11_1
          · rw [if_pos c4] at H
            have c4b0 : decide (0 ≤ x11_1) = true := decide_eq_true c4
            clear c4
            by_cases c5 : x11_1 < (l0.length : Int)
            · rw [if_pos c5] at H
              have c5b0 : decide (x11_1 < (l0.length : Int)) = true := decide_eq_true c5
              clear c5
              replace H := Option.bind_eq_some_iff.mp H
              obtain ⟨t132, A60, H⟩ := H
              replace H : (if t132 = 0 then (gs1_verifyAll.l0 k1 l0 (l0.length : Int) (wrap64 (x11_1 + 1))) else (some t132)) = some r := H
              have A6 := Aside0.mk A60
              clear A60
              by_cases c7 : t132 = 0
              · rw [if_pos c7] at H
                have c7b0 : (t132 == 0) = true := beq_iff_eq.mpr c7
                have c7b1 : (t132 != 0) = false := bne_eq_false_iff_eq.mpr c7
                clear c7
                have H' := Aside0.mk H
                clear H
                have p130 : 0 ≤ (x11_1 : Int) := of_decide_eq_true (by first | (with_reducible assumption) | assumption)
                have q130 : x11_1 < (l0.length : Int) := of_decide_eq_true (by first | (with_reducible assumption) | assumption)
                obtain ⟨ad130, e130, hx130_0, hx130_1⟩ := at_T38 HR0.out x11_1 p130 q130
                cases e130
                replace hx130_0 := (HB.out.cell (World.block_lt_of_cell? w _ hx130_0)).trans hx130_0
                replace hx130_1 := (HB.out.cell (World.block_lt_of_cell? w _ hx130_1)).trans hx130_1
                replace p130 := eq_true p130
                replace q130 := eq_true q130
                (try (have h_ := of_eq_true q130; simp only [ByteArray.size_append, ByteArray.size_extract, Nat.min_self, Int.toNat_natCast, Nat.sub_zero, Int.natCast_add, size_lit, List.length_cons, List.length_nil, Nat.zero_add, Nat.reduceAdd, Int.natCast_one, Int.cast_ofNat_Int] at h_; have q130s := eq_true h_; clear h_))
                go_wp2_with (first | ((with_reducible refine gate_dst (N := 4) rfl ?_); refine box_event ?hg (N := 4) ?hd (cs := #[.string (⟨#[]⟩ : ByteArray), .string (⟨#[]⟩ : ByteArray)]) (t := 38) ?hr ?_; (case hd => rfl); (case hg => rfl); (case hr => first | (go_simp; done) | (go_simp; rfl)); intro gb131 hg w8 hbox hb; have n0_ := Aside0.mk (below_step (by repeat (first | (with_reducible first | exact HB.out | apply below_alloc | apply pw_below_drewN | apply below_drew1) | exact HB.out)) hb); have n1_ := Aside0.mk (hbox); have n2_ := Aside0.mk ((by rw [hg]; exact (below_size (by repeat (first | (with_reducible first | exact HB.out | apply below_alloc | apply pw_below_drewN | apply below_drew1) | exact HB.out))) : w.heap.size ≤ gb131)); have n3_ := Aside0.mk ((by rw [hg]; exact (below_size (by repeat (first | (with_reducible first | exact HB.out | apply below_alloc | apply pw_below_drewN | apply below_drew1) | exact HB.out))) : w.heap.size ≤ gb131)); clear HB; have HB := n0_; have BK131 := n1_; have GW131 := n2_; have GE131 := n3_; clear n0_ n1_ n2_ n3_; clear hb hbox hg; have hcz9_0 : w8.cell? ⟨gb131, 0, none⟩ = some (.string (⟨#[]⟩ : ByteArray)) := (blk_cell BK131.out 0).trans rfl; have hcz9_1 : w8.cell? ⟨gb131, 1, none⟩ = some (.string (⟨#[]⟩ : ByteArray)) := (blk_cell BK131.out 1).trans rfl; have hfz9_0 := blk_frozen BK131.out 0; have hfz9_1 := blk_frozen BK131.out 1) | ((with_reducible refine gate_callee (f := 15) rfl ?_); refine goesL_ (some 16) rfl rfl Tryd.func15 (by kernel_rfl) rfl #[.agg #[.string ((rd_T38 l0 x11_1).f0), .string ((rd_T38 l0 x11_1).f1)]] rfl (by (try simp only [List.map_toArray, List.map_cons, List.map_nil]); first | done | rfl | (simp only [List.length_drop, List.length_take]; rfl)) ?_; (with_reducible refine (gs1_Verify.calls k1 ((rd_T38 l0 x11_1).f0) ((rd_T38 l0 x11_1).f1) t132 _ ?side1 A6.out).mono ?_); (case side1 => exact Tabs.below HT.out (by repeat (first | (with_reducible first | exact HB.out | apply below_alloc | apply pw_below_drewN | apply below_drew1 | refine below_set ?_ GE131.out) | exact HB.out))); rintro e w10 ⟨rfl, hb⟩; refine ⟨_, rfl, ?_⟩; have n0_ := Aside0.mk (blk_below (g := gb131) (o := .cells #[.string ((rd_T38 l0 x11_1).f0), .string ((rd_T38 l0 x11_1).f1)] 38 (0, 0)) (by (with_reducible repeat (first | refine blk_drewN ?_ _ | refine blk_drew ?_ | refine blk_alloc ?_ _)); refine blk_put (cs := #[.string ((rd_T38 l0 x11_1).f0), .string (⟨#[]⟩ : ByteArray)]) ?_ 1 _ rfl; (with_reducible repeat (first | refine blk_drewN ?_ _ | refine blk_drew ?_ | refine blk_alloc ?_ _)); refine blk_put (cs := #[.string (⟨#[]⟩ : ByteArray), .string (⟨#[]⟩ : ByteArray)]) ?_ 0 _ rfl; (with_reducible repeat (first | refine blk_drewN ?_ _ | refine blk_drew ?_ | refine blk_alloc ?_ _)); exact BK131.out) hb); have n1_ := Aside0.mk (below_step (by repeat (first | (with_reducible first | exact HB.out | apply below_alloc | apply pw_below_drewN | apply below_drew1 | refine below_set ?_ GE131.out) | exact HB.out)) hb); clear BK131; clear HB; have BK131 := n0_; have HB := n1_; clear n0_ n1_; (try clear hb); (try clear hb2); (try clear hk); (try clear hi)))
                go_roundg k1
                case measure => have := HK1.out; omega
                case rel => exact ⟨(wrap64 (x11_1 + 1)), (by first | rfl | (simp; done) | (simp [*]; done)), H', ⟨by have := HK1.out; omega⟩, ⟨by repeat (first | (with_reducible first | exact HB.out | apply below_alloc | apply pw_below_drewN | apply below_drew1 | refine below_set ?_ GE131.out) | exact HB.out)⟩⟩
              · rw [if_neg c7] at H
                have c7b0 : (t132 == 0) = false := beq_eq_false_iff_ne.mpr c7
                have c7b1 : (t132 != 0) = true := bne_iff_ne.mpr c7
                obtain rfl := Option.some.inj H
                have p130 : 0 ≤ (x11_1 : Int) := of_decide_eq_true (by first | (with_reducible assumption) | assumption)
                have q130 : x11_1 < (l0.length : Int) := of_decide_eq_true (by first | (with_reducible assumption) | assumption)
                obtain ⟨ad130, e130, hx130_0, hx130_1⟩ := at_T38 HR0.out x11_1 p130 q130
                cases e130
                replace hx130_0 := (HB.out.cell (World.block_lt_of_cell? w _ hx130_0)).trans hx130_0
                replace hx130_1 := (HB.out.cell (World.block_lt_of_cell? w _ hx130_1)).trans hx130_1
                replace p130 := eq_true p130
                replace q130 := eq_true q130
                (try (have h_ := of_eq_true q130; simp only [ByteArray.size_append, ByteArray.size_extract, Nat.min_self, Int.toNat_natCast, Nat.sub_zero, Int.natCast_add, size_lit, List.length_cons, List.length_nil, Nat.zero_add, Nat.reduceAdd, Int.natCast_one, Int.cast_ofNat_Int] at h_; have q130s := eq_true h_; clear h_))
                go_wp2_with (first | ((with_reducible refine gate_dst (N := 4) rfl ?_); refine box_event ?hg (N := 4) ?hd (cs := #[.string (⟨#[]⟩ : ByteArray), .string (⟨#[]⟩ : ByteArray)]) (t := 38) ?hr ?_; (case hd => rfl); (case hg => rfl); (case hr => first | (go_simp; done) | (go_simp; rfl)); intro gb131 hg w11 hbox hb; have n0_ := Aside0.mk (below_step (by repeat (first | (with_reducible first | exact HB.out | apply below_alloc | apply pw_below_drewN | apply below_drew1) | exact HB.out)) hb); have n1_ := Aside0.mk (hbox); have n2_ := Aside0.mk ((by rw [hg]; exact (below_size (by repeat (first | (with_reducible first | exact HB.out | apply below_alloc | apply pw_below_drewN | apply below_drew1) | exact HB.out))) : w.heap.size ≤ gb131)); have n3_ := Aside0.mk ((by rw [hg]; exact (below_size (by repeat (first | (with_reducible first | exact HB.out | apply below_alloc | apply pw_below_drewN | apply below_drew1) | exact HB.out))) : w.heap.size ≤ gb131)); clear HB; have HB := n0_; have BK131 := n1_; have GW131 := n2_; have GE131 := n3_; clear n0_ n1_ n2_ n3_; clear hb hbox hg; have hcz12_0 : w11.cell? ⟨gb131, 0, none⟩ = some (.string (⟨#[]⟩ : ByteArray)) := (blk_cell BK131.out 0).trans rfl; have hcz12_1 : w11.cell? ⟨gb131, 1, none⟩ = some (.string (⟨#[]⟩ : ByteArray)) := (blk_cell BK131.out 1).trans rfl; have hfz12_0 := blk_frozen BK131.out 0; have hfz12_1 := blk_frozen BK131.out 1) | ((with_reducible refine gate_callee (f := 15) rfl ?_); refine goesL_ (some 16) rfl rfl Tryd.func15 (by kernel_rfl) rfl #[.agg #[.string ((rd_T38 l0 x11_1).f0), .string ((rd_T38 l0 x11_1).f1)]] rfl (by (try simp only [List.map_toArray, List.map_cons, List.map_nil]); first | done | rfl | (simp only [List.length_drop, List.length_take]; rfl)) ?_; (with_reducible refine (gs1_Verify.calls k1 ((rd_T38 l0 x11_1).f0) ((rd_T38 l0 x11_1).f1) t132 _ ?side1 A6.out).mono ?_); (case side1 => exact Tabs.below HT.out (by repeat (first | (with_reducible first | exact HB.out | apply below_alloc | apply pw_below_drewN | apply below_drew1 | refine below_set ?_ GE131.out) | exact HB.out))); rintro e w13 ⟨rfl, hb⟩; refine ⟨_, rfl, ?_⟩; have n0_ := Aside0.mk (blk_below (g := gb131) (o := .cells #[.string ((rd_T38 l0 x11_1).f0), .string ((rd_T38 l0 x11_1).f1)] 38 (0, 0)) (by (with_reducible repeat (first | refine blk_drewN ?_ _ | refine blk_drew ?_ | refine blk_alloc ?_ _)); refine blk_put (cs := #[.string ((rd_T38 l0 x11_1).f0), .string (⟨#[]⟩ : ByteArray)]) ?_ 1 _ rfl; (with_reducible repeat (first | refine blk_drewN ?_ _ | refine blk_drew ?_ | refine blk_alloc ?_ _)); refine blk_put (cs := #[.string (⟨#[]⟩ : ByteArray), .string (⟨#[]⟩ : ByteArray)]) ?_ 0 _ rfl; (with_reducible repeat (first | refine blk_drewN ?_ _ | refine blk_drew ?_ | refine blk_alloc ?_ _)); exact BK131.out) hb); have n1_ := Aside0.mk (below_step (by repeat (first | (with_reducible first | exact HB.out | apply below_alloc | apply pw_below_drewN | apply below_drew1 | refine below_set ?_ GE131.out) | exact HB.out)) hb); clear BK131; clear HB; have BK131 := n0_; have HB := n1_; clear n0_ n1_; (try clear hb); (try clear hb2); (try clear hk); (try clear hi)))
                go_ret
                exact ⟨by first | rfl | (simp [errW_none, errW_some] <;> rfl) | (simp [*, errW_none, errW_some] <;> rfl), by repeat (first | (with_reducible first | exact HB.out | apply below_alloc | apply pw_below_drewN | apply below_drew1 | refine below_set ?_ GE131.out) | exact HB.out)⟩
            · rw [if_neg c5] at H
              exact absurd H (by simp)
          · rw [if_neg c4] at H
            exact absurd H (by simp)
        · rw [if_neg c3] at H
          have c3b0 : decide (x11_1 < (l0.length : Int)) = false := decide_eq_false c3
          clear c3
          obtain rfl := Option.some.inj H
          go_wp2
          go_ret
          exact ⟨by first | rfl | (simp [errW_none, errW_some] <;> rfl) | (simp [*, errW_none, errW_some] <;> rfl), by repeat (first | (with_reducible first | exact HB.out | apply below_alloc | apply pw_below_drewN | apply below_drew1) | exact HB.out)⟩

end Go.Proofs.YtghlbdemlmbijaaDoor.Q
