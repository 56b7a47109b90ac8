/- Joined by a program of this work (pack.py) out of the texts GChars, GBuilder, GFormat of this seat, in build order. -/
import Derived.Test.YtghlbdemlmbijaaDoorPD6
import Derived.Lib.ConvBytes
import Derived.Lib.AtoiErrMem
import Derived.WalkLawsBesides
import Derived.Shelf.Strings.Builder1
/- gs1.Chars: what it answers for every list. -/
namespace Go.Proofs.YtghlbdemlmbijaaDoor.Q
open Go.RowKit Go.Proofs.YtghlbdemlmbijaaDoorW.PrintWords Go.Proofs.YtghlbdemlmbijaaDoorW.PrintLast Go.Proofs.YtghlbdemlmbijaaDoorW.PrintMore

set_option linter.unusedVariables false
set_option linter.unusedSimpArgs false
/-- A text's bytes as characters. -/
def ints (s : ByteArray) : List Int := (bs s).map fun b => (b.toNat : Int)
def step (x : List S38) (out : List Int) (i : Int) (fixed : Int) : List Int :=
  if fixed = 0 ∧ i < wrap64 ((x.length : Int) - 1) then (out ++ ints ((rd_T38 x i).f0 ++ (rd_T38 x i).f1)) ++ [256] else out ++ ints ((rd_T38 x i).f0 ++ (rd_T38 x i).f1)
def gs1_Chars.l0 : Nat → List S38 → List Int → Int → Option (List Int × Int)
  | 0, _, _, _ => none
  | k + 1, x, out, i => if i < (x.length : Int) then (if 0 ≤ i ∧ (rd_T38 x i).f0.size ≤ 4294967296 ∧ (rd_T38 x i).f1.size ≤ 4294967296 ∧ out.length ≤ 4294967296 then (gs1_formOf.f (rd_T38 x i).f0).bind fun t => (if ((step x out i t.1).length : Int) > 4096 then some ([], 4) else gs1_Chars.l0 k x (step x out i t.1) (wrap64 (i + 1))) else none) else some (out, 0)
def gs1_Chars.f (k : Nat) (l0 : List S38) : Option (List Int × Int) :=
  (gs1_verifyAll.f k l0).bind fun t => if t = 0 then gs1_Chars.l0 k l0 [256] 0 else some ([], t)
theorem gs1_Chars.mono_l : ∀ k y0 y1 y2, LeO (gs1_Chars.l0 k y0 y1 y2) (gs1_Chars.l0 (k + 1) y0 y1 y2)
  | 0, _, _, _ => fun r h => by simp [gs1_Chars.l0] at h
  | k + 1, y0, y1, y2 => by
    have ih0 := gs1_Chars.mono_l k
    rw [gs1_Chars.l0, gs1_Chars.l0]
    exact LeO.ite (LeO.ite (LeO.bind (LeO.refl _) fun _ => LeO.ite (LeO.refl _) (ih0 _ _ _)) (LeO.none _)) (LeO.refl _)
theorem gs1_Chars.mono : ∀ a0 k, LeO (gs1_Chars.f k a0) (gs1_Chars.f (k + 1) a0) := by
  intro a0 k
  unfold gs1_Chars.f
  exact LeO.bind (gs1_verifyAll.mono _ _) fun _ => LeO.ite (gs1_Chars.mono_l _ _ _ _) (LeO.refl _)
theorem R256 (W : World) (B : Nat) (hB : B ≤ W.heap.size) : (Kd.int .i64).R 3 (W.alloc (.cells #[.int .i64 256] 3)) B (fun _ => True) (.slice (some ⟨W.heap.size, 0, none⟩) 1 1) [256] := by
  refine ⟨fun _ _ => trivial, [.int .i64 256], ?_, Reps.one (show Kd.M (Kd.int .i64) _ _ _ 256 [.int .i64 256] from rfl) (Reps.none _ _)⟩
  exact World.ownsRow_lit (base := B) (e := 3) (size := 1) W #[.int .i64 256] 1 hB (by decide) (by simp)
theorem bytes_at (W : World) (s : ByteArray) (j : Nat) (hj : j < s.size) : (Lib.bytesCells W 5 s)[j]? = some (.int .u8 ((bs s).getD j 0).toNat) := by
  have h := Lib.bytesWorld_cell W 5 s j hj
  rw [Lib.cell_of_heap (Lib.bytesWorld_at_new W 5 s)] at h
  exact h
theorem ints_len (s : ByteArray) : (ints s).length = s.size := by simp [ints, bs_len]
theorem ints_take (s : ByteArray) (j : Nat) (hj : j < s.size) : (ints s).take (j + 1) = (ints s).take j ++ [(((bs s).getD j 0).toNat : Int)] := by
  have hl : j < (bs s).length := by rw [bs_len]; exact hj
  unfold ints
  rw [← List.map_take, ← List.map_take, List.take_succ_eq_append_getElem hl, List.map_append]
  simp [List.getD_eq_getElem?_getD, List.getElem?_eq_getElem hl]
theorem World.lt_of_heap {w : World} {b : Nat} {o : Obj} (h : w.heap[b]? = some o) : b < w.heap.size := (Array.getElem?_eq_some_iff.1 h).1
theorem R_apart {e : Nat} {w : World} {base : Nat} {v : Value} {xs : List Int} {g : Nat} {cs : Array Value} {T : Nat} {fr : Nat × Nat} (h : (Kd.int .i64).R e w base (fun _ => True) v xs) (hb : w.heap[g]? = some (.cells cs T fr)) (hTe : T ≠ e) : v.ownBlock ≠ some g := by
  obtain ⟨h0, inner, hown, hr⟩ := h
  exact Lib.ownBlock_ne hown hb hTe
set_option maxRecDepth 100000 in
set_option maxHeartbeats 8000000 in
theorem gs1_Chars.calls (k : Nat) (A0 : Option Addr) (c0 : Nat) (l0 : List S38) (r1 : List Int) (r2 : Int) (w : World) (hT : Tabs w) (hr0 : Kd.C k38 w A0 l0.length l0) (hc0 : l0.length ≤ c0) (h : gs1_Chars.f k l0 = some (r1, r2)) :
    Calls Tryd.prog 10 #[.slice A0 l0.length c0] w fun e w' => ∃ v0_ : Value, e = .returned (.tuple #[v0_, .int .i64 r2]) ∧ (Kd.int .i64).R 3 w' w.heap.size (fun _ => True) v0_ r1 ∧ Below w.heap.size w w' := by
  have hu := Tryd.underlying38
  have HR0 := Aside0.mk hr0
  have HC0 := Aside0.mk hc0
  have HT := Aside0.mk hT
  clear hr0 hc0 hT
  have HB := Aside0.mk (Below.refl w.heap.size w)
  obtain ⟨t, A20, H⟩ := Option.bind_eq_some_iff.mp h
  clear h
  have A2 := Aside0.mk A20
  clear A20
  by_cases c3 : t = 0
  · subst c3
    rw [if_pos rfl] at H
    have H' := Aside0.mk H
    clear H
    go_enter Tryd.func10, Tryd.ntmps10
    go_wp2_with (first | (go_at_call 16; refine (gs1_verifyAll.calls k _ _ l0 0 _ (Tabs.below HT.out HB.out) HR0.out HC0.out A2.out).mono ?_; rintro e w4 ⟨rfl, hb⟩; have HB4 := Aside0.mk (below_step HB.out hb)))
    have R0 := Aside0.mk (R256 w4 w.heap.size (below_size HB4.out))
    have B0 := Aside0.mk ((HB4.out).alloc (below_size HB4.out) (.cells #[.int .i64 256] 3))
    go_loopg [5, 20] k (fun kq v5 v20 w' => ∃ (out : List Int) (i : Int), v20 = .int .i64 i ∧ Aside0 (gs1_Chars.l0 kq l0 out i = some (r1, r2)) ∧ Aside0 (kq ≤ k) ∧ Aside0 ((Kd.int .i64).R 3 w' w.heap.size (fun _ => True) v5 out) ∧ Aside0 (Below w.heap.size w w'))
    case atStart => exact ⟨[256], 0, rfl, H', ⟨Nat.le_refl _⟩, R0, B0⟩
    case round =>
      clear H'
      obtain ⟨out, i, rfl, HA, HK1, HO, HB1⟩ := hrel
      cases gk with
      | zero => exact absurd HA.out (by simp [gs1_Chars.l0])
      | succ k1 =>
        have H := HA.out
        clear HA
        simp only [gs1_Chars.l0] at H
        by_cases c3 : i < (l0.length : Int)
        · rw [if_pos c3] at H
          have c3b0 : decide (i < (l0.length : Int)) = true := decide_eq_true c3
          by_cases c4 : 0 ≤ i ∧ (rd_T38 l0 i).f0.size ≤ 4294967296 ∧ (rd_T38 l0 i).f1.size ≤ 4294967296 ∧ out.length ≤ 4294967296
          · rw [if_pos c4] at H
            have C4 := Aside0.mk c4
            have p169 := c4.1
            have q169 := c3
            obtain ⟨t, A40, H⟩ := Option.bind_eq_some_iff.mp H
            have A4 := Aside0.mk A40
            have H3 := Aside0.mk H
            clear A40 H c4 c3
            obtain ⟨ad169, e169, hx169_0, hx169_1⟩ := at_T38 HR0.out i p169 q169
            cases e169
            replace hx169_0 := (HB1.out.cell (World.block_lt_of_cell? w _ hx169_0)).trans hx169_0
            replace hx169_1 := (HB1.out.cell (World.block_lt_of_cell? w _ hx169_1)).trans hx169_1
            replace p169 := eq_true p169
            replace q169 := eq_true q169
            have hcat : (9223372036854775807 < (rd_T38 l0 i).f0.size + (rd_T38 l0 i).f1.size) = False := eq_false (by have := C4.out; omega)
            have hcv : ∀ W : World, Sem.run Tryd.prog (convert 9 41 (.string ((rd_T38 l0 i).f0 ++ (rd_T38 l0 i).f1))) W = _ := fun W => Lib.run_convert_string_bytes W 9 41 5 _ Tryd.underlying9 Tryd.underlying41 Tryd.underlying5
            go_wp2
            have zw := Aside0.mk (below_size HB1.out)
            have BW1 : Below wr.heap.size wr (wr.alloc (.cells #[.string (rd_T38 l0 i).f0, .string (rd_T38 l0 i).f1] 38)) := (Below.refl _ _).alloc (Nat.le_refl _) _
            have BW2 : Below wr.heap.size wr (Lib.bytesWorld (wr.alloc (.cells #[.string (rd_T38 l0 i).f0, .string (rd_T38 l0 i).f1] 38)) 5 ((rd_T38 l0 i).f0 ++ (rd_T38 l0 i).f1)) := BW1.trans ((Lib.bytesWorld_below (wr.alloc (.cells #[.string (rd_T38 l0 i).f0, .string (rd_T38 l0 i).f1] 38)) 5 ((rd_T38 l0 i).f0 ++ (rd_T38 l0 i).f1)).mono (by simp))
            have RW := Aside0.mk (Kd.R_below HO.out BW2)
            have BW := Aside0.mk (below_step HB1.out BW2)
            have HXa : (wr.alloc (.cells #[.string (rd_T38 l0 i).f0, .string (rd_T38 l0 i).f1] 38)).heap[wr.heap.size]? = some (.cells #[.string (rd_T38 l0 i).f0, .string (rd_T38 l0 i).f1] 38 (0, 0)) := by show (wr.heap.push _)[wr.heap.size]? = _; simp
            have HX := Aside0.mk ((Lib.bytesWorld_at_old (wr.alloc (.cells #[.string (rd_T38 l0 i).f0, .string (rd_T38 l0 i).f1] 38)) 5 ((rd_T38 l0 i).f0 ++ (rd_T38 l0 i).f1) wr.heap.size (by simp)).trans HXa)
            clear HXa
            have HG := Aside0.mk ((show wr.heap.size + 1 = (wr.alloc (.cells #[.string (rd_T38 l0 i).f0, .string (rd_T38 l0 i).f1] 38)).heap.size by simp) ▸ Lib.bytesWorld_at_new (wr.alloc (.cells #[.string (rd_T38 l0 i).f0, .string (rd_T38 l0 i).f1] 38)) 5 ((rd_T38 l0 i).f0 ++ (rd_T38 l0 i).f1))
            clear BW1 BW2
            go_loopg [5, 32] (((rd_T38 l0 i).f0 ++ (rd_T38 l0 i).f1).size + 1) (fun kq v5 v32 w' => ∃ (j : Nat), v32 = .int .i64 j ∧ Aside0 (j ≤ ((rd_T38 l0 i).f0 ++ (rd_T38 l0 i).f1).size) ∧ Aside0 (((rd_T38 l0 i).f0 ++ (rd_T38 l0 i).f1).size < kq + j) ∧ Aside0 ((Kd.int .i64).R 3 w' w.heap.size (fun _ => True) v5 (out ++ (ints ((rd_T38 l0 i).f0 ++ (rd_T38 l0 i).f1)).take j)) ∧ Aside0 (Below w.heap.size w w') ∧ Aside0 (w'.heap[wr.heap.size]? = some (.cells #[.string (rd_T38 l0 i).f0, .string (rd_T38 l0 i).f1] 38 (0, 0))) ∧ Aside0 (w'.heap[wr.heap.size + 1]? = some (.cells (Lib.bytesCells (wr.alloc (.cells #[.string (rd_T38 l0 i).f0, .string (rd_T38 l0 i).f1] 38)) 5 ((rd_T38 l0 i).f0 ++ (rd_T38 l0 i).f1)) 5 ((Lib.bytesCells (wr.alloc (.cells #[.string (rd_T38 l0 i).f0, .string (rd_T38 l0 i).f1] 38)) 5 ((rd_T38 l0 i).f0 ++ (rd_T38 l0 i).f1)).size, (Lib.bytesCells (wr.alloc (.cells #[.string (rd_T38 l0 i).f0, .string (rd_T38 l0 i).f1] 38)) 5 ((rd_T38 l0 i).f0 ++ (rd_T38 l0 i).f1)).size + 1))))
            case atStart => exact ⟨0, rfl, ⟨Nat.zero_le _⟩, ⟨by omega⟩, by simpa using RW, BW, HX, HG⟩
            case round =>
              clear HX HG BW RW HB1 HO
              obtain ⟨j, rfl, HJ, HN, HO, HB1, HX, HG⟩ := hrel
              cases gk with
              | zero => exact absurd HN.out (by have := HJ.out; omega)
              | succ k2 =>
                by_cases c5 : j < ((rd_T38 l0 i).f0 ++ (rd_T38 l0 i).f1).size
                · have c5b0 : decide ((j : Int) < ((rd_T38 l0 i).f0.size : Int) + ((rd_T38 l0 i).f1.size : Int)) = true := decide_eq_true (by have := c5; simp only [ByteArray.size_append] at this; omega)
                  have c5b1 : ((j : Int) < ((rd_T38 l0 i).f0.size : Int) + ((rd_T38 l0 i).f1.size : Int)) = True := eq_true (of_decide_eq_true c5b0)
                  have c5b2 : (j < (rd_T38 l0 i).f0.size + (rd_T38 l0 i).f1.size) = True := eq_true (by have := c5; simp only [ByteArray.size_append] at this; omega)
                  obtain ⟨bv, hbv⟩ : ∃ bv : UInt8, (bs ((rd_T38 l0 i).f0 ++ (rd_T38 l0 i).f1)).getD j 0 = bv := ⟨_, rfl⟩
                  have hxb := (Lib.cell_of_heap HG.out j).trans (bytes_at _ ((rd_T38 l0 i).f0 ++ (rd_T38 l0 i).f1) j c5)
                  rw [hbv] at hxb
                  have hww : wrap64 (bv.toNat : Int) = (bv.toNat : Int) := wrap_id _ (by have := bv.toNat_lt; omega) (by have := bv.toNat_lt; omega)
                  have HLN := Aside0.mk (show out.length + j ≤ 17179869184 from by have := C4.out; have := c5; simp only [ByteArray.size_append] at this; omega)
                  have NX := Aside0.mk (R_apart HO.out HX.out (by decide))
                  have NG := Aside0.mk (R_apart HO.out HG.out (by decide))
                  have hLX := Aside0.mk (World.lt_of_heap HX.out)
                  have hLG := Aside0.mk (World.lt_of_heap HG.out)
                  go_wp2_with (first | ((with_reducible refine gate_builtin (b := .append) (xs := #[.tmp 36, .tmp 39]) rfl ?_); (try (refine gate_guard (by rfl) ?_; dsimp only)); at_builtin; refine Kd.R_append (Kd.int .i64) (w0 := w) w.heap.size rfl (.tmp 36) (.tmp 39) 29 3 (.int .i64 0) 8 rfl Tryd.underlying29 info3 rfl (by decide) (by omega) _ (out ++ (ints ((rd_T38 l0 i).f0 ++ (rd_T38 l0 i).f1)).take j) (bv.toNat : Int) [.int .i64 (bv.toNat : Int)] (fun _ => True) (fun _ => False) rfl rfl ?aP (fun _ hk => hk.elim) ?aF ?aO ?aB ?aS ?aL ?_; (case aP => exact rfl); (case aB => exact (by repeat (first | (with_reducible first | exact HB1.out | apply below_alloc | apply pw_below_drewN | apply below_drew1) | exact HB1.out))); (case aF => exact (fun _ _ => trivial)); (case aO => exact (by (with_reducible repeat (first | apply Kd.R_alloc | apply Kd.R_drewN | apply Kd.R_drew)); exact HO.out)); (case aS => exact (below_size (by repeat (first | (with_reducible first | exact HB1.out | apply below_alloc | apply pw_below_drewN | apply below_drew1) | exact HB1.out)))); (case aL => (have := HLN.out; simp only [List.length_append, List.length_take, ints_len] at this ⊢; omega)); intro v1 w6 ho hb6 hg hat))
                  go_roundg k2
                  case measure => have := HN.out; omega
                  case rel =>
                    refine ⟨j + 1, (by rw [wrap_id _ (by omega) (by have := HLN.out; omega)]; rfl), ⟨c5⟩, ⟨by have := HN.out; omega⟩, ⟨?_⟩, ⟨hb6⟩, ⟨?_⟩, ⟨?_⟩⟩
                    · rw [show (ints ((rd_T38 l0 i).f0 ++ (rd_T38 l0 i).f1)).take (j + 1) = (ints ((rd_T38 l0 i).f0 ++ (rd_T38 l0 i).f1)).take j ++ [(bv.toNat : Int)] from by rw [← hbv]; exact ints_take ((rd_T38 l0 i).f0 ++ (rd_T38 l0 i).f1) j c5, ← List.append_assoc]
                      first | exact ho | (rw [hww] at ho; exact ho)
                    · exact (hg.block _ hLX.out NX.out.symm).trans HX.out
                    · exact (hg.block _ hLG.out NG.out.symm).trans HG.out
                · have hj : j = ((rd_T38 l0 i).f0 ++ (rd_T38 l0 i).f1).size := by have := HJ.out; omega
                  have H3' := H3.out
                  clear H3
                  obtain ⟨t1, t2, t3, t4, t5, t6⟩ := t
                  obtain ⟨out1, ho1⟩ : ∃ o : List Int, out ++ ints ((rd_T38 l0 i).f0 ++ (rd_T38 l0 i).f1) = o := ⟨_, rfl⟩
                  have HO1 := HO.out
                  rw [hj, List.take_of_length_le (by rw [ints_len]; exact Nat.le_refl _), ho1] at HO1
                  replace HO1 := Aside0.mk HO1
                  have HLN := Aside0.mk (show out1.length ≤ 17179869184 from by have := C4.out; rw [← ho1]; simp only [List.length_append, ints_len, ByteArray.size_append]; omega)
                  have c5b0 : decide ((j : Int) < ((rd_T38 l0 i).f0.size : Int) + ((rd_T38 l0 i).f1.size : Int)) = false := decide_eq_false (by have := c5; simp only [ByteArray.size_append] at this; omega)
                  have c5b1 : ((j : Int) < ((rd_T38 l0 i).f0.size : Int) + ((rd_T38 l0 i).f1.size : Int)) = False := eq_false (of_decide_eq_false c5b0)
                  have hx0 := (Lib.cell_of_heap HX.out 0).trans rfl
                  have NX := Aside0.mk (R_apart HO.out HX.out (by decide))
                  clear HO HG HJ HN c5 hj
                  have hstep : step l0 out i t1 = if t1 = 0 ∧ i < wrap64 ((l0.length : Int) - 1) then out1 ++ [256] else out1 := by unfold step; rw [ho1]
                  by_cases c6 : t1 = 0 ∧ i < wrap64 ((l0.length : Int) - 1)
                  · rw [if_pos c6] at hstep
                    rw [hstep] at H3'
                    have c7b0 : decide (i < wrap64 ((l0.length : Int) - 1)) = true := decide_eq_true c6.2
                    obtain rfl := c6.1
                    by_cases c8 : ((out1 ++ [256]).length : Int) > 4096
                    · rw [if_pos c8] at H3'
                      have H := Option.some.inj H3'
                      simp only [Prod.mk.injEq] at H
                      obtain ⟨rfl, rfl⟩ := H
                      have hlen0 : (4096 < ((out1 ++ [256]).length : Int)) = True := eq_true (by omega)
                      have hlen1 : decide (4096 < ((out1 ++ [256]).length : Int)) = true := by simp only [hlen0]; decide
                      have hlen2 := hlen0; simp only [List.length_append, List.length_cons, List.length_nil, Nat.zero_add, Int.natCast_add, Int.natCast_one] at hlen2
                      have hlen3 := hlen1; simp only [List.length_append, List.length_cons, List.length_nil, Nat.zero_add, Int.natCast_add, Int.natCast_one] at hlen3
                      go_wp2_with (first | (go_at_call 22; refine (gs1_formOf.calls _ 0 t2 t3 t4 t5 t6 _ (Tabs.below HT.out (by repeat (first | (with_reducible first | exact HB1.out | apply below_alloc) | exact HB1.out))) A4.out).mono ?_; rintro e w7 ⟨rfl, hb7⟩; have HO7 := Aside0.mk (Kd.R_below (by (with_reducible repeat (first | apply Kd.R_alloc | apply Kd.R_drewN | apply Kd.R_drew)); exact HO1.out) hb7); have HB7 := Aside0.mk (below_step (by repeat (first | (with_reducible first | exact HB1.out | apply below_alloc) | exact HB1.out)) hb7)) | ((with_reducible refine gate_builtin (b := .append) (xs := #[.tmp 58, .tmp 59]) rfl ?_); (try (refine gate_guard (by rfl) ?_; dsimp only)); at_builtin; refine Kd.R_append (Kd.int .i64) (w0 := w) w.heap.size rfl (.tmp 58) (.tmp 59) 29 3 (.int .i64 0) 8 rfl Tryd.underlying29 info3 rfl (by decide) (by omega) _ out1 256 [.int .i64 256] (fun _ => True) (fun _ => False) rfl ?aX ?aP (fun _ hk => hk.elim) ?aF ?aO ?aB ?aS ?aL ?_; (case aX => first | rfl | (go_simp; done) | (go_simp; simp; done) | (show Value.slice _ _ _ = Value.slice _ _ _; simp)); (case aP => exact rfl); (case aB => exact (by repeat (first | (with_reducible first | exact HB7.out | apply below_alloc | apply pw_below_drewN | apply below_drew1 | refine below_set ?_ GE.out) | exact HB7.out))); (case aF => exact (fun _ _ => trivial)); (case aO => exact (by (with_reducible repeat (first | apply Kd.R_alloc | apply Kd.R_drewN | apply Kd.R_drew)); exact HO7.out)); (case aS => exact (below_size (by repeat (first | (with_reducible first | exact HB7.out | apply below_alloc | apply pw_below_drewN | apply below_drew1 | refine below_set ?_ GE.out) | exact HB7.out)))); (case aL => (have := HLN.out; omega)); intro v1 w9 ho hb9 hg hat; obtain ⟨Ao, co, eo⟩ := Kd.R_slice ho; subst eo))
                      have HB9 := Aside0.mk hb9
                      simp only [List.length_append, List.length_cons, List.length_nil, Nat.zero_add] at ho
                      have HO9 := Aside0.mk ho
                      go_ret2
                      exact ⟨_, rfl, Kd.R_nil _ _ _ _ _, (by repeat (first | (with_reducible first | exact HB9.out | apply below_alloc | apply pw_below_drewN | apply below_drew1) | exact HB9.out))⟩
                    · rw [if_neg c8] at H3'
                      have H3 := Aside0.mk H3'
                      clear H3'
                      have hlen0 : (4096 < ((out1 ++ [256]).length : Int)) = False := eq_false (by omega)
                      have hlen1 : decide (4096 < ((out1 ++ [256]).length : Int)) = false := by simp only [hlen0]; decide
                      have hlen2 := hlen0; simp only [List.length_append, List.length_cons, List.length_nil, Nat.zero_add, Int.natCast_add, Int.natCast_one] at hlen2
                      have hlen3 := hlen1; simp only [List.length_append, List.length_cons, List.length_nil, Nat.zero_add, Int.natCast_add, Int.natCast_one] at hlen3
                      go_wp2_with (first | (go_at_call 22; refine (gs1_formOf.calls _ 0 t2 t3 t4 t5 t6 _ (Tabs.below HT.out (by repeat (first | (with_reducible first | exact HB1.out | apply below_alloc) | exact HB1.out))) A4.out).mono ?_; rintro e w7 ⟨rfl, hb7⟩; have HO7 := Aside0.mk (Kd.R_below (by (with_reducible repeat (first | apply Kd.R_alloc | apply Kd.R_drewN | apply Kd.R_drew)); exact HO1.out) hb7); have HB7 := Aside0.mk (below_step (by repeat (first | (with_reducible first | exact HB1.out | apply below_alloc) | exact HB1.out)) hb7)) | ((with_reducible refine gate_builtin (b := .append) (xs := #[.tmp 58, .tmp 59]) rfl ?_); (try (refine gate_guard (by rfl) ?_; dsimp only)); at_builtin; refine Kd.R_append (Kd.int .i64) (w0 := w) w.heap.size rfl (.tmp 58) (.tmp 59) 29 3 (.int .i64 0) 8 rfl Tryd.underlying29 info3 rfl (by decide) (by omega) _ out1 256 [.int .i64 256] (fun _ => True) (fun _ => False) rfl ?aX ?aP (fun _ hk => hk.elim) ?aF ?aO ?aB ?aS ?aL ?_; (case aX => first | rfl | (go_simp; done) | (go_simp; simp; done) | (show Value.slice _ _ _ = Value.slice _ _ _; simp)); (case aP => exact rfl); (case aB => exact (by repeat (first | (with_reducible first | exact HB7.out | apply below_alloc | apply pw_below_drewN | apply below_drew1 | refine below_set ?_ GE.out) | exact HB7.out))); (case aF => exact (fun _ _ => trivial)); (case aO => exact (by (with_reducible repeat (first | apply Kd.R_alloc | apply Kd.R_drewN | apply Kd.R_drew)); exact HO7.out)); (case aS => exact (below_size (by repeat (first | (with_reducible first | exact HB7.out | apply below_alloc | apply pw_below_drewN | apply below_drew1 | refine below_set ?_ GE.out) | exact HB7.out)))); (case aL => (have := HLN.out; omega)); intro v1 w9 ho hb9 hg hat; obtain ⟨Ao, co, eo⟩ := Kd.R_slice ho; subst eo))
                      have HB9 := Aside0.mk hb9
                      simp only [List.length_append, List.length_cons, List.length_nil, Nat.zero_add] at ho
                      have HO9 := Aside0.mk ho
                      go_roundg k1
                      case measure => have := HK1.out; omega
                      case rel => exact ⟨(out1 ++ [256]), wrap64 (i + 1), (by first | rfl | (simp; done)), H3, ⟨by have := HK1.out; omega⟩, ⟨by (with_reducible repeat (first | apply Kd.R_alloc | apply Kd.R_drewN | apply Kd.R_drew)); exact HO9.out⟩, ⟨(by repeat (first | (with_reducible first | exact HB9.out | apply below_alloc | apply pw_below_drewN | apply below_drew1) | exact HB9.out))⟩⟩
                  · rw [if_neg c6] at hstep
                    rw [hstep] at H3'
                    by_cases c9 : t1 = 0
                    · have c7b0 : decide (i < wrap64 ((l0.length : Int) - 1)) = false := decide_eq_false (fun h => c6 ⟨c9, h⟩)
                      obtain rfl := c9
                      by_cases c8 : (out1.length : Int) > 4096
                      · rw [if_pos c8] at H3'
                        have H := Option.some.inj H3'
                        simp only [Prod.mk.injEq] at H
                        obtain ⟨rfl, rfl⟩ := H
                        obtain ⟨Ao, co, eo⟩ := Kd.R_slice HO1.out
                        subst eo
                        have hlen0 : (4096 < (out1.length : Int)) = True := eq_true (by omega)
                        have hlen1 : decide (4096 < (out1.length : Int)) = true := by simp only [hlen0]; decide
                        go_wp2_with (first | (go_at_call 22; refine (gs1_formOf.calls _ 0 t2 t3 t4 t5 t6 _ (Tabs.below HT.out (by repeat (first | (with_reducible first | exact HB1.out | apply below_alloc) | exact HB1.out))) A4.out).mono ?_; rintro e w7 ⟨rfl, hb7⟩; have HO7 := Aside0.mk (Kd.R_below (by (with_reducible repeat (first | apply Kd.R_alloc | apply Kd.R_drewN | apply Kd.R_drew)); exact HO1.out) hb7); have HB7 := Aside0.mk (below_step (by repeat (first | (with_reducible first | exact HB1.out | apply below_alloc) | exact HB1.out)) hb7)))
                        go_ret2
                        exact ⟨_, rfl, Kd.R_nil _ _ _ _ _, (by repeat (first | (with_reducible first | exact HB7.out | apply below_alloc | apply pw_below_drewN | apply below_drew1) | exact HB7.out))⟩
                      · rw [if_neg c8] at H3'
                        have H3 := Aside0.mk H3'
                        clear H3'
                        obtain ⟨Ao, co, eo⟩ := Kd.R_slice HO1.out
                        subst eo
                        have hlen0 : (4096 < (out1.length : Int)) = False := eq_false (by omega)
                        have hlen1 : decide (4096 < (out1.length : Int)) = false := by simp only [hlen0]; decide
                        go_wp2_with (first | (go_at_call 22; refine (gs1_formOf.calls _ 0 t2 t3 t4 t5 t6 _ (Tabs.below HT.out (by repeat (first | (with_reducible first | exact HB1.out | apply below_alloc) | exact HB1.out))) A4.out).mono ?_; rintro e w7 ⟨rfl, hb7⟩; have HO7 := Aside0.mk (Kd.R_below (by (with_reducible repeat (first | apply Kd.R_alloc | apply Kd.R_drewN | apply Kd.R_drew)); exact HO1.out) hb7); have HB7 := Aside0.mk (below_step (by repeat (first | (with_reducible first | exact HB1.out | apply below_alloc) | exact HB1.out)) hb7)))
                        go_roundg k1
                        case measure => have := HK1.out; omega
                        case rel => exact ⟨out1, wrap64 (i + 1), (by first | rfl | (simp; done)), H3, ⟨by have := HK1.out; omega⟩, ⟨by (with_reducible repeat (first | apply Kd.R_alloc | apply Kd.R_drewN | apply Kd.R_drew)); exact HO7.out⟩, ⟨(by repeat (first | (with_reducible first | exact HB7.out | apply below_alloc | apply pw_below_drewN | apply below_drew1) | exact HB7.out))⟩⟩
                    · have c9b0 : (t1 == 0) = false := beq_eq_false_iff_ne.mpr c9
                      have c9b1 : (t1 = 0) = False := eq_false c9
                      by_cases c8 : (out1.length : Int) > 4096
                      · rw [if_pos c8] at H3'
                        have H := Option.some.inj H3'
                        simp only [Prod.mk.injEq] at H
                        obtain ⟨rfl, rfl⟩ := H
                        obtain ⟨Ao, co, eo⟩ := Kd.R_slice HO1.out
                        subst eo
                        have hlen0 : (4096 < (out1.length : Int)) = True := eq_true (by omega)
                        have hlen1 : decide (4096 < (out1.length : Int)) = true := by simp only [hlen0]; decide
                        go_wp2_with (first | (go_at_call 22; refine (gs1_formOf.calls _ t1 t2 t3 t4 t5 t6 _ (Tabs.below HT.out (by repeat (first | (with_reducible first | exact HB1.out | apply below_alloc) | exact HB1.out))) A4.out).mono ?_; rintro e w7 ⟨rfl, hb7⟩; have HO7 := Aside0.mk (Kd.R_below (by (with_reducible repeat (first | apply Kd.R_alloc | apply Kd.R_drewN | apply Kd.R_drew)); exact HO1.out) hb7); have HB7 := Aside0.mk (below_step (by repeat (first | (with_reducible first | exact HB1.out | apply below_alloc) | exact HB1.out)) hb7)))
                        go_ret2
                        exact ⟨_, rfl, Kd.R_nil _ _ _ _ _, (by repeat (first | (with_reducible first | exact HB7.out | apply below_alloc | apply pw_below_drewN | apply below_drew1) | exact HB7.out))⟩
                      · rw [if_neg c8] at H3'
                        have H3 := Aside0.mk H3'
                        clear H3'
                        obtain ⟨Ao, co, eo⟩ := Kd.R_slice HO1.out
                        subst eo
                        have hlen0 : (4096 < (out1.length : Int)) = False := eq_false (by omega)
                        have hlen1 : decide (4096 < (out1.length : Int)) = false := by simp only [hlen0]; decide
                        go_wp2_with (first | (go_at_call 22; refine (gs1_formOf.calls _ t1 t2 t3 t4 t5 t6 _ (Tabs.below HT.out (by repeat (first | (with_reducible first | exact HB1.out | apply below_alloc) | exact HB1.out))) A4.out).mono ?_; rintro e w7 ⟨rfl, hb7⟩; have HO7 := Aside0.mk (Kd.R_below (by (with_reducible repeat (first | apply Kd.R_alloc | apply Kd.R_drewN | apply Kd.R_drew)); exact HO1.out) hb7); have HB7 := Aside0.mk (below_step (by repeat (first | (with_reducible first | exact HB1.out | apply below_alloc) | exact HB1.out)) hb7)))
                        go_roundg k1
                        case measure => have := HK1.out; omega
                        case rel => exact ⟨out1, wrap64 (i + 1), (by first | rfl | (simp; done)), H3, ⟨by have := HK1.out; omega⟩, ⟨by (with_reducible repeat (first | apply Kd.R_alloc | apply Kd.R_drewN | apply Kd.R_drew)); exact HO7.out⟩, ⟨(by repeat (first | (with_reducible first | exact HB7.out | apply below_alloc | apply pw_below_drewN | apply below_drew1) | exact HB7.out))⟩⟩
          · rw [if_neg c4] at H
            cases H
        · rw [if_neg c3] at H
          have c3b0 : decide (i < (l0.length : Int)) = false := decide_eq_false c3
          have H := Option.some.inj H
          simp only [Prod.mk.injEq] at H
          obtain ⟨rfl, rfl⟩ := H
          go_wp2
          go_ret2
          exact ⟨_, rfl, HO.out, HB1.out⟩
  · rw [if_neg c3] at H
    have c3b0 : (t == 0) = false := beq_eq_false_iff_ne.mpr c3
    have c3b1 : (t != 0) = true := bne_iff_ne.mpr c3
    have H := Option.some.inj H
    simp only [Prod.mk.injEq] at H
    obtain ⟨rfl, rfl⟩ := H
    go_enter Tryd.func10, Tryd.ntmps10
    go_wp2_with (first | (go_at_call 16; refine (gs1_verifyAll.calls k _ _ l0 t _ (Tabs.below HT.out HB.out) HR0.out HC0.out A2.out).mono ?_; rintro e w4 ⟨rfl, hb⟩))
    go_ret2
    exact ⟨_, rfl, Kd.R_nil _ _ _ _ _, hb⟩
end Go.Proofs.YtghlbdemlmbijaaDoor.Q

/- strings.Builder's contracts at this translation, and gs1.Format. -/
namespace Go.Proofs
open Go.Shelf
def Tryd.bren : Go.Shelf.Ren := ⟨fun | 166 => 17 | 169 => 19 | 170 => 18 | 240 => 29 | 276 => 39 | n => n, fun | 0 => 0 | 3 => 3 | 4 => 4 | 5 => 5 | 9 => 9 | 20 => 20 | 37 => 41 | 70 => 45 | 72 => 47 | 75 => 49 | 80 => 53 | 127 => 65 | 164 => 76 | n => n, fun | n => n⟩
theorem Tryd.blays166 : Go.Proofs.Lays.n166 Tryd.prog Tryd.bren := {
  mixed := by kernel_rfl
  f166 := Tryd.func17.trans (congrArg some (by kernel_rfl))
  f240 := Tryd.func29.trans (congrArg some (by kernel_rfl))
  f276 := Tryd.func39.trans (congrArg some (by kernel_rfl))
  t0 := Tryd.underlying0
  a0 := Tryd.isAgg0
  z0 := Tryd.sizeOf0
  v0 := Tryd.zeroValue0
  t3 := Tryd.underlying3
  a3 := Tryd.isAgg3
  z3 := Tryd.sizeOf3
  v3 := Tryd.zeroValue3
  t4 := Tryd.underlying4
  a4 := Tryd.isAgg4
  z4 := Tryd.sizeOf4
  v4 := Tryd.zeroValue4
  t9 := Tryd.underlying9
  a9 := Tryd.isAgg9
  z9 := Tryd.sizeOf9
  v9 := Tryd.zeroValue9
  t20 := Tryd.underlying20
  a20 := Tryd.isAgg20
  z20 := Tryd.sizeOf20
  v20 := Tryd.zeroValue20
  t37 := Tryd.underlying41
  a37 := Tryd.isAgg41
  z37 := Tryd.sizeOf41
  v37 := Tryd.zeroValue41
  t70 := Tryd.underlying45
  a70 := Tryd.isAgg45
  z70 := Tryd.sizeOf45
  v70 := Tryd.zeroValue45
  t72 := Tryd.underlying47
  a72 := Tryd.isAgg47
  z72 := Tryd.sizeOf47
  v72 := Tryd.zeroValue47
  t75 := Tryd.underlying49
  a75 := Tryd.isAgg49
  z75 := Tryd.sizeOf49
  v75 := Tryd.zeroValue49
  t164 := Tryd.underlying76
  a164 := Tryd.isAgg76
  z164 := Tryd.sizeOf76
  v164 := Tryd.zeroValue76
}
theorem Tryd.blays169 : Go.Proofs.Lays.n169 Tryd.prog Tryd.bren := {
  mixed := by kernel_rfl
  f169 := Tryd.func19.trans (congrArg some (by kernel_rfl))
  t0 := Tryd.underlying0
  a0 := Tryd.isAgg0
  z0 := Tryd.sizeOf0
  v0 := Tryd.zeroValue0
  t3 := Tryd.underlying3
  a3 := Tryd.isAgg3
  z3 := Tryd.sizeOf3
  v3 := Tryd.zeroValue3
  t9 := Tryd.underlying9
  a9 := Tryd.isAgg9
  z9 := Tryd.sizeOf9
  v9 := Tryd.zeroValue9
  t37 := Tryd.underlying41
  a37 := Tryd.isAgg41
  z37 := Tryd.sizeOf41
  v37 := Tryd.zeroValue41
  t70 := Tryd.underlying45
  a70 := Tryd.isAgg45
  z70 := Tryd.sizeOf45
  v70 := Tryd.zeroValue45
  t72 := Tryd.underlying47
  a72 := Tryd.isAgg47
  z72 := Tryd.sizeOf47
  v72 := Tryd.zeroValue47
  t127 := Tryd.underlying65
  a127 := Tryd.isAgg65
  z127 := Tryd.sizeOf65
  v127 := Tryd.zeroValue65
}
theorem Tryd.blays170 : Go.Proofs.Lays.n170 Tryd.prog Tryd.bren := {
  mixed := by kernel_rfl
  f170 := Tryd.func18.trans (congrArg some (by kernel_rfl))
  t0 := Tryd.underlying0
  a0 := Tryd.isAgg0
  z0 := Tryd.sizeOf0
  v0 := Tryd.zeroValue0
  t3 := Tryd.underlying3
  a3 := Tryd.isAgg3
  z3 := Tryd.sizeOf3
  v3 := Tryd.zeroValue3
  t37 := Tryd.underlying41
  a37 := Tryd.isAgg41
  z37 := Tryd.sizeOf41
  v37 := Tryd.zeroValue41
  t70 := Tryd.underlying45
  a70 := Tryd.isAgg45
  z70 := Tryd.sizeOf45
  v70 := Tryd.zeroValue45
  t72 := Tryd.underlying47
  a72 := Tryd.isAgg47
  z72 := Tryd.sizeOf47
  v72 := Tryd.zeroValue47
}
theorem Tryd.blays240 : Go.Proofs.Lays.n240 Tryd.prog Tryd.bren := {
  mixed := by kernel_rfl
  f240 := Tryd.func29.trans (congrArg some (by kernel_rfl))
  f276 := Tryd.func39.trans (congrArg some (by kernel_rfl))
  t0 := Tryd.underlying0
  a0 := Tryd.isAgg0
  z0 := Tryd.sizeOf0
  v0 := Tryd.zeroValue0
  t4 := Tryd.underlying4
  a4 := Tryd.isAgg4
  z4 := Tryd.sizeOf4
  v4 := Tryd.zeroValue4
  t9 := Tryd.underlying9
  a9 := Tryd.isAgg9
  z9 := Tryd.sizeOf9
  v9 := Tryd.zeroValue9
  t20 := Tryd.underlying20
  a20 := Tryd.isAgg20
  z20 := Tryd.sizeOf20
  v20 := Tryd.zeroValue20
  t70 := Tryd.underlying45
  a70 := Tryd.isAgg45
  z70 := Tryd.sizeOf45
  v70 := Tryd.zeroValue45
  t72 := Tryd.underlying47
  a72 := Tryd.isAgg47
  z72 := Tryd.sizeOf47
  v72 := Tryd.zeroValue47
  t164 := Tryd.underlying76
  a164 := Tryd.isAgg76
  z164 := Tryd.sizeOf76
  v164 := Tryd.zeroValue76
}
theorem Tryd.bX : Builder.Extra Tryd.prog Tryd.bren := {
  sizeBuilder := by kernel_rfl
  liesBuilder := by kernel_rfl
  t5 := Tryd.underlying5
  a5 := Tryd.isAgg5
  z5 := Tryd.sizeOf5
  v5 := Tryd.zeroValue5
  infoByte := by kernel_rfl
  cellsByte := by kernel_rfl
  sizeByte := by kernel_rfl
  neB5 := by decide
}
end Go.Proofs

/- gs1.Format: what it answers for every list. -/
namespace Go.Proofs.YtghlbdemlmbijaaDoor.Q
open Go.RowKit Go.Proofs.YtghlbdemlmbijaaDoorW.PrintWords Go.Proofs.YtghlbdemlmbijaaDoorW.PrintLast Go.Proofs.YtghlbdemlmbijaaDoorW.PrintMore

set_option linter.unusedVariables false
set_option linter.unusedSimpArgs false
theorem isB_grown {T e : TypeId} {B b : Nat} {bs : List Value} {w w' : World} (h : Lib.IsBuilder T e B b bs w) (hb : Below w.heap.size w w') : Lib.IsBuilder T e B b bs w' := by
  have hg : w.grownBy w' none := ⟨hb.os, hb.tape, hb.output, hb.size, fun i hi _ => hb.block i hi⟩
  rcases h with ⟨h1, v, h2, h3, h4⟩ | ⟨h1, v, h2, h3, h4⟩
  · exact Or.inl ⟨h1, v, (hg.block b (Lib.BuilderAt.lt ⟨h1, v, h2, h3, h4⟩) (by simp)).trans h2, h3.kept hg (by rcases h : v.ownBlock with _ | _ <;> simp), h4⟩
  · exact Or.inr ⟨h1, v, (hg.block b (Lib.BuilderAt.lt ⟨h1, v, h2, h3, h4⟩) (by simp)).trans h2, h3.kept hg (by rcases h : v.ownBlock with _ | _ <;> simp), h4⟩
theorem isB_lt {T e : TypeId} {B b : Nat} {bs : List Value} {w : World} (h : Lib.IsBuilder T e B b bs w) : b < w.heap.size := by
  rcases h with h | h <;> exact h.lt
/-- What one round of Format writes. -/
def piece (x : S38) : ByteArray := (((⟨#[40]⟩ : ByteArray) ++ x.f0) ++ (⟨#[41]⟩ : ByteArray)) ++ x.f1
def gs1_Format.l0 : Nat → List S38 → ByteArray → Int → Option ByteArray
  | 0, _, _, _ => none
  | k + 1, x, acc, i => if i < (x.length : Int) then (if 0 ≤ i ∧ (rd_T38 x i).f0.size ≤ 4294967296 ∧ (rd_T38 x i).f1.size ≤ 4294967296 ∧ (acc ++ piece (rd_T38 x i)).size ≤ 140737488355328 then gs1_Format.l0 k x (acc ++ piece (rd_T38 x i)) (wrap64 (i + 1)) else none) else some acc
def gs1_Format.f (k : Nat) (l0 : List S38) : Option (ByteArray × Int) :=
  (gs1_verifyAll.f k l0).bind fun t => if t = 0 then (gs1_Format.l0 k l0 ⟨#[]⟩ 0).bind fun s => (if (s.size : Int) > 4096 then some (⟨#[]⟩, 4) else some (s, 0)) else some (⟨#[]⟩, t)
theorem gs1_Format.mono_l : ∀ k y0 y1 y2, LeO (gs1_Format.l0 k y0 y1 y2) (gs1_Format.l0 (k + 1) y0 y1 y2)
  | 0, _, _, _ => fun r h => by simp [gs1_Format.l0] at h
  | k + 1, y0, y1, y2 => by
    have ih0 := gs1_Format.mono_l k
    rw [gs1_Format.l0, gs1_Format.l0]
    exact LeO.ite (LeO.ite (ih0 _ _ _) (LeO.none _)) (LeO.refl _)
theorem gs1_Format.mono : ∀ a0 k, LeO (gs1_Format.f k a0) (gs1_Format.f (k + 1) a0) := by
  intro a0 k
  unfold gs1_Format.f
  exact LeO.bind (gs1_verifyAll.mono _ _) fun _ => LeO.ite (LeO.bind (gs1_Format.mono_l _ _ _ _) fun _ => LeO.refl _) (LeO.refl _)
set_option maxRecDepth 100000 in
set_option maxHeartbeats 8000000 in
theorem gs1_Format.calls (k : Nat) (A0 : Option Addr) (c0 : Nat) (l0 : List S38) (r1 : ByteArray) (r2 : Int) (w : World) (hT : Tabs w) (hr0 : Kd.C k38 w A0 l0.length l0) (hc0 : l0.length ≤ c0) (h : gs1_Format.f k l0 = some (r1, r2)) :
    Calls Tryd.prog 7 #[.slice A0 l0.length c0] w fun e w' => e = .returned (.tuple #[.string r1, .int .i64 r2]) ∧ Below w.heap.size w w' := by
  have hu := Tryd.underlying38
  have HR0 := Aside0.mk hr0
  have HC0 := Aside0.mk hc0
  have HT := Aside0.mk hT
  clear hr0 hc0 hT
  have HB := Aside0.mk (Below.refl w.heap.size w)
  obtain ⟨t, A20, H⟩ := Option.bind_eq_some_iff.mp h
  clear h
  have A2 := Aside0.mk A20
  clear A20
  by_cases c3 : t = 0
  · subst c3
    rw [if_pos rfl] at H
    obtain ⟨s, A30, H⟩ := Option.bind_eq_some_iff.mp H
    have A3 := Aside0.mk A30
    have H' := Aside0.mk H
    clear A30 H
    go_enter Tryd.func7, Tryd.ntmps7
    go_wp2_with (first | (go_at_call 16; refine (gs1_verifyAll.calls k _ _ l0 0 _ (Tabs.below HT.out HB.out) HR0.out HC0.out A2.out).mono ?_; rintro e w4 ⟨rfl, hb⟩))
    have HB4 := Aside0.mk (below_step HB.out hb)
    have GE := Aside0.mk (below_size HB4.out)
    have B4 := Aside0.mk ((HB4.out).alloc GE.out (.cells #[.pointer none, .slice none 0 0] 47))
    go_loopg [15] k (fun kq v15 w' => ∃ (acc : ByteArray) (i : Int), v15 = .int .i64 i ∧ Aside0 (gs1_Format.l0 kq l0 acc i = some s) ∧ Aside0 (kq ≤ k) ∧ Aside0 (Below w.heap.size w w') ∧ Aside0 (Lib.IsBuilder 47 5 w4.heap.size w4.heap.size (Lib.byteCells (bs acc)) w') ∧ Aside0 (w4.heap.size ≤ w'.heap.size))
    case atStart => exact ⟨⟨#[]⟩, 0, rfl, A3, ⟨Nat.le_refl _⟩, B4, ⟨Lib.fresh_isBuilder _ _ w4⟩, ⟨by simp⟩⟩
    case round =>
      clear A3
      obtain ⟨acc, i, rfl, HA, HK1, HB1, IB, ZW⟩ := hrel
      cases gk with
      | zero => exact absurd HA.out (by simp [gs1_Format.l0])
      | succ k1 =>
        have H := HA.out
        clear HA
        simp only [gs1_Format.l0] at H
        by_cases c3 : i < (l0.length : Int)
        · rw [if_pos c3] at H
          have c3b0 : decide (i < (l0.length : Int)) = true := decide_eq_true c3
          by_cases c4 : 0 ≤ i ∧ (rd_T38 l0 i).f0.size ≤ 4294967296 ∧ (rd_T38 l0 i).f1.size ≤ 4294967296 ∧ (acc ++ piece (rd_T38 l0 i)).size ≤ 140737488355328
          · rw [if_pos c4] at H
            have p169 := c4.1
            have q169 := c3
            obtain ⟨ad169, e169, hx169_0, hx169_1⟩ := at_T38 HR0.out i p169 q169
            cases e169
            replace hx169_0 := (HB1.out.cell (World.block_lt_of_cell? w _ hx169_0)).trans hx169_0
            replace hx169_1 := (HB1.out.cell (World.block_lt_of_cell? w _ hx169_1)).trans hx169_1
            replace p169 := eq_true p169
            replace q169 := eq_true q169
            have H3 := Aside0.mk H
            clear H
            go_wp2_with (first | (go_at_call 17; refine (Any.Builder_WriteString Tryd.blays166 Tryd.bX w4.heap.size w4.heap.size (Lib.byteCells (bs acc)) _ _ (isB_grown IB.out (by repeat (first | exact Below.refl _ _ | refine Below.alloc ?_ (Nat.le_refl _) _ | apply Below.drew))) ?hlen ?hz).mono ?_; (case hlen => (have := c4.2.2.2; simp only [piece, ByteArray.size_append, Lib.byteCells, List.length_map, bs_len] at this ⊢; omega)); (case hz => (have := ZW.out; simp; omega)); rintro e w6 ⟨rfl, IB6, hb6⟩))
            go_roundg k1
            case measure => have := HK1.out; omega
            case rel =>
              have zw := ZW.out
              have ge := GE.out
              refine ⟨acc ++ piece (rd_T38 l0 i), wrap64 (i + 1), (by first | rfl | (simp; done)), H3, ⟨by have := HK1.out; omega⟩, ⟨?_⟩, ⟨?_⟩, ⟨?_⟩⟩
              · exact ((HB1.out).alloc (Nat.le_trans ge zw) _).trans (hb6.mono ge)
              · rw [bs_append, Lib.byteCells_append]
                exact Or.inr IB6
              · have := hb6.size; simp at this; omega
          · rw [if_neg c4] at H
            cases H
        · rw [if_neg c3] at H
          have c3b0 : decide (i < (l0.length : Int)) = false := decide_eq_false c3
          obtain rfl := Option.some.inj H
          have H := H'.out
          by_cases c5 : (acc.size : Int) > 4096
          · rw [if_pos c5] at H
            have c5b0 : decide (4096 < (acc.size : Int)) = true := decide_eq_true c5
            have H := Option.some.inj H
            simp only [Prod.mk.injEq] at H
            obtain ⟨rfl, rfl⟩ := H
            go_wp2_with (first | (go_at_call 18; refine (Any.Builder_Len Tryd.blays170 w4.heap.size w4.heap.size (Lib.byteCells (bs acc)) _ IB.out).mono ?_; rintro e w5 ⟨rfl, rfl⟩; rw [show ((Lib.byteCells (bs acc)).length : Int) = (acc.size : Int) from by rw [Lib.byteCells, List.length_map, bs_len]]))
            go_ret2
            exact ⟨rfl, HB1.out⟩
          · rw [if_neg c5] at H
            have c5b0 : decide (4096 < (acc.size : Int)) = false := decide_eq_false c5
            have H := Option.some.inj H
            simp only [Prod.mk.injEq] at H
            obtain ⟨rfl, rfl⟩ := H
            go_wp2_with (first | (go_at_call 18; refine (Any.Builder_Len Tryd.blays170 w4.heap.size w4.heap.size (Lib.byteCells (bs acc)) _ IB.out).mono ?_; rintro e w5 ⟨rfl, rfl⟩; rw [show ((Lib.byteCells (bs acc)).length : Int) = (acc.size : Int) from by rw [Lib.byteCells, List.length_map, bs_len]]) | (go_at_call 19; refine (Any.Builder_String_any Tryd.blays169 Tryd.bX w4.heap.size w4.heap.size (bs acc) _ IB.out ZW.out).mono ?_; rintro e w6 ⟨rfl, hb6⟩))
            go_ret2
            exact ⟨by rw [show (⟨(bs acc).toArray⟩ : ByteArray) = acc from Lib.mk_data acc]; rfl, HB1.out.trans (hb6.mono GE.out)⟩
  · rw [if_neg c3] at H
    have c3b0 : (t == 0) = false := beq_eq_false_iff_ne.mpr c3
    have c3b1 : (t != 0) = true := bne_iff_ne.mpr c3
    have H := Option.some.inj H
    simp only [Prod.mk.injEq] at H
    obtain ⟨rfl, rfl⟩ := H
    go_enter Tryd.func7, Tryd.ntmps7
    go_wp2_with (first | (go_at_call 16; refine (gs1_verifyAll.calls k _ _ l0 t _ (Tabs.below HT.out HB.out) HR0.out HC0.out A2.out).mono ?_; rintro e w4 ⟨rfl, hb⟩))
    go_ret2
    exact ⟨rfl, hb⟩
end Go.Proofs.YtghlbdemlmbijaaDoor.Q
