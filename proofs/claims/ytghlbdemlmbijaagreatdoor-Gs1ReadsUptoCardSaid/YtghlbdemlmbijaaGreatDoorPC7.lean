/- Joined by a program of this work (pack.py) out of the texts GChars, GBuilder, GFormat, Qbarscanlaw14examples of this seat, in build order. -/
import Derived.Test.YtghlbdemlmbijaaGreatDoorPC6
import Derived.Lib.ConvBytes
import Derived.Lib.AtoiErrMem
import Derived.WalkLawsBesides
import Derived.Shelf.Strings.Builder1
/- gs1.Chars: what it answers for every list. -/
namespace Go.Proofs.YtghlbdemlmbijaaGreatDoor.Q
open Go.RowKit Go.Proofs.YtghlbdemlmbijaaGreatDoorW.PrintWords Go.Proofs.YtghlbdemlmbijaaGreatDoorW.PrintLast Go.Proofs.YtghlbdemlmbijaaGreatDoorW.PrintMore

set_option linter.unusedVariables false
set_option linter.unusedSimpArgs false
/-- A text's bytes as characters. -/
def ints (s : ByteArray) : List Int := (bs s).map fun b => (b.toNat : Int)
def step (x : List S23) (out : List Int) (i : Int) (fixed : Int) : List Int :=
  if fixed = 0 ∧ i < wrap64 ((x.length : Int) - 1) then (out ++ ints ((rd_T23 x i).f0 ++ (rd_T23 x i).f1)) ++ [256] else out ++ ints ((rd_T23 x i).f0 ++ (rd_T23 x i).f1)
def gs1_Chars.l0 : Nat → List S23 → List Int → Int → Option (List Int × Int)
  | 0, _, _, _ => none
  | k + 1, x, out, i => if i < (x.length : Int) then (if 0 ≤ i ∧ (rd_T23 x i).f0.size ≤ 4294967296 ∧ (rd_T23 x i).f1.size ≤ 4294967296 ∧ out.length ≤ 4294967296 then (gs1_formOf.f (rd_T23 x i).f0).bind fun t => (if ((step x out i t.1).length : Int) > 4096 then some ([], 4) else gs1_Chars.l0 k x (step x out i t.1) (wrap64 (i + 1))) else none) else some (out, 0)
def gs1_Chars.f (k : Nat) (l0 : List S23) : Option (List Int × Int) :=
  (gs1_verifyAll.f k l0).bind fun t => if t = 0 then gs1_Chars.l0 k l0 [256] 0 else some ([], t)
theorem gs1_Chars.mono_l : ∀ k y0 y1 y2, LeO (gs1_Chars.l0 k y0 y1 y2) (gs1_Chars.l0 (k + 1) y0 y1 y2)
  | 0, _, _, _ => fun r h => by simp [gs1_Chars.l0] at h
  | k + 1, y0, y1, y2 => by
    have ih0 := gs1_Chars.mono_l k
    rw [gs1_Chars.l0, gs1_Chars.l0]
    exact LeO.ite (LeO.ite (LeO.bind (LeO.refl _) fun _ => LeO.ite (LeO.refl _) (ih0 _ _ _)) (LeO.none _)) (LeO.refl _)
theorem gs1_Chars.mono : ∀ a0 k, LeO (gs1_Chars.f k a0) (gs1_Chars.f (k + 1) a0) := by
  intro a0 k
  unfold gs1_Chars.f
  exact LeO.bind (gs1_verifyAll.mono _ _) fun _ => LeO.ite (gs1_Chars.mono_l _ _ _ _) (LeO.refl _)
theorem R256 (W : World) (B : Nat) (hB : B ≤ W.heap.size) : (Kd.int .i64).R 3 (W.alloc (.cells #[.int .i64 256] 3)) B (fun _ => True) (.slice (some ⟨W.heap.size, 0, none⟩) 1 1) [256] := by
  refine ⟨fun _ _ => trivial, [.int .i64 256], ?_, Reps.one (show Kd.M (Kd.int .i64) _ _ _ 256 [.int .i64 256] from rfl) (Reps.none _ _)⟩
  exact World.ownsRow_lit (base := B) (e := 3) (size := 1) W #[.int .i64 256] 1 hB (by decide) (by simp)
theorem bytes_at (W : World) (s : ByteArray) (j : Nat) (hj : j < s.size) : (Lib.bytesCells W 5 s)[j]? = some (.int .u8 ((bs s).getD j 0).toNat) := by
  have h := Lib.bytesWorld_cell W 5 s j hj
  rw [Lib.cell_of_heap (Lib.bytesWorld_at_new W 5 s)] at h
  exact h
theorem ints_len (s : ByteArray) : (ints s).length = s.size := by simp [ints, bs_len]
theorem ints_take (s : ByteArray) (j : Nat) (hj : j < s.size) : (ints s).take (j + 1) = (ints s).take j ++ [(((bs s).getD j 0).toNat : Int)] := by
  have hl : j < (bs s).length := by rw [bs_len]; exact hj
  unfold ints
  rw [← List.map_take, ← List.map_take, List.take_succ_eq_append_getElem hl, List.map_append]
  simp [List.getD_eq_getElem?_getD, List.getElem?_eq_getElem hl]
theorem World.lt_of_heap {w : World} {b : Nat} {o : Obj} (h : w.heap[b]? = some o) : b < w.heap.size := (Array.getElem?_eq_some_iff.1 h).1
theorem R_apart {e : Nat} {w : World} {base : Nat} {v : Value} {xs : List Int} {g : Nat} {cs : Array Value} {T : Nat} {fr : Nat × Nat} (h : (Kd.int .i64).R e w base (fun _ => True) v xs) (hb : w.heap[g]? = some (.cells cs T fr)) (hTe : T ≠ e) : v.ownBlock ≠ some g := by
  obtain ⟨h0, inner, hown, hr⟩ := h
  exact Lib.ownBlock_ne hown hb hTe
set_option maxRecDepth 100000 in
set_option maxHeartbeats 8000000 in
theorem gs1_Chars.calls (k : Nat) (A0 : Option Addr) (c0 : Nat) (l0 : List S23) (r1 : List Int) (r2 : Int) (w : World) (hT : Tabs w) (hr0 : Kd.C k23 w A0 l0.length l0) (hc0 : l0.length ≤ c0) (h : gs1_Chars.f k l0 = some (r1, r2)) :
    Calls Tryz.prog 17 #[.slice A0 l0.length c0] w fun e w' => ∃ v0_ : Value, e = .returned (.tuple #[v0_, .int .i64 r2]) ∧ (Kd.int .i64).R 3 w' w.heap.size (fun _ => True) v0_ r1 ∧ Below w.heap.size w w' := by
  have hu := Tryz.underlying23
  have HR0 := Aside0.mk hr0
  have HC0 := Aside0.mk hc0
  have HT := Aside0.mk hT
  clear hr0 hc0 hT
  have HB := Aside0.mk (Below.refl w.heap.size w)
  obtain ⟨t, A20, H⟩ := Option.bind_eq_some_iff.mp h
  clear h
  have A2 := Aside0.mk A20
  clear A20
  by_cases c3 : t = 0
  · subst c3
    rw [if_pos rfl] at H
    have H' := Aside0.mk H
    clear H
    go_enter Tryz.func17, Tryz.ntmps17
    go_wp2_with (first | (go_at_call 31; refine (gs1_verifyAll.calls k _ _ l0 0 _ (Tabs.below HT.out HB.out) HR0.out HC0.out A2.out).mono ?_; rintro e w4 ⟨rfl, hb⟩; have HB4 := Aside0.mk (below_step HB.out hb)))
    have R0 := Aside0.mk (R256 w4 w.heap.size (below_size HB4.out))
    have B0 := Aside0.mk ((HB4.out).alloc (below_size HB4.out) (.cells #[.int .i64 256] 3))
    go_loopg [5, 20] k (fun kq v5 v20 w' => ∃ (out : List Int) (i : Int), v20 = .int .i64 i ∧ Aside0 (gs1_Chars.l0 kq l0 out i = some (r1, r2)) ∧ Aside0 (kq ≤ k) ∧ Aside0 ((Kd.int .i64).R 3 w' w.heap.size (fun _ => True) v5 out) ∧ Aside0 (Below w.heap.size w w'))
    case atStart => exact ⟨[256], 0, rfl, H', ⟨Nat.le_refl _⟩, R0, B0⟩
    case round =>
      clear H'
      obtain ⟨out, i, rfl, HA, HK1, HO, HB1⟩ := hrel
      cases gk with
      | zero => exact absurd HA.out (by simp [gs1_Chars.l0])
      | succ k1 =>
        have H := HA.out
        clear HA
        simp only [gs1_Chars.l0] at H
        by_cases c3 : i < (l0.length : Int)
        · rw [if_pos c3] at H
          have c3b0 : decide (i < (l0.length : Int)) = true := decide_eq_true c3
          by_cases c4 : 0 ≤ i ∧ (rd_T23 l0 i).f0.size ≤ 4294967296 ∧ (rd_T23 l0 i).f1.size ≤ 4294967296 ∧ out.length ≤ 4294967296
          · rw [if_pos c4] at H
            have C4 := Aside0.mk c4
            have p169 := c4.1
            have q169 := c3
            obtain ⟨t, A40, H⟩ := Option.bind_eq_some_iff.mp H
            have A4 := Aside0.mk A40
            have H3 := Aside0.mk H
            clear A40 H c4 c3
            obtain ⟨ad169, e169, hx169_0, hx169_1⟩ := at_T23 HR0.out i p169 q169
            cases e169
            replace hx169_0 := (HB1.out.cell (World.block_lt_of_cell? w _ hx169_0)).trans hx169_0
            replace hx169_1 := (HB1.out.cell (World.block_lt_of_cell? w _ hx169_1)).trans hx169_1
            replace p169 := eq_true p169
            replace q169 := eq_true q169
            have hcat : (9223372036854775807 < (rd_T23 l0 i).f0.size + (rd_T23 l0 i).f1.size) = False := eq_false (by have := C4.out; omega)
            have hcv : ∀ W : World, Sem.run Tryz.prog (convert 9 57 (.string ((rd_T23 l0 i).f0 ++ (rd_T23 l0 i).f1))) W = _ := fun W => Lib.run_convert_string_bytes W 9 57 5 _ Tryz.underlying9 Tryz.underlying57 Tryz.underlying5
            go_wp2
            have zw := Aside0.mk (below_size HB1.out)
            have BW1 : Below wr.heap.size wr (wr.alloc (.cells #[.string (rd_T23 l0 i).f0, .string (rd_T23 l0 i).f1] 23)) := (Below.refl _ _).alloc (Nat.le_refl _) _
            have BW2 : Below wr.heap.size wr (Lib.bytesWorld (wr.alloc (.cells #[.string (rd_T23 l0 i).f0, .string (rd_T23 l0 i).f1] 23)) 5 ((rd_T23 l0 i).f0 ++ (rd_T23 l0 i).f1)) := BW1.trans ((Lib.bytesWorld_below (wr.alloc (.cells #[.string (rd_T23 l0 i).f0, .string (rd_T23 l0 i).f1] 23)) 5 ((rd_T23 l0 i).f0 ++ (rd_T23 l0 i).f1)).mono (by simp))
            have RW := Aside0.mk (Kd.R_below HO.out BW2)
            have BW := Aside0.mk (below_step HB1.out BW2)
            have HXa : (wr.alloc (.cells #[.string (rd_T23 l0 i).f0, .string (rd_T23 l0 i).f1] 23)).heap[wr.heap.size]? = some (.cells #[.string (rd_T23 l0 i).f0, .string (rd_T23 l0 i).f1] 23 (0, 0)) := by show (wr.heap.push _)[wr.heap.size]? = _; simp
            have HX := Aside0.mk ((Lib.bytesWorld_at_old (wr.alloc (.cells #[.string (rd_T23 l0 i).f0, .string (rd_T23 l0 i).f1] 23)) 5 ((rd_T23 l0 i).f0 ++ (rd_T23 l0 i).f1) wr.heap.size (by simp)).trans HXa)
            clear HXa
            have HG := Aside0.mk ((show wr.heap.size + 1 = (wr.alloc (.cells #[.string (rd_T23 l0 i).f0, .string (rd_T23 l0 i).f1] 23)).heap.size by simp) ▸ Lib.bytesWorld_at_new (wr.alloc (.cells #[.string (rd_T23 l0 i).f0, .string (rd_T23 l0 i).f1] 23)) 5 ((rd_T23 l0 i).f0 ++ (rd_T23 l0 i).f1))
            clear BW1 BW2
            go_loopg [5, 32] (((rd_T23 l0 i).f0 ++ (rd_T23 l0 i).f1).size + 1) (fun kq v5 v32 w' => ∃ (j : Nat), v32 = .int .i64 j ∧ Aside0 (j ≤ ((rd_T23 l0 i).f0 ++ (rd_T23 l0 i).f1).size) ∧ Aside0 (((rd_T23 l0 i).f0 ++ (rd_T23 l0 i).f1).size < kq + j) ∧ Aside0 ((Kd.int .i64).R 3 w' w.heap.size (fun _ => True) v5 (out ++ (ints ((rd_T23 l0 i).f0 ++ (rd_T23 l0 i).f1)).take j)) ∧ Aside0 (Below w.heap.size w w') ∧ Aside0 (w'.heap[wr.heap.size]? = some (.cells #[.string (rd_T23 l0 i).f0, .string (rd_T23 l0 i).f1] 23 (0, 0))) ∧ Aside0 (w'.heap[wr.heap.size + 1]? = some (.cells (Lib.bytesCells (wr.alloc (.cells #[.string (rd_T23 l0 i).f0, .string (rd_T23 l0 i).f1] 23)) 5 ((rd_T23 l0 i).f0 ++ (rd_T23 l0 i).f1)) 5 ((Lib.bytesCells (wr.alloc (.cells #[.string (rd_T23 l0 i).f0, .string (rd_T23 l0 i).f1] 23)) 5 ((rd_T23 l0 i).f0 ++ (rd_T23 l0 i).f1)).size, (Lib.bytesCells (wr.alloc (.cells #[.string (rd_T23 l0 i).f0, .string (rd_T23 l0 i).f1] 23)) 5 ((rd_T23 l0 i).f0 ++ (rd_T23 l0 i).f1)).size + 1))))
            case atStart => exact ⟨0, rfl, ⟨Nat.zero_le _⟩, ⟨by omega⟩, by simpa using RW, BW, HX, HG⟩
            case round =>
              clear HX HG BW RW HB1 HO
              obtain ⟨j, rfl, HJ, HN, HO, HB1, HX, HG⟩ := hrel
              cases gk with
              | zero => exact absurd HN.out (by have := HJ.out; omega)
              | succ k2 =>
                by_cases c5 : j < ((rd_T23 l0 i).f0 ++ (rd_T23 l0 i).f1).size
                · have c5b0 : decide ((j : Int) < ((rd_T23 l0 i).f0.size : Int) + ((rd_T23 l0 i).f1.size : Int)) = true := decide_eq_true (by have := c5; simp only [ByteArray.size_append] at this; omega)
                  have c5b1 : ((j : Int) < ((rd_T23 l0 i).f0.size : Int) + ((rd_T23 l0 i).f1.size : Int)) = True := eq_true (of_decide_eq_true c5b0)
                  have c5b2 : (j < (rd_T23 l0 i).f0.size + (rd_T23 l0 i).f1.size) = True := eq_true (by have := c5; simp only [ByteArray.size_append] at this; omega)
                  obtain ⟨bv, hbv⟩ : ∃ bv : UInt8, (bs ((rd_T23 l0 i).f0 ++ (rd_T23 l0 i).f1)).getD j 0 = bv := ⟨_, rfl⟩
                  have hxb := (Lib.cell_of_heap HG.out j).trans (bytes_at _ ((rd_T23 l0 i).f0 ++ (rd_T23 l0 i).f1) j c5)
                  rw [hbv] at hxb
                  have hww : wrap64 (bv.toNat : Int) = (bv.toNat : Int) := wrap_id _ (by have := bv.toNat_lt; omega) (by have := bv.toNat_lt; omega)
                  have HLN := Aside0.mk (show out.length + j ≤ 17179869184 from by have := C4.out; have := c5; simp only [ByteArray.size_append] at this; omega)
                  have NX := Aside0.mk (R_apart HO.out HX.out (by decide))
                  have NG := Aside0.mk (R_apart HO.out HG.out (by decide))
                  have hLX := Aside0.mk (World.lt_of_heap HX.out)
                  have hLG := Aside0.mk (World.lt_of_heap HG.out)
                  go_wp2_with (first | ((with_reducible refine gate_builtin (b := .append) (xs := #[.tmp 36, .tmp 39]) rfl ?_); (try (refine gate_guard (by rfl) ?_; dsimp only)); at_builtin; refine Kd.R_append (Kd.int .i64) (w0 := w) w.heap.size rfl (.tmp 36) (.tmp 39) 37 3 (.int .i64 0) 8 rfl Tryz.underlying37 info3 rfl (by decide) (by omega) _ (out ++ (ints ((rd_T23 l0 i).f0 ++ (rd_T23 l0 i).f1)).take j) (bv.toNat : Int) [.int .i64 (bv.toNat : Int)] (fun _ => True) (fun _ => False) rfl rfl ?aP (fun _ hk => hk.elim) ?aF ?aO ?aB ?aS ?aL ?_; (case aP => exact rfl); (case aB => exact (by repeat (first | (with_reducible first | exact HB1.out | apply below_alloc | apply pw_below_drewN | apply below_drew1) | exact HB1.out))); (case aF => exact (fun _ _ => trivial)); (case aO => exact (by (with_reducible repeat (first | apply Kd.R_alloc | apply Kd.R_drewN | apply Kd.R_drew)); exact HO.out)); (case aS => exact (below_size (by repeat (first | (with_reducible first | exact HB1.out | apply below_alloc | apply pw_below_drewN | apply below_drew1) | exact HB1.out)))); (case aL => (have := HLN.out; simp only [List.length_append, List.length_take, ints_len] at this ⊢; omega)); intro v1 w6 ho hb6 hg hat))
                  go_roundg k2
                  case measure => have := HN.out; omega
                  case rel =>
                    refine ⟨j + 1, (by rw [wrap_id _ (by omega) (by have := HLN.out; omega)]; rfl), ⟨c5⟩, ⟨by have := HN.out; omega⟩, ⟨?_⟩, ⟨hb6⟩, ⟨?_⟩, ⟨?_⟩⟩
                    · rw [show (ints ((rd_T23 l0 i).f0 ++ (rd_T23 l0 i).f1)).take (j + 1) = (ints ((rd_T23 l0 i).f0 ++ (rd_T23 l0 i).f1)).take j ++ [(bv.toNat : Int)] from by rw [← hbv]; exact ints_take ((rd_T23 l0 i).f0 ++ (rd_T23 l0 i).f1) j c5, ← List.append_assoc]
                      first | exact ho | (rw [hww] at ho; exact ho)
                    · exact (hg.block _ hLX.out NX.out.symm).trans HX.out
                    · exact (hg.block _ hLG.out NG.out.symm).trans HG.out
                · have hj : j = ((rd_T23 l0 i).f0 ++ (rd_T23 l0 i).f1).size := by have := HJ.out; omega
                  have H3' := H3.out
                  clear H3
                  obtain ⟨t1, t2, t3, t4, t5, t6⟩ := t
                  obtain ⟨out1, ho1⟩ : ∃ o : List Int, out ++ ints ((rd_T23 l0 i).f0 ++ (rd_T23 l0 i).f1) = o := ⟨_, rfl⟩
                  have HO1 := HO.out
                  rw [hj, List.take_of_length_le (by rw [ints_len]; exact Nat.le_refl _), ho1] at HO1
                  replace HO1 := Aside0.mk HO1
                  have HLN := Aside0.mk (show out1.length ≤ 17179869184 from by have := C4.out; rw [← ho1]; simp only [List.length_append, ints_len, ByteArray.size_append]; omega)
                  have c5b0 : decide ((j : Int) < ((rd_T23 l0 i).f0.size : Int) + ((rd_T23 l0 i).f1.size : Int)) = false := decide_eq_false (by have := c5; simp only [ByteArray.size_append] at this; omega)
                  have c5b1 : ((j : Int) < ((rd_T23 l0 i).f0.size : Int) + ((rd_T23 l0 i).f1.size : Int)) = False := eq_false (of_decide_eq_false c5b0)
                  have hx0 := (Lib.cell_of_heap HX.out 0).trans rfl
                  have NX := Aside0.mk (R_apart HO.out HX.out (by decide))
                  clear HO HG HJ HN c5 hj
                  have hstep : step l0 out i t1 = if t1 = 0 ∧ i < wrap64 ((l0.length : Int) - 1) then out1 ++ [256] else out1 := by unfold step; rw [ho1]
                  by_cases c6 : t1 = 0 ∧ i < wrap64 ((l0.length : Int) - 1)
                  · rw [if_pos c6] at hstep
                    rw [hstep] at H3'
                    have c7b0 : decide (i < wrap64 ((l0.length : Int) - 1)) = true := decide_eq_true c6.2
                    obtain rfl := c6.1
                    by_cases c8 : ((out1 ++ [256]).length : Int) > 4096
                    · rw [if_pos c8] at H3'
                      have H := Option.some.inj H3'
                      simp only [Prod.mk.injEq] at H
                      obtain ⟨rfl, rfl⟩ := H
                      have hlen0 : (4096 < ((out1 ++ [256]).length : Int)) = True := eq_true (by omega)
                      have hlen1 : decide (4096 < ((out1 ++ [256]).length : Int)) = true := by simp only [hlen0]; decide
                      have hlen2 := hlen0; simp only [List.length_append, List.length_cons, List.length_nil, Nat.zero_add, Int.natCast_add, Int.natCast_one] at hlen2
                      have hlen3 := hlen1; simp only [List.length_append, List.length_cons, List.length_nil, Nat.zero_add, Int.natCast_add, Int.natCast_one] at hlen3
                      go_wp2_with (first | (go_at_call 22; refine (gs1_formOf.calls _ 0 t2 t3 t4 t5 t6 _ (Tabs.below HT.out (by repeat (first | (with_reducible first | exact HB1.out | apply below_alloc) | exact HB1.out))) A4.out).mono ?_; rintro e w7 ⟨rfl, hb7⟩; have HO7 := Aside0.mk (Kd.R_below (by (with_reducible repeat (first | apply Kd.R_alloc | apply Kd.R_drewN | apply Kd.R_drew)); exact HO1.out) hb7); have HB7 := Aside0.mk (below_step (by repeat (first | (with_reducible first | exact HB1.out | apply below_alloc) | exact HB1.out)) hb7)) | ((with_reducible refine gate_builtin (b := .append) (xs := #[.tmp 58, .tmp 59]) rfl ?_); (try (refine gate_guard (by rfl) ?_; dsimp only)); at_builtin; refine Kd.R_append (Kd.int .i64) (w0 := w) w.heap.size rfl (.tmp 58) (.tmp 59) 37 3 (.int .i64 0) 8 rfl Tryz.underlying37 info3 rfl (by decide) (by omega) _ out1 256 [.int .i64 256] (fun _ => True) (fun _ => False) rfl ?aX ?aP (fun _ hk => hk.elim) ?aF ?aO ?aB ?aS ?aL ?_; (case aX => first | rfl | (go_simp; done) | (go_simp; simp; done) | (show Value.slice _ _ _ = Value.slice _ _ _; simp)); (case aP => exact rfl); (case aB => exact (by repeat (first | (with_reducible first | exact HB7.out | apply below_alloc | apply pw_below_drewN | apply below_drew1 | refine below_set ?_ GE.out) | exact HB7.out))); (case aF => exact (fun _ _ => trivial)); (case aO => exact (by (with_reducible repeat (first | apply Kd.R_alloc | apply Kd.R_drewN | apply Kd.R_drew)); exact HO7.out)); (case aS => exact (below_size (by repeat (first | (with_reducible first | exact HB7.out | apply below_alloc | apply pw_below_drewN | apply below_drew1 | refine below_set ?_ GE.out) | exact HB7.out)))); (case aL => (have := HLN.out; omega)); intro v1 w9 ho hb9 hg hat; obtain ⟨Ao, co, eo⟩ := Kd.R_slice ho; subst eo))
                      have HB9 := Aside0.mk hb9
                      simp only [List.length_append, List.length_cons, List.length_nil, Nat.zero_add] at ho
                      have HO9 := Aside0.mk ho
                      go_ret2
                      exact ⟨_, rfl, Kd.R_nil _ _ _ _ _, (by repeat (first | (with_reducible first | exact HB9.out | apply below_alloc | apply pw_below_drewN | apply below_drew1) | exact HB9.out))⟩
                    · rw [if_neg c8] at H3'
                      have H3 := Aside0.mk H3'
                      clear H3'
                      have hlen0 : (4096 < ((out1 ++ [256]).length : Int)) = False := eq_false (by omega)
                      have hlen1 : decide (4096 < ((out1 ++ [256]).length : Int)) = false := by simp only [hlen0]; decide
                      have hlen2 := hlen0; simp only [List.length_append, List.length_cons, List.length_nil, Nat.zero_add, Int.natCast_add, Int.natCast_one] at hlen2
                      have hlen3 := hlen1; simp only [List.length_append, List.length_cons, List.length_nil, Nat.zero_add, Int.natCast_add, Int.natCast_one] at hlen3
                      go_wp2_with (first | (go_at_call 22; refine (gs1_formOf.calls _ 0 t2 t3 t4 t5 t6 _ (Tabs.below HT.out (by repeat (first | (with_reducible first | exact HB1.out | apply below_alloc) | exact HB1.out))) A4.out).mono ?_; rintro e w7 ⟨rfl, hb7⟩; have HO7 := Aside0.mk (Kd.R_below (by (with_reducible repeat (first | apply Kd.R_alloc | apply Kd.R_drewN | apply Kd.R_drew)); exact HO1.out) hb7); have HB7 := Aside0.mk (below_step (by repeat (first | (with_reducible first | exact HB1.out | apply below_alloc) | exact HB1.out)) hb7)) | ((with_reducible refine gate_builtin (b := .append) (xs := #[.tmp 58, .tmp 59]) rfl ?_); (try (refine gate_guard (by rfl) ?_; dsimp only)); at_builtin; refine Kd.R_append (Kd.int .i64) (w0 := w) w.heap.size rfl (.tmp 58) (.tmp 59) 37 3 (.int .i64 0) 8 rfl Tryz.underlying37 info3 rfl (by decide) (by omega) _ out1 256 [.int .i64 256] (fun _ => True) (fun _ => False) rfl ?aX ?aP (fun _ hk => hk.elim) ?aF ?aO ?aB ?aS ?aL ?_; (case aX => first | rfl | (go_simp; done) | (go_simp; simp; done) | (show Value.slice _ _ _ = Value.slice _ _ _; simp)); (case aP => exact rfl); (case aB => exact (by repeat (first | (with_reducible first | exact HB7.out | apply below_alloc | apply pw_below_drewN | apply below_drew1 | refine below_set ?_ GE.out) | exact HB7.out))); (case aF => exact (fun _ _ => trivial)); (case aO => exact (by (with_reducible repeat (first | apply Kd.R_alloc | apply Kd.R_drewN | apply Kd.R_drew)); exact HO7.out)); (case aS => exact (below_size (by repeat (first | (with_reducible first | exact HB7.out | apply below_alloc | apply pw_below_drewN | apply below_drew1 | refine below_set ?_ GE.out) | exact HB7.out)))); (case aL => (have := HLN.out; omega)); intro v1 w9 ho hb9 hg hat; obtain ⟨Ao, co, eo⟩ := Kd.R_slice ho; subst eo))
                      have HB9 := Aside0.mk hb9
                      simp only [List.length_append, List.length_cons, List.length_nil, Nat.zero_add] at ho
                      have HO9 := Aside0.mk ho
                      go_roundg k1
                      case measure => have := HK1.out; omega
                      case rel => exact ⟨(out1 ++ [256]), wrap64 (i + 1), (by first | rfl | (simp; done)), H3, ⟨by have := HK1.out; omega⟩, ⟨by (with_reducible repeat (first | apply Kd.R_alloc | apply Kd.R_drewN | apply Kd.R_drew)); exact HO9.out⟩, ⟨(by repeat (first | (with_reducible first | exact HB9.out | apply below_alloc | apply pw_below_drewN | apply below_drew1) | exact HB9.out))⟩⟩
                  · rw [if_neg c6] at hstep
                    rw [hstep] at H3'
                    by_cases c9 : t1 = 0
                    · have c7b0 : decide (i < wrap64 ((l0.length : Int) - 1)) = false := decide_eq_false (fun h => c6 ⟨c9, h⟩)
                      obtain rfl := c9
                      by_cases c8 : (out1.length : Int) > 4096
                      · rw [if_pos c8] at H3'
                        have H := Option.some.inj H3'
                        simp only [Prod.mk.injEq] at H
                        obtain ⟨rfl, rfl⟩ := H
                        obtain ⟨Ao, co, eo⟩ := Kd.R_slice HO1.out
                        subst eo
                        have hlen0 : (4096 < (out1.length : Int)) = True := eq_true (by omega)
                        have hlen1 : decide (4096 < (out1.length : Int)) = true := by simp only [hlen0]; decide
                        go_wp2_with (first | (go_at_call 22; refine (gs1_formOf.calls _ 0 t2 t3 t4 t5 t6 _ (Tabs.below HT.out (by repeat (first | (with_reducible first | exact HB1.out | apply below_alloc) | exact HB1.out))) A4.out).mono ?_; rintro e w7 ⟨rfl, hb7⟩; have HO7 := Aside0.mk (Kd.R_below (by (with_reducible repeat (first | apply Kd.R_alloc | apply Kd.R_drewN | apply Kd.R_drew)); exact HO1.out) hb7); have HB7 := Aside0.mk (below_step (by repeat (first | (with_reducible first | exact HB1.out | apply below_alloc) | exact HB1.out)) hb7)))
                        go_ret2
                        exact ⟨_, rfl, Kd.R_nil _ _ _ _ _, (by repeat (first | (with_reducible first | exact HB7.out | apply below_alloc | apply pw_below_drewN | apply below_drew1) | exact HB7.out))⟩
                      · rw [if_neg c8] at H3'
                        have H3 := Aside0.mk H3'
                        clear H3'
                        obtain ⟨Ao, co, eo⟩ := Kd.R_slice HO1.out
                        subst eo
                        have hlen0 : (4096 < (out1.length : Int)) = False := eq_false (by omega)
                        have hlen1 : decide (4096 < (out1.length : Int)) = false := by simp only [hlen0]; decide
                        go_wp2_with (first | (go_at_call 22; refine (gs1_formOf.calls _ 0 t2 t3 t4 t5 t6 _ (Tabs.below HT.out (by repeat (first | (with_reducible first | exact HB1.out | apply below_alloc) | exact HB1.out))) A4.out).mono ?_; rintro e w7 ⟨rfl, hb7⟩; have HO7 := Aside0.mk (Kd.R_below (by (with_reducible repeat (first | apply Kd.R_alloc | apply Kd.R_drewN | apply Kd.R_drew)); exact HO1.out) hb7); have HB7 := Aside0.mk (below_step (by repeat (first | (with_reducible first | exact HB1.out | apply below_alloc) | exact HB1.out)) hb7)))
                        go_roundg k1
                        case measure => have := HK1.out; omega
                        case rel => exact ⟨out1, wrap64 (i + 1), (by first | rfl | (simp; done)), H3, ⟨by have := HK1.out; omega⟩, ⟨by (with_reducible repeat (first | apply Kd.R_alloc | apply Kd.R_drewN | apply Kd.R_drew)); exact HO7.out⟩, ⟨(by repeat (first | (with_reducible first | exact HB7.out | apply below_alloc | apply pw_below_drewN | apply below_drew1) | exact HB7.out))⟩⟩
                    · have c9b0 : (t1 == 0) = false := beq_eq_false_iff_ne.mpr c9
                      have c9b1 : (t1 = 0) = False := eq_false c9
                      by_cases c8 : (out1.length : Int) > 4096
                      · rw [if_pos c8] at H3'
                        have H := Option.some.inj H3'
                        simp only [Prod.mk.injEq] at H
                        obtain ⟨rfl, rfl⟩ := H
                        obtain ⟨Ao, co, eo⟩ := Kd.R_slice HO1.out
                        subst eo
                        have hlen0 : (4096 < (out1.length : Int)) = True := eq_true (by omega)
                        have hlen1 : decide (4096 < (out1.length : Int)) = true := by simp only [hlen0]; decide
                        go_wp2_with (first | (go_at_call 22; refine (gs1_formOf.calls _ t1 t2 t3 t4 t5 t6 _ (Tabs.below HT.out (by repeat (first | (with_reducible first | exact HB1.out | apply below_alloc) | exact HB1.out))) A4.out).mono ?_; rintro e w7 ⟨rfl, hb7⟩; have HO7 := Aside0.mk (Kd.R_below (by (with_reducible repeat (first | apply Kd.R_alloc | apply Kd.R_drewN | apply Kd.R_drew)); exact HO1.out) hb7); have HB7 := Aside0.mk (below_step (by repeat (first | (with_reducible first | exact HB1.out | apply below_alloc) | exact HB1.out)) hb7)))
                        go_ret2
                        exact ⟨_, rfl, Kd.R_nil _ _ _ _ _, (by repeat (first | (with_reducible first | exact HB7.out | apply below_alloc | apply pw_below_drewN | apply below_drew1) | exact HB7.out))⟩
                      · rw [if_neg c8] at H3'
                        have H3 := Aside0.mk H3'
                        clear H3'
                        obtain ⟨Ao, co, eo⟩ := Kd.R_slice HO1.out
                        subst eo
                        have hlen0 : (4096 < (out1.length : Int)) = False := eq_false (by omega)
                        have hlen1 : decide (4096 < (out1.length : Int)) = false := by simp only [hlen0]; decide
                        go_wp2_with (first | (go_at_call 22; refine (gs1_formOf.calls _ t1 t2 t3 t4 t5 t6 _ (Tabs.below HT.out (by repeat (first | (with_reducible first | exact HB1.out | apply below_alloc) | exact HB1.out))) A4.out).mono ?_; rintro e w7 ⟨rfl, hb7⟩; have HO7 := Aside0.mk (Kd.R_below (by (with_reducible repeat (first | apply Kd.R_alloc | apply Kd.R_drewN | apply Kd.R_drew)); exact HO1.out) hb7); have HB7 := Aside0.mk (below_step (by repeat (first | (with_reducible first | exact HB1.out | apply below_alloc) | exact HB1.out)) hb7)))
                        go_roundg k1
                        case measure => have := HK1.out; omega
                        case rel => exact ⟨out1, wrap64 (i + 1), (by first | rfl | (simp; done)), H3, ⟨by have := HK1.out; omega⟩, ⟨by (with_reducible repeat (first | apply Kd.R_alloc | apply Kd.R_drewN | apply Kd.R_drew)); exact HO7.out⟩, ⟨(by repeat (first | (with_reducible first | exact HB7.out | apply below_alloc | apply pw_below_drewN | apply below_drew1) | exact HB7.out))⟩⟩
          · rw [if_neg c4] at H
            cases H
        · rw [if_neg c3] at H
          have c3b0 : decide (i < (l0.length : Int)) = false := decide_eq_false c3
          have H := Option.some.inj H
          simp only [Prod.mk.injEq] at H
          obtain ⟨rfl, rfl⟩ := H
          go_wp2
          go_ret2
          exact ⟨_, rfl, HO.out, HB1.out⟩
  · rw [if_neg c3] at H
    have c3b0 : (t == 0) = false := beq_eq_false_iff_ne.mpr c3
    have c3b1 : (t != 0) = true := bne_iff_ne.mpr c3
    have H := Option.some.inj H
    simp only [Prod.mk.injEq] at H
    obtain ⟨rfl, rfl⟩ := H
    go_enter Tryz.func17, Tryz.ntmps17
    go_wp2_with (first | (go_at_call 31; refine (gs1_verifyAll.calls k _ _ l0 t _ (Tabs.below HT.out HB.out) HR0.out HC0.out A2.out).mono ?_; rintro e w4 ⟨rfl, hb⟩))
    go_ret2
    exact ⟨_, rfl, Kd.R_nil _ _ _ _ _, hb⟩
end Go.Proofs.YtghlbdemlmbijaaGreatDoor.Q

/- strings.Builder's contracts at this translation, and gs1.Format. -/
namespace Go.Proofs
open Go.Shelf
def Tryz.bren : Go.Shelf.Ren := ⟨fun | 166 => 32 | 169 => 34 | 170 => 33 | 240 => 53 | 276 => 72 | n => n, fun | 0 => 0 | 3 => 3 | 4 => 4 | 5 => 5 | 9 => 9 | 20 => 20 | 37 => 57 | 70 => 56 | 72 => 59 | 75 => 61 | 80 => 65 | 127 => 79 | 164 => 96 | n => n, fun | n => n⟩
theorem Tryz.blays166 : Go.Proofs.Lays.n166 Tryz.prog Tryz.bren := {
  mixed := by kernel_rfl
  f166 := Tryz.func32.trans (congrArg some (by kernel_rfl))
  f240 := Tryz.func53.trans (congrArg some (by kernel_rfl))
  f276 := Tryz.func72.trans (congrArg some (by kernel_rfl))
  t0 := Tryz.underlying0
  a0 := Tryz.isAgg0
  z0 := Tryz.sizeOf0
  v0 := Tryz.zeroValue0
  t3 := Tryz.underlying3
  a3 := Tryz.isAgg3
  z3 := Tryz.sizeOf3
  v3 := Tryz.zeroValue3
  t4 := Tryz.underlying4
  a4 := Tryz.isAgg4
  z4 := Tryz.sizeOf4
  v4 := Tryz.zeroValue4
  t9 := Tryz.underlying9
  a9 := Tryz.isAgg9
  z9 := Tryz.sizeOf9
  v9 := Tryz.zeroValue9
  t20 := Tryz.underlying20
  a20 := Tryz.isAgg20
  z20 := Tryz.sizeOf20
  v20 := Tryz.zeroValue20
  t37 := Tryz.underlying57
  a37 := Tryz.isAgg57
  z37 := Tryz.sizeOf57
  v37 := Tryz.zeroValue57
  t70 := Tryz.underlying56
  a70 := Tryz.isAgg56
  z70 := Tryz.sizeOf56
  v70 := Tryz.zeroValue56
  t72 := Tryz.underlying59
  a72 := Tryz.isAgg59
  z72 := Tryz.sizeOf59
  v72 := Tryz.zeroValue59
  t75 := Tryz.underlying61
  a75 := Tryz.isAgg61
  z75 := Tryz.sizeOf61
  v75 := Tryz.zeroValue61
  t164 := Tryz.underlying96
  a164 := Tryz.isAgg96
  z164 := Tryz.sizeOf96
  v164 := Tryz.zeroValue96
}
theorem Tryz.blays169 : Go.Proofs.Lays.n169 Tryz.prog Tryz.bren := {
  mixed := by kernel_rfl
  f169 := Tryz.func34.trans (congrArg some (by kernel_rfl))
  t0 := Tryz.underlying0
  a0 := Tryz.isAgg0
  z0 := Tryz.sizeOf0
  v0 := Tryz.zeroValue0
  t3 := Tryz.underlying3
  a3 := Tryz.isAgg3
  z3 := Tryz.sizeOf3
  v3 := Tryz.zeroValue3
  t9 := Tryz.underlying9
  a9 := Tryz.isAgg9
  z9 := Tryz.sizeOf9
  v9 := Tryz.zeroValue9
  t37 := Tryz.underlying57
  a37 := Tryz.isAgg57
  z37 := Tryz.sizeOf57
  v37 := Tryz.zeroValue57
  t70 := Tryz.underlying56
  a70 := Tryz.isAgg56
  z70 := Tryz.sizeOf56
  v70 := Tryz.zeroValue56
  t72 := Tryz.underlying59
  a72 := Tryz.isAgg59
  z72 := Tryz.sizeOf59
  v72 := Tryz.zeroValue59
  t127 := Tryz.underlying79
  a127 := Tryz.isAgg79
  z127 := Tryz.sizeOf79
  v127 := Tryz.zeroValue79
}
theorem Tryz.blays170 : Go.Proofs.Lays.n170 Tryz.prog Tryz.bren := {
  mixed := by kernel_rfl
  f170 := Tryz.func33.trans (congrArg some (by kernel_rfl))
  t0 := Tryz.underlying0
  a0 := Tryz.isAgg0
  z0 := Tryz.sizeOf0
  v0 := Tryz.zeroValue0
  t3 := Tryz.underlying3
  a3 := Tryz.isAgg3
  z3 := Tryz.sizeOf3
  v3 := Tryz.zeroValue3
  t37 := Tryz.underlying57
  a37 := Tryz.isAgg57
  z37 := Tryz.sizeOf57
  v37 := Tryz.zeroValue57
  t70 := Tryz.underlying56
  a70 := Tryz.isAgg56
  z70 := Tryz.sizeOf56
  v70 := Tryz.zeroValue56
  t72 := Tryz.underlying59
  a72 := Tryz.isAgg59
  z72 := Tryz.sizeOf59
  v72 := Tryz.zeroValue59
}
theorem Tryz.blays240 : Go.Proofs.Lays.n240 Tryz.prog Tryz.bren := {
  mixed := by kernel_rfl
  f240 := Tryz.func53.trans (congrArg some (by kernel_rfl))
  f276 := Tryz.func72.trans (congrArg some (by kernel_rfl))
  t0 := Tryz.underlying0
  a0 := Tryz.isAgg0
  z0 := Tryz.sizeOf0
  v0 := Tryz.zeroValue0
  t4 := Tryz.underlying4
  a4 := Tryz.isAgg4
  z4 := Tryz.sizeOf4
  v4 := Tryz.zeroValue4
  t9 := Tryz.underlying9
  a9 := Tryz.isAgg9
  z9 := Tryz.sizeOf9
  v9 := Tryz.zeroValue9
  t20 := Tryz.underlying20
  a20 := Tryz.isAgg20
  z20 := Tryz.sizeOf20
  v20 := Tryz.zeroValue20
  t70 := Tryz.underlying56
  a70 := Tryz.isAgg56
  z70 := Tryz.sizeOf56
  v70 := Tryz.zeroValue56
  t72 := Tryz.underlying59
  a72 := Tryz.isAgg59
  z72 := Tryz.sizeOf59
  v72 := Tryz.zeroValue59
  t164 := Tryz.underlying96
  a164 := Tryz.isAgg96
  z164 := Tryz.sizeOf96
  v164 := Tryz.zeroValue96
}
theorem Tryz.bX : Builder.Extra Tryz.prog Tryz.bren := {
  sizeBuilder := by kernel_rfl
  liesBuilder := by kernel_rfl
  t5 := Tryz.underlying5
  a5 := Tryz.isAgg5
  z5 := Tryz.sizeOf5
  v5 := Tryz.zeroValue5
  infoByte := by kernel_rfl
  cellsByte := by kernel_rfl
  sizeByte := by kernel_rfl
  neB5 := by decide
}
end Go.Proofs

/- gs1.Format: what it answers for every list. -/
namespace Go.Proofs.YtghlbdemlmbijaaGreatDoor.Q
open Go.RowKit Go.Proofs.YtghlbdemlmbijaaGreatDoorW.PrintWords Go.Proofs.YtghlbdemlmbijaaGreatDoorW.PrintLast Go.Proofs.YtghlbdemlmbijaaGreatDoorW.PrintMore

set_option linter.unusedVariables false
set_option linter.unusedSimpArgs false
theorem isB_grown {T e : TypeId} {B b : Nat} {bs : List Value} {w w' : World} (h : Lib.IsBuilder T e B b bs w) (hb : Below w.heap.size w w') : Lib.IsBuilder T e B b bs w' := by
  have hg : w.grownBy w' none := ⟨hb.os, hb.tape, hb.output, hb.size, fun i hi _ => hb.block i hi⟩
  rcases h with ⟨h1, v, h2, h3, h4⟩ | ⟨h1, v, h2, h3, h4⟩
  · exact Or.inl ⟨h1, v, (hg.block b (Lib.BuilderAt.lt ⟨h1, v, h2, h3, h4⟩) (by simp)).trans h2, h3.kept hg (by rcases h : v.ownBlock with _ | _ <;> simp), h4⟩
  · exact Or.inr ⟨h1, v, (hg.block b (Lib.BuilderAt.lt ⟨h1, v, h2, h3, h4⟩) (by simp)).trans h2, h3.kept hg (by rcases h : v.ownBlock with _ | _ <;> simp), h4⟩
theorem isB_lt {T e : TypeId} {B b : Nat} {bs : List Value} {w : World} (h : Lib.IsBuilder T e B b bs w) : b < w.heap.size := by
  rcases h with h | h <;> exact h.lt
/-- What one round of Format writes. -/
def piece (x : S23) : ByteArray := (((⟨#[40]⟩ : ByteArray) ++ x.f0) ++ (⟨#[41]⟩ : ByteArray)) ++ x.f1
def gs1_Format.l0 : Nat → List S23 → ByteArray → Int → Option ByteArray
  | 0, _, _, _ => none
  | k + 1, x, acc, i => if i < (x.length : Int) then (if 0 ≤ i ∧ (rd_T23 x i).f0.size ≤ 4294967296 ∧ (rd_T23 x i).f1.size ≤ 4294967296 ∧ (acc ++ piece (rd_T23 x i)).size ≤ 140737488355328 then gs1_Format.l0 k x (acc ++ piece (rd_T23 x i)) (wrap64 (i + 1)) else none) else some acc
def gs1_Format.f (k : Nat) (l0 : List S23) : Option (ByteArray × Int) :=
  (gs1_verifyAll.f k l0).bind fun t => if t = 0 then (gs1_Format.l0 k l0 ⟨#[]⟩ 0).bind fun s => (if (s.size : Int) > 4096 then some (⟨#[]⟩, 4) else some (s, 0)) else some (⟨#[]⟩, t)
theorem gs1_Format.mono_l : ∀ k y0 y1 y2, LeO (gs1_Format.l0 k y0 y1 y2) (gs1_Format.l0 (k + 1) y0 y1 y2)
  | 0, _, _, _ => fun r h => by simp [gs1_Format.l0] at h
  | k + 1, y0, y1, y2 => by
    have ih0 := gs1_Format.mono_l k
    rw [gs1_Format.l0, gs1_Format.l0]
    exact LeO.ite (LeO.ite (ih0 _ _ _) (LeO.none _)) (LeO.refl _)
theorem gs1_Format.mono : ∀ a0 k, LeO (gs1_Format.f k a0) (gs1_Format.f (k + 1) a0) := by
  intro a0 k
  unfold gs1_Format.f
  exact LeO.bind (gs1_verifyAll.mono _ _) fun _ => LeO.ite (LeO.bind (gs1_Format.mono_l _ _ _ _) fun _ => LeO.refl _) (LeO.refl _)
set_option maxRecDepth 100000 in
set_option maxHeartbeats 8000000 in
theorem gs1_Format.calls (k : Nat) (A0 : Option Addr) (c0 : Nat) (l0 : List S23) (r1 : ByteArray) (r2 : Int) (w : World) (hT : Tabs w) (hr0 : Kd.C k23 w A0 l0.length l0) (hc0 : l0.length ≤ c0) (h : gs1_Format.f k l0 = some (r1, r2)) :
    Calls Tryz.prog 14 #[.slice A0 l0.length c0] w fun e w' => e = .returned (.tuple #[.string r1, .int .i64 r2]) ∧ Below w.heap.size w w' := by
  have hu := Tryz.underlying23
  have HR0 := Aside0.mk hr0
  have HC0 := Aside0.mk hc0
  have HT := Aside0.mk hT
  clear hr0 hc0 hT
  have HB := Aside0.mk (Below.refl w.heap.size w)
  obtain ⟨t, A20, H⟩ := Option.bind_eq_some_iff.mp h
  clear h
  have A2 := Aside0.mk A20
  clear A20
  by_cases c3 : t = 0
  · subst c3
    rw [if_pos rfl] at H
    obtain ⟨s, A30, H⟩ := Option.bind_eq_some_iff.mp H
    have A3 := Aside0.mk A30
    have H' := Aside0.mk H
    clear A30 H
    go_enter Tryz.func14, Tryz.ntmps14
    go_wp2_with (first | (go_at_call 31; refine (gs1_verifyAll.calls k _ _ l0 0 _ (Tabs.below HT.out HB.out) HR0.out HC0.out A2.out).mono ?_; rintro e w4 ⟨rfl, hb⟩))
    have HB4 := Aside0.mk (below_step HB.out hb)
    have GE := Aside0.mk (below_size HB4.out)
    have B4 := Aside0.mk ((HB4.out).alloc GE.out (.cells #[.pointer none, .slice none 0 0] 59))
    go_loopg [15] k (fun kq v15 w' => ∃ (acc : ByteArray) (i : Int), v15 = .int .i64 i ∧ Aside0 (gs1_Format.l0 kq l0 acc i = some s) ∧ Aside0 (kq ≤ k) ∧ Aside0 (Below w.heap.size w w') ∧ Aside0 (Lib.IsBuilder 59 5 w4.heap.size w4.heap.size (Lib.byteCells (bs acc)) w') ∧ Aside0 (w4.heap.size ≤ w'.heap.size))
    case atStart => exact ⟨⟨#[]⟩, 0, rfl, A3, ⟨Nat.le_refl _⟩, B4, ⟨Lib.fresh_isBuilder _ _ w4⟩, ⟨by simp⟩⟩
    case round =>
      clear A3
      obtain ⟨acc, i, rfl, HA, HK1, HB1, IB, ZW⟩ := hrel
      cases gk with
      | zero => exact absurd HA.out (by simp [gs1_Format.l0])
      | succ k1 =>
        have H := HA.out
        clear HA
        simp only [gs1_Format.l0] at H
        by_cases c3 : i < (l0.length : Int)
        · rw [if_pos c3] at H
          have c3b0 : decide (i < (l0.length : Int)) = true := decide_eq_true c3
          by_cases c4 : 0 ≤ i ∧ (rd_T23 l0 i).f0.size ≤ 4294967296 ∧ (rd_T23 l0 i).f1.size ≤ 4294967296 ∧ (acc ++ piece (rd_T23 l0 i)).size ≤ 140737488355328
          · rw [if_pos c4] at H
            have p169 := c4.1
            have q169 := c3
            obtain ⟨ad169, e169, hx169_0, hx169_1⟩ := at_T23 HR0.out i p169 q169
            cases e169
            replace hx169_0 := (HB1.out.cell (World.block_lt_of_cell? w _ hx169_0)).trans hx169_0
            replace hx169_1 := (HB1.out.cell (World.block_lt_of_cell? w _ hx169_1)).trans hx169_1
            replace p169 := eq_true p169
            replace q169 := eq_true q169
            have H3 := Aside0.mk H
            clear H
            go_wp2_with (first | (go_at_call 32; refine (Any.Builder_WriteString Tryz.blays166 Tryz.bX w4.heap.size w4.heap.size (Lib.byteCells (bs acc)) _ _ (isB_grown IB.out (by repeat (first | exact Below.refl _ _ | refine Below.alloc ?_ (Nat.le_refl _) _ | apply Below.drew))) ?hlen ?hz).mono ?_; (case hlen => (have := c4.2.2.2; simp only [piece, ByteArray.size_append, Lib.byteCells, List.length_map, bs_len] at this ⊢; omega)); (case hz => (have := ZW.out; simp; omega)); rintro e w6 ⟨rfl, IB6, hb6⟩))
            go_roundg k1
            case measure => have := HK1.out; omega
            case rel =>
              have zw := ZW.out
              have ge := GE.out
              refine ⟨acc ++ piece (rd_T23 l0 i), wrap64 (i + 1), (by first | rfl | (simp; done)), H3, ⟨by have := HK1.out; omega⟩, ⟨?_⟩, ⟨?_⟩, ⟨?_⟩⟩
              · exact ((HB1.out).alloc (Nat.le_trans ge zw) _).trans (hb6.mono ge)
              · rw [bs_append, Lib.byteCells_append]
                exact Or.inr IB6
              · have := hb6.size; simp at this; omega
          · rw [if_neg c4] at H
            cases H
        · rw [if_neg c3] at H
          have c3b0 : decide (i < (l0.length : Int)) = false := decide_eq_false c3
          obtain rfl := Option.some.inj H
          have H := H'.out
          by_cases c5 : (acc.size : Int) > 4096
          · rw [if_pos c5] at H
            have c5b0 : decide (4096 < (acc.size : Int)) = true := decide_eq_true c5
            have H := Option.some.inj H
            simp only [Prod.mk.injEq] at H
            obtain ⟨rfl, rfl⟩ := H
            go_wp2_with (first | (go_at_call 33; refine (Any.Builder_Len Tryz.blays170 w4.heap.size w4.heap.size (Lib.byteCells (bs acc)) _ IB.out).mono ?_; rintro e w5 ⟨rfl, rfl⟩; rw [show ((Lib.byteCells (bs acc)).length : Int) = (acc.size : Int) from by rw [Lib.byteCells, List.length_map, bs_len]]))
            go_ret2
            exact ⟨rfl, HB1.out⟩
          · rw [if_neg c5] at H
            have c5b0 : decide (4096 < (acc.size : Int)) = false := decide_eq_false c5
            have H := Option.some.inj H
            simp only [Prod.mk.injEq] at H
            obtain ⟨rfl, rfl⟩ := H
            go_wp2_with (first | (go_at_call 33; refine (Any.Builder_Len Tryz.blays170 w4.heap.size w4.heap.size (Lib.byteCells (bs acc)) _ IB.out).mono ?_; rintro e w5 ⟨rfl, rfl⟩; rw [show ((Lib.byteCells (bs acc)).length : Int) = (acc.size : Int) from by rw [Lib.byteCells, List.length_map, bs_len]]) | (go_at_call 34; refine (Any.Builder_String_any Tryz.blays169 Tryz.bX w4.heap.size w4.heap.size (bs acc) _ IB.out ZW.out).mono ?_; rintro e w6 ⟨rfl, hb6⟩))
            go_ret2
            exact ⟨by rw [show (⟨(bs acc).toArray⟩ : ByteArray) = acc from Lib.mk_data acc]; rfl, HB1.out.trans (hb6.mono GE.out)⟩
  · rw [if_neg c3] at H
    have c3b0 : (t == 0) = false := beq_eq_false_iff_ne.mpr c3
    have c3b1 : (t != 0) = true := bne_iff_ne.mpr c3
    have H := Option.some.inj H
    simp only [Prod.mk.injEq] at H
    obtain ⟨rfl, rfl⟩ := H
    go_enter Tryz.func14, Tryz.ntmps14
    go_wp2_with (first | (go_at_call 31; refine (gs1_verifyAll.calls k _ _ l0 t _ (Tabs.below HT.out HB.out) HR0.out HC0.out A2.out).mono ?_; rintro e w4 ⟨rfl, hb⟩))
    go_ret2
    exact ⟨rfl, hb⟩
end Go.Proofs.YtghlbdemlmbijaaGreatDoor.Q

namespace Go.Proofs.YtghlbdemlmbijaaGreatDoor.Q
open Go.RowKit Go.Proofs.YtghlbdemlmbijaaGreatDoorW.PrintWords Go.Proofs.YtghlbdemlmbijaaGreatDoorW.PrintLast Go.Proofs.YtghlbdemlmbijaaGreatDoorW.PrintMore

set_option linter.unusedVariables false
set_option linter.unusedSimpArgs false

attribute [local go_sem high] eqA23
/-! ### barscanlaw14_examples: function 11 -/
def barscanlaw14_examples.j0 : Nat → List (S23) → Bool → Option (Bool)
 | 0, _, _ => none
 | k + 1, x1, x36 => if x36 = true then (some false) else ((gs1_Format.f k x1).bind fun bt236 => ((gs1_Chars.f k x1).bind fun bt238 => ((gs1_FromChars.f k bt238.1).bind fun bt242 => ((gs1_Fixed.f (⟨#[48, 49]⟩ : ByteArray)).bind fun bt246 => (if bt236.2 = 0 then (if bt236.1.toList = ([40, 48, 49, 41, 48, 57, 53, 48, 49, 49, 48, 49, 53, 51, 48, 48, 48, 51, 40, 49, 48, 41, 65, 66] : List UInt8) then (if bt238.2 = 0 then (if (bt238.1.length : Int) = 21 then (if 0 < (bt238.1.length : Int) then (if (rd bt238.1 0) = 256 then (if 20 < (bt238.1.length : Int) then (if (rd bt238.1 20) = 66 then (if bt242.2 = 0 then ((barscanlaw14_same.f k x1 bt242.1).bind fun t251 => (if t251 = true then (if bt246.1 = 14 then (if bt246.2.1 = 14 then (if bt246.2.2 = 0 then ((gs1_Verify.f k (⟨#[49, 55]⟩ : ByteArray) (⟨#[50, 51, 48, 50, 50, 57]⟩ : ByteArray)).bind fun t252 => (some (t252 == 9))) else (some false)) else (some false)) else (some false)) else (some false))) else (some false)) else (some false)) else (none)) else (some false)) else (none)) else (some false)) else (some false)) else (some false)) else (some false))))))
def barscanlaw14_examples.f (k : Nat)  : Option (Bool) := (gs1_Parse.f k (⟨#[40, 48, 49, 41, 48, 57, 53, 48, 49, 49, 48, 49, 53, 51, 48, 48, 48, 51, 40, 49, 48, 41, 65, 66]⟩ : ByteArray)).bind fun bt230 => (if bt230.2 = 0 then (if (bt230.1.length : Int) = 2 then (if 0 < (bt230.1.length : Int) then (if (!((((rd_T23 bt230.1 0).f0).toList) == ([48, 49] : List UInt8)) || (!((((rd_T23 bt230.1 0).f1).toList) == ([48, 57, 53, 48, 49, 49, 48, 49, 53, 51, 48, 48, 48, 51] : List UInt8)))) = true then (barscanlaw14_examples.j0 k bt230.1 true) else (if 1 < (bt230.1.length : Int) then (barscanlaw14_examples.j0 k bt230.1 (!((((rd_T23 bt230.1 1).f0).toList) == ([49, 48] : List UInt8)) || (!((((rd_T23 bt230.1 1).f1).toList) == ([65, 66] : List UInt8))))) else (none))) else (none)) else (barscanlaw14_examples.j0 k bt230.1 true)) else (barscanlaw14_examples.j0 k bt230.1 true))
theorem barscanlaw14_examples.mono_l : ∀ k, (∀ y0 y1, LeO (barscanlaw14_examples.j0 k y0 y1) (barscanlaw14_examples.j0 (k + 1) y0 y1))
 | 0 => fun _ _ r h => by simp [barscanlaw14_examples.j0] at h
 | k + 1 => by
  have ih0 := barscanlaw14_examples.mono_l k
  ·intro y0 y1
   unfold barscanlaw14_examples.j0
   repeat' first
   | (with_reducible exact ih0 _ _)
   | (with_reducible exact barscanlaw14_same.mono _ _ _)
   | (with_reducible exact gs1_Chars.mono _ _)
   | (with_reducible exact gs1_Format.mono _ _)
   | (with_reducible exact gs1_FromChars.mono _ _)
   | (with_reducible exact gs1_Parse.mono _ _)
   | (with_reducible exact gs1_Verify.mono _ _ _)
   | (with_reducible exact LeO.refl _)
   | (with_reducible exact LeO.none _)
   | (with_reducible refine LeO.ite ?_ ?_)
   | (with_reducible refine LeO.bind ?_ (fun _ => ?_))
   | exact ih0 _ _
   | exact barscanlaw14_same.mono _ _ _
   | exact gs1_Chars.mono _ _
   | exact gs1_Format.mono _ _
   | exact gs1_FromChars.mono _ _
   | exact gs1_Parse.mono _ _
   | exact gs1_Verify.mono _ _ _
   | exact LeO.none _
   | refine LeO.ite ?_ ?_
   | refine LeO.bind ?_ (fun _ => ?_)
theorem barscanlaw14_examples.mono : ∀ k, LeO (barscanlaw14_examples.f k ) (barscanlaw14_examples.f (k + 1) ) := by
 intro  k
 have ih0 := barscanlaw14_examples.mono_l k
 unfold barscanlaw14_examples.f
 repeat' first
   | (with_reducible exact ih0 _ _)
   | (with_reducible exact barscanlaw14_same.mono _ _ _)
   | (with_reducible exact gs1_Chars.mono _ _)
   | (with_reducible exact gs1_Format.mono _ _)
   | (with_reducible exact gs1_FromChars.mono _ _)
   | (with_reducible exact gs1_Parse.mono _ _)
   | (with_reducible exact gs1_Verify.mono _ _ _)
   | (with_reducible exact LeO.refl _)
   | (with_reducible exact LeO.none _)
   | (with_reducible refine LeO.ite ?_ ?_)
   | (with_reducible refine LeO.bind ?_ (fun _ => ?_))
   | exact ih0 _ _
   | exact barscanlaw14_same.mono _ _ _
   | exact gs1_Chars.mono _ _
   | exact gs1_Format.mono _ _
   | exact gs1_FromChars.mono _ _
   | exact gs1_Parse.mono _ _
   | exact gs1_Verify.mono _ _ _
   | exact LeO.none _
   | refine LeO.ite ?_ ?_
   | refine LeO.bind ?_ (fun _ => ?_)
set_option maxHeartbeats 8000000 in
set_option maxRecDepth 100000 in
theorem barscanlaw14_examples.calls (k : Nat)  (r : Bool) (w : World) (hT : Tabs w) (h : barscanlaw14_examples.f k  = some r) :
  Calls Tryz.prog 11 #[] w fun e w' => e = .returned (.bool r) ∧ Below w.heap.size w w' := by
 have hu23 := Tryz.underlying23
 have HT := Aside0.mk hT
 clear hT
 have HB := Aside0.mk (Below.refl w.heap.size w)
 have H : ((gs1_Parse.f k (⟨#[40, 48, 49, 41, 48, 57, 53, 48, 49, 49, 48, 49, 53, 51, 48, 48, 48, 51, 40, 49, 48, 41, 65, 66]⟩ : ByteArray)).bind fun bt230 => (if bt230.2 = 0 then (if (bt230.1.length : Int) = 2 then (if 0 < (bt230.1.length : Int) then (if (!((((rd_T23 bt230.1 0).f0).toList) == ([48, 49] : List UInt8)) || (!((((rd_T23 bt230.1 0).f1).toList) == ([48, 57, 53, 48, 49, 49, 48, 49, 53, 51, 48, 48, 48, 51] : List UInt8)))) = true then (barscanlaw14_examples.j0 k bt230.1 true) else (if 1 < (bt230.1.length : Int) then (barscanlaw14_examples.j0 k bt230.1 (!((((rd_T23 bt230.1 1).f0).toList) == ([49, 48] : List UInt8)) || (!((((rd_T23 bt230.1 1).f1).toList) == ([65, 66] : List UInt8))))) else (none))) else (none)) else (barscanlaw14_examples.j0 k bt230.1 true)) else (barscanlaw14_examples.j0 k bt230.1 true))) = some r := h
 clear h
 replace H := Option.bind_eq_some_iff.mp H
 obtain ⟨⟨t230, t231⟩, A10, H⟩ := H
 replace H : (if t231 = 0 then (if (t230.length : Int) = 2 then (if 0 < (t230.length : Int) then (if (!((((rd_T23 t230 0).f0).toList) == ([48, 49] : List UInt8)) || (!((((rd_T23 t230 0).f1).toList) == ([48, 57, 53, 48, 49, 49, 48, 49, 53, 51, 48, 48, 48, 51] : List UInt8)))) = true then (barscanlaw14_examples.j0 k t230 true) else (if 1 < (t230.length : Int) then (barscanlaw14_examples.j0 k t230 (!((((rd_T23 t230 1).f0).toList) == ([49, 48] : List UInt8)) || (!((((rd_T23 t230 1).f1).toList) == ([65, 66] : List UInt8))))) else (none))) else (none)) else (barscanlaw14_examples.j0 k t230 true)) else (barscanlaw14_examples.j0 k t230 true)) = some r := H
 have A1 := Aside0.mk A10
 clear A10
 have HC2 := Aside0.mk H
 clear H
 go_enter Tryz.func11, Tryz.ntmps11
 go_upto_region 2 with (first | ((with_reducible refine gate_callee (f := 12) rfl ?_); refine goesL_ (some 13) rfl rfl Tryz.func12 (by kernel_rfl) rfl #[.string (⟨#[40, 48, 49, 41, 48, 57, 53, 48, 49, 49, 48, 49, 53, 51, 48, 48, 48, 51, 40, 49, 48, 41, 65, 66]⟩ : ByteArray)] rfl (by (try simp only [List.map_toArray, List.map_cons, List.map_nil]); first | done | rfl | (simp only [List.length_drop, List.length_take]; rfl)) ?_; (with_reducible refine (gs1_Parse.calls k (⟨#[40, 48, 49, 41, 48, 57, 53, 48, 49, 49, 48, 49, 53, 51, 48, 48, 48, 51, 40, 49, 48, 41, 65, 66]⟩ : ByteArray) t230 t231 _ ?side1 A1.out).mono ?_); (case side1 => exact Tabs.below HT.out (by repeat (first | (with_reducible first | exact HB.out | apply below_alloc | apply pw_below_drewN | apply below_drew1) | exact HB.out))); rintro e w3 ⟨v232, rfl, ho0, hb⟩; refine ⟨_, rfl, ?_⟩; have n0_ := Aside0.mk (Kd.R_lower ho0 (below_size (by repeat (first | (with_reducible first | exact HB.out | apply below_alloc | apply pw_below_drewN | apply below_drew1) | exact HB.out)))); have n1_ := Aside0.mk (below_step (by repeat (first | (with_reducible first | exact HB.out | apply below_alloc | apply pw_below_drewN | apply below_drew1) | exact HB.out)) hb); clear HB; have HO233 := n0_; have HB := n1_; clear n0_ n1_; (try clear hb); (try clear hb2); (try clear hk); (try clear hi); (try clear ho0)))
 (try simp only [Act.put, List.setIfInBounds_toArray, List.set_cons_zero, List.set_cons_succ])
 go_cut [36] (fun v36 wc => ∃ (kq : Nat) (x36_1 : Bool), v36 = .bool x36_1 ∧ Aside0 (barscanlaw14_examples.j0 kq t230 x36_1 = some r) ∧ Aside0 (kq ≤ k) ∧ Aside0 (Kd.R k23 23 wc w.heap.size (fun _ => True) v232 t230) ∧ Aside0 (Below w.heap.size w wc))
 case first =>
  have H := HC2.out
  clear HC2
  by_cases c4 : t231 = 0
  ·rw [if_pos c4] at H
   have c4b0 : (t231 == 0) = true := beq_iff_eq.mpr c4
   have c4b1 : (t231 != 0) = false := bne_eq_false_iff_eq.mpr c4
   clear c4
   (first | rw [c4b0] | (simp only [i64_w]; rw [c4b0]) | skip)
   by_cases c5 : (t230.length : Int) = 2
   ·rw [if_pos c5] at H
    have c5b0 : ((t230.length : Int) == 2) = true := beq_iff_eq.mpr c5
    have c5b1 : ((t230.length : Int) != 2) = false := bne_eq_false_iff_eq.mpr c5
    clear c5
    by_cases c6 : 0 < (t230.length : Int)
    ·rw [if_pos c6] at H
     have c6b0 : decide (0 < (t230.length : Int)) = true := decide_eq_true c6
     have c6b1 : decide (0 < t230.length) = true := decide_eq_true (by omega)
     clear c6
     by_cases c7 : (!((((rd_T23 t230 0).f0).toList) == ([48, 49] : List UInt8)) || (!((((rd_T23 t230 0).f1).toList) == ([48, 57, 53, 48, 49, 49, 48, 49, 53, 51, 48, 48, 48, 51] : List UInt8)))) = true
     ·rw [if_pos c7] at H
      have c7b0 : (!((((rd_T23 t230 0).f0).toList) == ([48, 49] : List UInt8)) || (!((((rd_T23 t230 0).f1).toList) == ([48, 57, 53, 48, 49, 49, 48, 49, 53, 51, 48, 48, 48, 51] : List UInt8)))) = true := c7
      clear c7
      have H' := Aside0.mk H
      clear H
      obtain ⟨Ao8, co8, eo8⟩ := Kd.R_slice HO233.out
      subst eo8
      have p234 : 0 ≤ (0 : Int) := (by omega)
      have q234 : 0 < (t230.length : Int) := of_decide_eq_true (by first | (with_reducible assumption) | assumption)
      obtain ⟨ad234, e234, hx234_0, hx234_1⟩ := at_T23 (Kd.R_reads' HO233.out).2.2 0 p234 q234
      cases e234
      have qi234 : (0 < t230.length) = True := eq_true (by omega)
      (try rw [show ((0 : Int)).toNat = 0 from rfl] at hx234_0)
      (try rw [show 0 * 2 = 0 from rfl] at hx234_0)
      (try rw [Addr.add_zero'] at hx234_0)
      (try rw [show ((0 : Int)).toNat = 0 from rfl] at hx234_1)
      (try rw [show 0 * 2 = 0 from rfl] at hx234_1)
      (try rw [Addr.add_zero'] at hx234_1)
      replace p234 := eq_true p234
      replace q234 := eq_true q234
      go_wp2
      go_meet
      case rel => exact ⟨_, (true), (by first | rfl | (simp; done) | (simp [*]; done)), H', ⟨by first | omega | exact Nat.le_refl _⟩, ⟨by (with_reducible repeat (first | apply Kd.R_alloc | apply Kd.R_drewN | apply Kd.R_drew)); exact HO233.out⟩, ⟨by repeat (first | (with_reducible first | exact HB.out | apply below_alloc | apply pw_below_drewN | apply below_drew1) | exact HB.out)⟩⟩
     ·rw [if_neg c7] at H
      have c7b0 : (!((((rd_T23 t230 0).f0).toList) == ([48, 49] : List UInt8)) || (!((((rd_T23 t230 0).f1).toList) == ([48, 57, 53, 48, 49, 49, 48, 49, 53, 51, 48, 48, 48, 51] : List UInt8)))) = false := by simpa using c7
      clear c7
      by_cases c9 : 1 < (t230.length : Int)
      ·rw [if_pos c9] at H
       have c9b0 : decide (1 < (t230.length : Int)) = true := decide_eq_true c9
       have c9b1 : decide (1 < t230.length) = true := decide_eq_true (by omega)
       clear c9
       have H' := Aside0.mk H
       clear H
       obtain ⟨Ao10, co10, eo10⟩ := Kd.R_slice HO233.out
       subst eo10
       have p234 : 0 ≤ (0 : Int) := (by omega)
       have q234 : 0 < (t230.length : Int) := of_decide_eq_true (by first | (with_reducible assumption) | assumption)
       obtain ⟨ad234, e234, hx234_0, hx234_1⟩ := at_T23 (Kd.R_reads' HO233.out).2.2 0 p234 q234
       cases e234
       have qi234 : (0 < t230.length) = True := eq_true (by omega)
       (try rw [show ((0 : Int)).toNat = 0 from rfl] at hx234_0)
       (try rw [show 0 * 2 = 0 from rfl] at hx234_0)
       (try rw [Addr.add_zero'] at hx234_0)
       (try rw [show ((0 : Int)).toNat = 0 from rfl] at hx234_1)
       (try rw [show 0 * 2 = 0 from rfl] at hx234_1)
       (try rw [Addr.add_zero'] at hx234_1)
       replace p234 := eq_true p234
       replace q234 := eq_true q234
       have p235 : 0 ≤ (1 : Int) := (by omega)
       have q235 : 1 < (t230.length : Int) := of_decide_eq_true (by first | (with_reducible assumption) | assumption)
       obtain ⟨ad235, e235, hx235_0, hx235_1⟩ := at_T23 (Kd.R_reads' HO233.out).2.2 1 p235 q235
       obtain rfl : ad234 = ad235 := (by injection e235)
       (try simp only [show (1 : Int).toNat = 1 from rfl, Nat.reduceMul, Nat.reduceEqDiff, Go.Addr.add, ↓reduceIte] at hx235_0)
       (try simp only [show (1 : Int).toNat = 1 from rfl, Nat.reduceMul, Nat.reduceEqDiff, Go.Addr.add, ↓reduceIte] at hx235_1)
       have qi235 : (1 < t230.length) = True := eq_true (by omega)
       (try rw [show ((1 : Int)).toNat = 1 from rfl] at hx235_0)
       (try rw [show 1 * 2 = 2 from rfl] at hx235_0)
       (try rw [show ((1 : Int)).toNat = 1 from rfl] at hx235_1)
       (try rw [show 1 * 2 = 2 from rfl] at hx235_1)
       replace p235 := eq_true p235
       replace q235 := eq_true q235
       go_wp2
       go_meet
       case rel => exact ⟨_, ((!((((rd_T23 t230 1).f0).toList) == ([49, 48] : List UInt8)) || (!((((rd_T23 t230 1).f1).toList) == ([65, 66] : List UInt8))))), (by first | rfl | (simp; done) | (simp [*]; done)), H', ⟨by first | omega | exact Nat.le_refl _⟩, ⟨by (with_reducible repeat (first | apply Kd.R_alloc | apply Kd.R_drewN | apply Kd.R_drew)); exact HO233.out⟩, ⟨by repeat (first | (with_reducible first | exact HB.out | apply below_alloc | apply pw_below_drewN | apply below_drew1) | exact HB.out)⟩⟩
      ·rw [if_neg c9] at H
       exact absurd H (by simp)
    ·rw [if_neg c6] at H
     exact absurd H (by simp)
   ·rw [if_neg c5] at H
    have c5b0 : ((t230.length : Int) == 2) = false := beq_eq_false_iff_ne.mpr c5
    have c5b1 : ((t230.length : Int) != 2) = true := bne_iff_ne.mpr c5
    have H' := Aside0.mk H
    clear H
    obtain ⟨Ao11, co11, eo11⟩ := Kd.R_slice HO233.out
    subst eo11
    go_wp2
    go_meet
    case rel => exact ⟨_, (true), (by first | rfl | (simp; done) | (simp [*]; done)), H', ⟨by first | omega | exact Nat.le_refl _⟩, ⟨by (with_reducible repeat (first | apply Kd.R_alloc | apply Kd.R_drewN | apply Kd.R_drew)); exact HO233.out⟩, ⟨by repeat (first | (with_reducible first | exact HB.out | apply below_alloc | apply pw_below_drewN | apply below_drew1) | exact HB.out)⟩⟩
  ·rw [if_neg c4] at H
   have c4b0 : (t231 == 0) = false := beq_eq_false_iff_ne.mpr c4
   have c4b1 : (t231 != 0) = true := bne_iff_ne.mpr c4
   (first | rw [c4b0] | (simp only [i64_w]; rw [c4b0]) | skip)
   have H' := Aside0.mk H
   clear H
   go_wp2
   go_meet
   case rel => exact ⟨_, (true), (by first | rfl | (simp; done) | (simp [*]; done)), H', ⟨by first | omega | exact Nat.le_refl _⟩, ⟨by (with_reducible repeat (first | apply Kd.R_alloc | apply Kd.R_drewN | apply Kd.R_drew)); exact HO233.out⟩, ⟨by repeat (first | (with_reducible first | exact HB.out | apply below_alloc | apply pw_below_drewN | apply below_drew1) | exact HB.out)⟩⟩
 case rest =>
  clear HC2
  obtain ⟨kq, x36_1, rfl, HA, HJ1, HO_1, HB⟩ := hcut
  cases kq with
  | zero => exact absurd HA.out (by simp [barscanlaw14_examples.j0])
  | succ kj1 =>
   have H := HA.out
   clear HA
   simp only [barscanlaw14_examples.j0] at H
   by_cases c12 : x36_1 = true
   ·subst c12
    have H1 : (some false) = some r := by rw [if_pos rfl] at H; exact H
    clear H
    have H := H1
    clear H1
    obtain rfl := Option.some.inj H
    go_wp2
    go_ret
    exact ⟨by first | rfl | (simp [errW_none, errW_some] <;> rfl) | (simp [*, errW_none, errW_some] <;> rfl), by repeat (first | (with_reducible first | exact HB.out | apply below_alloc | apply pw_below_drewN | apply below_drew1) | exact HB.out)⟩
   ·replace c12 := Bool.eq_false_iff.mpr c12
    subst c12
    have H1 : ((gs1_Format.f kj1 t230).bind fun bt236 => ((gs1_Chars.f kj1 t230).bind fun bt238 => ((gs1_FromChars.f kj1 bt238.1).bind fun bt242 => ((gs1_Fixed.f (⟨#[48, 49]⟩ : ByteArray)).bind fun bt246 => (if bt236.2 = 0 then (if bt236.1.toList = ([40, 48, 49, 41, 48, 57, 53, 48, 49, 49, 48, 49, 53, 51, 48, 48, 48, 51, 40, 49, 48, 41, 65, 66] : List UInt8) then (if bt238.2 = 0 then (if (bt238.1.length : Int) = 21 then (if 0 < (bt238.1.length : Int) then (if (rd bt238.1 0) = 256 then (if 20 < (bt238.1.length : Int) then (if (rd bt238.1 20) = 66 then (if bt242.2 = 0 then ((barscanlaw14_same.f kj1 t230 bt242.1).bind fun t251 => (if t251 = true then (if bt246.1 = 14 then (if bt246.2.1 = 14 then (if bt246.2.2 = 0 then ((gs1_Verify.f kj1 (⟨#[49, 55]⟩ : ByteArray) (⟨#[50, 51, 48, 50, 50, 57]⟩ : ByteArray)).bind fun t252 => (some (t252 == 9))) else (some false)) else (some false)) else (some false)) else (some false))) else (some false)) else (some false)) else (none)) else (some false)) else (none)) else (some false)) else (some false)) else (some false)) else (some false)))))) = some r := by rw [if_neg (show ¬ (false = true) by decide)] at H; exact H
    clear H
    have H := H1
    clear H1
    replace H := Option.bind_eq_some_iff.mp H
    obtain ⟨⟨t236, t237⟩, A130, H⟩ := H
    replace H : ((gs1_Chars.f kj1 t230).bind fun bt238 => ((gs1_FromChars.f kj1 bt238.1).bind fun bt242 => ((gs1_Fixed.f (⟨#[48, 49]⟩ : ByteArray)).bind fun bt246 => (if t237 = 0 then (if t236.toList = ([40, 48, 49, 41, 48, 57, 53, 48, 49, 49, 48, 49, 53, 51, 48, 48, 48, 51, 40, 49, 48, 41, 65, 66] : List UInt8) then (if bt238.2 = 0 then (if (bt238.1.length : Int) = 21 then (if 0 < (bt238.1.length : Int) then (if (rd bt238.1 0) = 256 then (if 20 < (bt238.1.length : Int) then (if (rd bt238.1 20) = 66 then (if bt242.2 = 0 then ((barscanlaw14_same.f kj1 t230 bt242.1).bind fun t251 => (if t251 = true then (if bt246.1 = 14 then (if bt246.2.1 = 14 then (if bt246.2.2 = 0 then ((gs1_Verify.f kj1 (⟨#[49, 55]⟩ : ByteArray) (⟨#[50, 51, 48, 50, 50, 57]⟩ : ByteArray)).bind fun t252 => (some (t252 == 9))) else (some false)) else (some false)) else (some false)) else (some false))) else (some false)) else (some false)) else (none)) else (some false)) else (none)) else (some false)) else (some false)) else (some false)) else (some false))))) = some r := H
    have A13 := Aside0.mk A130
    clear A130
    replace H := Option.bind_eq_some_iff.mp H
    obtain ⟨⟨t238, t239⟩, A140, H⟩ := H
    replace H : ((gs1_FromChars.f kj1 t238).bind fun bt242 => ((gs1_Fixed.f (⟨#[48, 49]⟩ : ByteArray)).bind fun bt246 => (if t237 = 0 then (if t236.toList = ([40, 48, 49, 41, 48, 57, 53, 48, 49, 49, 48, 49, 53, 51, 48, 48, 48, 51, 40, 49, 48, 41, 65, 66] : List UInt8) then (if t239 = 0 then (if (t238.length : Int) = 21 then (if 0 < (t238.length : Int) then (if (rd t238 0) = 256 then (if 20 < (t238.length : Int) then (if (rd t238 20) = 66 then (if bt242.2 = 0 then ((barscanlaw14_same.f kj1 t230 bt242.1).bind fun t251 => (if t251 = true then (if bt246.1 = 14 then (if bt246.2.1 = 14 then (if bt246.2.2 = 0 then ((gs1_Verify.f kj1 (⟨#[49, 55]⟩ : ByteArray) (⟨#[50, 51, 48, 50, 50, 57]⟩ : ByteArray)).bind fun t252 => (some (t252 == 9))) else (some false)) else (some false)) else (some false)) else (some false))) else (some false)) else (some false)) else (none)) else (some false)) else (none)) else (some false)) else (some false)) else (some false)) else (some false)))) = some r := H
    have A14 := Aside0.mk A140
    clear A140
    replace H := Option.bind_eq_some_iff.mp H
    obtain ⟨⟨t242, t245⟩, A150, H⟩ := H
    replace H : ((gs1_Fixed.f (⟨#[48, 49]⟩ : ByteArray)).bind fun bt246 => (if t237 = 0 then (if t236.toList = ([40, 48, 49, 41, 48, 57, 53, 48, 49, 49, 48, 49, 53, 51, 48, 48, 48, 51, 40, 49, 48, 41, 65, 66] : List UInt8) then (if t239 = 0 then (if (t238.length : Int) = 21 then (if 0 < (t238.length : Int) then (if (rd t238 0) = 256 then (if 20 < (t238.length : Int) then (if (rd t238 20) = 66 then (if t245 = 0 then ((barscanlaw14_same.f kj1 t230 t242).bind fun t251 => (if t251 = true then (if bt246.1 = 14 then (if bt246.2.1 = 14 then (if bt246.2.2 = 0 then ((gs1_Verify.f kj1 (⟨#[49, 55]⟩ : ByteArray) (⟨#[50, 51, 48, 50, 50, 57]⟩ : ByteArray)).bind fun t252 => (some (t252 == 9))) else (some false)) else (some false)) else (some false)) else (some false))) else (some false)) else (some false)) else (none)) else (some false)) else (none)) else (some false)) else (some false)) else (some false)) else (some false))) = some r := H
    have A15 := Aside0.mk A150
    clear A150
    replace H := Option.bind_eq_some_iff.mp H
    obtain ⟨⟨t246, t247, t248⟩, A160, H⟩ := H
    replace H : (if t237 = 0 then (if t236.toList = ([40, 48, 49, 41, 48, 57, 53, 48, 49, 49, 48, 49, 53, 51, 48, 48, 48, 51, 40, 49, 48, 41, 65, 66] : List UInt8) then (if t239 = 0 then (if (t238.length : Int) = 21 then (if 0 < (t238.length : Int) then (if (rd t238 0) = 256 then (if 20 < (t238.length : Int) then (if (rd t238 20) = 66 then (if t245 = 0 then ((barscanlaw14_same.f kj1 t230 t242).bind fun t251 => (if t251 = true then (if t246 = 14 then (if t247 = 14 then (if t248 = 0 then ((gs1_Verify.f kj1 (⟨#[49, 55]⟩ : ByteArray) (⟨#[50, 51, 48, 50, 50, 57]⟩ : ByteArray)).bind fun t252 => (some (t252 == 9))) else (some false)) else (some false)) else (some false)) else (some false))) else (some false)) else (some false)) else (none)) else (some false)) else (none)) else (some false)) else (some false)) else (some false)) else (some false)) = some r := H
    have A16 := Aside0.mk A160
    clear A160
    by_cases c17 : t237 = 0
    ·rw [if_pos c17] at H
     have c17b0 : (t237 == 0) = true := beq_iff_eq.mpr c17
     have c17b1 : (t237 != 0) = false := bne_eq_false_iff_eq.mpr c17
     clear c17
     by_cases c18 : t236.toList = ([40, 48, 49, 41, 48, 57, 53, 48, 49, 49, 48, 49, 53, 51, 48, 48, 48, 51, 40, 49, 48, 41, 65, 66] : List UInt8)
     ·rw [if_pos c18] at H
      have c18b0 : (t236.toList == ([40, 48, 49, 41, 48, 57, 53, 48, 49, 49, 48, 49, 53, 51, 48, 48, 48, 51, 40, 49, 48, 41, 65, 66] : List UInt8)) = true := beq_iff_eq.mpr c18
      have c18b1 : (t236.toList != ([40, 48, 49, 41, 48, 57, 53, 48, 49, 49, 48, 49, 53, 51, 48, 48, 48, 51, 40, 49, 48, 41, 65, 66] : List UInt8)) = false := bne_eq_false_iff_eq.mpr c18
      clear c18
      by_cases c19 : t239 = 0
      ·rw [if_pos c19] at H
       have c19b0 : (t239 == 0) = true := beq_iff_eq.mpr c19
       have c19b1 : (t239 != 0) = false := bne_eq_false_iff_eq.mpr c19
       clear c19
       by_cases c20 : (t238.length : Int) = 21
       ·rw [if_pos c20] at H
        have c20b0 : ((t238.length : Int) == 21) = true := beq_iff_eq.mpr c20
        have c20b1 : ((t238.length : Int) != 21) = false := bne_eq_false_iff_eq.mpr c20
        clear c20
        by_cases c21 : 0 < (t238.length : Int)
        ·rw [if_pos c21] at H
         have c21b0 : decide (0 < (t238.length : Int)) = true := decide_eq_true c21
         have c21b1 : decide (0 < t238.length) = true := decide_eq_true (by omega)
         clear c21
         by_cases c22 : (rd t238 0) = 256
         ·rw [if_pos c22] at H
          have c22b0 : ((rd t238 0) == 256) = true := beq_iff_eq.mpr c22
          have c22b1 : ((rd t238 0) != 256) = false := bne_eq_false_iff_eq.mpr c22
          clear c22
          by_cases c23 : 20 < (t238.length : Int)
          ·rw [if_pos c23] at H
           have c23b0 : decide (20 < (t238.length : Int)) = true := decide_eq_true c23
           have c23b1 : decide (20 < t238.length) = true := decide_eq_true (by omega)
           clear c23
           by_cases c24 : (rd t238 20) = 66
           ·rw [if_pos c24] at H
            have c24b0 : ((rd t238 20) == 66) = true := beq_iff_eq.mpr c24
            have c24b1 : ((rd t238 20) != 66) = false := bne_eq_false_iff_eq.mpr c24
            clear c24
            by_cases c25 : t245 = 0
            ·rw [if_pos c25] at H
             have c25b0 : (t245 == 0) = true := beq_iff_eq.mpr c25
             have c25b1 : (t245 != 0) = false := bne_eq_false_iff_eq.mpr c25
             clear c25
             replace H := Option.bind_eq_some_iff.mp H
             obtain ⟨t251, A260, H⟩ := H
             replace H : (if t251 = true then (if t246 = 14 then (if t247 = 14 then (if t248 = 0 then ((gs1_Verify.f kj1 (⟨#[49, 55]⟩ : ByteArray) (⟨#[50, 51, 48, 50, 50, 57]⟩ : ByteArray)).bind fun t252 => (some (t252 == 9))) else (some false)) else (some false)) else (some false)) else (some false)) = some r := H
             have A26 := Aside0.mk A260
             clear A260
             by_cases c27 : t251 = true
             ·subst c27
              have H1 : (if t246 = 14 then (if t247 = 14 then (if t248 = 0 then ((gs1_Verify.f kj1 (⟨#[49, 55]⟩ : ByteArray) (⟨#[50, 51, 48, 50, 50, 57]⟩ : ByteArray)).bind fun t252 => (some (t252 == 9))) else (some false)) else (some false)) else (some false)) = some r := by rw [if_pos rfl] at H; exact H
              clear H
              have H := H1
              clear H1
              by_cases c28 : t246 = 14
              ·rw [if_pos c28] at H
               have c28b0 : (t246 == 14) = true := beq_iff_eq.mpr c28
               have c28b1 : (t246 != 14) = false := bne_eq_false_iff_eq.mpr c28
               clear c28
               by_cases c29 : t247 = 14
               ·rw [if_pos c29] at H
                have c29b0 : (t247 == 14) = true := beq_iff_eq.mpr c29
                have c29b1 : (t247 != 14) = false := bne_eq_false_iff_eq.mpr c29
                clear c29
                by_cases c30 : t248 = 0
                ·rw [if_pos c30] at H
                 have c30b0 : (t248 == 0) = true := beq_iff_eq.mpr c30
                 have c30b1 : (t248 != 0) = false := bne_eq_false_iff_eq.mpr c30
                 clear c30
                 replace H := Option.bind_eq_some_iff.mp H
                 obtain ⟨t252, A310, H⟩ := H
                 replace H : (some (t252 == 9)) = some r := H
                 have A31 := Aside0.mk A310
                 clear A310
                 obtain rfl := Option.some.inj H
                 obtain ⟨Ao32, co32, eo32⟩ := Kd.R_slice HO_1.out
                 subst eo32
                 go_wp2_with (first | ((with_reducible refine gate_callee (f := 14) rfl ?_); refine goesL_ (some 39) rfl rfl Tryz.func14 (by kernel_rfl) rfl #[.slice Ao32 t230.length co32] rfl (by (try simp only [List.map_toArray, List.map_cons, List.map_nil]); first | done | rfl | (simp only [List.length_drop, List.length_take]; rfl)) ?_; (with_reducible refine (gs1_Format.calls kj1 _ _ t230 t236 t237 _ ?side3 ?side1 ?side2 A13.out).mono ?_); (case side1 => repeat (first | exact (Kd.R_reads' HO_1.out).2.2 | (with_reducible refine Kd.C_alloc ?_ _) | (with_reducible refine Kd.C_drewN ?_ _) | (with_reducible refine Kd.C_drew ?_))); (case side2 => exact (Kd.R_reads' HO_1.out).2.1); (case side3 => exact Tabs.below HT.out (by repeat (first | (with_reducible first | exact HB.out | apply below_alloc | apply pw_below_drewN | apply below_drew1) | exact HB.out))); rintro e w33 ⟨rfl, hb⟩; refine ⟨_, rfl, ?_⟩; have n0_ := Aside0.mk (Kd.R_below (by (with_reducible repeat (first | apply Kd.R_alloc | apply Kd.R_drewN | apply Kd.R_drew)); exact HO_1.out) hb); have n1_ := Aside0.mk (below_step (by repeat (first | (with_reducible first | exact HB.out | apply below_alloc | apply pw_below_drewN | apply below_drew1) | exact HB.out)) hb); clear HO_1; clear HB; have HO_1 := n0_; have HB := n1_; clear n0_ n1_; (try clear hb); (try clear hb2); (try clear hk); (try clear hi)) | ((with_reducible refine gate_callee (f := 17) rfl ?_); refine goesL_ (some 44) rfl rfl Tryz.func17 (by kernel_rfl) rfl #[.slice Ao32 t230.length co32] rfl (by (try simp only [List.map_toArray, List.map_cons, List.map_nil]); first | done | rfl | (simp only [List.length_drop, List.length_take]; rfl)) ?_; (with_reducible refine (gs1_Chars.calls kj1 _ _ t230 t238 t239 _ ?side3 ?side1 ?side2 A14.out).mono ?_); (case side1 => repeat (first | exact (Kd.R_reads' HO_1.out).2.2 | (with_reducible refine Kd.C_alloc ?_ _) | (with_reducible refine Kd.C_drewN ?_ _) | (with_reducible refine Kd.C_drew ?_))); (case side2 => exact (Kd.R_reads' HO_1.out).2.1); (case side3 => exact Tabs.below HT.out (by repeat (first | (with_reducible first | exact HB.out | apply below_alloc | apply pw_below_drewN | apply below_drew1) | exact HB.out))); rintro e w34 ⟨v240, rfl, ho0, hb⟩; refine ⟨_, rfl, ?_⟩; have n0_ := Aside0.mk (Kd.R_below (by (with_reducible repeat (first | apply Kd.R_alloc | apply Kd.R_drewN | apply Kd.R_drew)); exact HO_1.out) hb); have n1_ := Aside0.mk (Kd.R_lower ho0 (below_size (by repeat (first | (with_reducible first | exact HB.out | apply below_alloc | apply pw_below_drewN | apply below_drew1) | exact HB.out)))); have n2_ := Aside0.mk (below_step (by repeat (first | (with_reducible first | exact HB.out | apply below_alloc | apply pw_below_drewN | apply below_drew1) | exact HB.out)) hb); clear HO_1; clear HB; have HO_1 := n0_; have HO241 := n1_; have HB := n2_; clear n0_ n1_ n2_; (try clear hb); (try clear hb2); (try clear hk); (try clear hi); (try clear ho0); obtain ⟨Ao35, co35, eo35⟩ := Kd.R_slice HO241.out; subst eo35) | ((with_reducible refine gate_callee (f := 20) rfl ?_); refine goesL_ (some 49) rfl rfl Tryz.func20 (by kernel_rfl) rfl #[.slice Ao35 t238.length co35] rfl (by (try simp only [List.map_toArray, List.map_cons, List.map_nil]); first | done | rfl | (simp only [List.length_drop, List.length_take]; rfl)) ?_; (with_reducible refine (gs1_FromChars.calls kj1 (fun k_ => some k_ = (.slice Ao35 t238.length co35 : Value).ownBlock) _ _ t238 t242 t245 _ ?side2 ?side1 A15.out).mono ?_); (case side1 => exact Kd.R_V (Kd.R_tight rfl (Kd.R_apart' (HO241.out) (Kd.R_typed HO_1.out) (by decide)))); (case side2 => exact Tabs.below HT.out (by repeat (first | (with_reducible first | exact HB.out | apply below_alloc | apply pw_below_drewN | apply below_drew1) | exact HB.out))); rintro e w36 ⟨v243, rfl, ho0, hb⟩; refine ⟨_, rfl, ?_⟩; have n0_ := Aside0.mk (Kd.R_elder' (by (with_reducible repeat (first | apply Kd.R_alloc | apply Kd.R_drewN | apply Kd.R_drew)); exact HO_1.out) (Kd.R_base ho0) hb); have n1_ := Aside0.mk (Kd.R_below (by (with_reducible repeat (first | apply Kd.R_alloc | apply Kd.R_drewN | apply Kd.R_drew)); exact HO241.out) hb); have n2_ := Aside0.mk (Kd.R_lower (Kd.R_new' (Kd.R_mono (ok' := fun k_ => True) ho0 (fun _ hk_ => trivial)) (Kd.R_lt (by (with_reducible repeat (first | apply Kd.R_alloc | apply Kd.R_drewN | apply Kd.R_drew)); exact HO_1.out))) (below_size (by repeat (first | (with_reducible first | exact HB.out | apply below_alloc | apply pw_below_drewN | apply below_drew1) | exact HB.out)))); have n3_ := Aside0.mk (below_step (by repeat (first | (with_reducible first | exact HB.out | apply below_alloc | apply pw_below_drewN | apply below_drew1) | exact HB.out)) hb); clear HO_1; clear HO241; clear HB; have HO_1 := n0_; have HO241 := n1_; have HO244 := n2_; have HB := n3_; clear n0_ n1_ n2_ n3_; (try clear hb); (try clear hb2); (try clear hk); (try clear hi); (try clear ho0)) | ((with_reducible refine gate_callee (f := 7) rfl ?_); refine goesL_ (some 53) rfl rfl Tryz.func7 (by kernel_rfl) rfl #[.string (⟨#[48, 49]⟩ : ByteArray)] rfl (by (try simp only [List.map_toArray, List.map_cons, List.map_nil]); first | done | rfl | (simp only [List.length_drop, List.length_take]; rfl)) ?_; (with_reducible refine (gs1_Fixed.calls (⟨#[48, 49]⟩ : ByteArray) t246 t247 t248 _ ?side1 A16.out).mono ?_); (case side1 => exact Tabs.below HT.out (by repeat (first | (with_reducible first | exact HB.out | apply below_alloc | apply pw_below_drewN | apply below_drew1) | exact HB.out))); rintro e w37 ⟨rfl, hb⟩; refine ⟨_, rfl, ?_⟩; have n0_ := Aside0.mk (Kd.R_below (by (with_reducible repeat (first | apply Kd.R_alloc | apply Kd.R_drewN | apply Kd.R_drew)); exact HO_1.out) hb); have n1_ := Aside0.mk (Kd.R_below (by (with_reducible repeat (first | apply Kd.R_alloc | apply Kd.R_drewN | apply Kd.R_drew)); exact HO241.out) hb); have n2_ := Aside0.mk (Kd.R_below (by (with_reducible repeat (first | apply Kd.R_alloc | apply Kd.R_drewN | apply Kd.R_drew)); exact HO244.out) hb); have n3_ := Aside0.mk (below_step (by repeat (first | (with_reducible first | exact HB.out | apply below_alloc | apply pw_below_drewN | apply below_drew1) | exact HB.out)) hb); clear HO_1; clear HO241; clear HO244; clear HB; have HO_1 := n0_; have HO241 := n1_; have HO244 := n2_; have HB := n3_; clear n0_ n1_ n2_ n3_; (try clear hb); (try clear hb2); (try clear hk); (try clear hi); have p249 : 0 ≤ (0 : Int) := (by omega); have q249 : 0 < (t238.length : Int) := of_decide_eq_true (by first | (with_reducible assumption) | assumption); obtain ⟨ad249, e249, hx249_0⟩ := Kd.at_int (Kd.R_reads' HO241.out).2.2 0 p249 q249; cases e249; have qi249 : (0 < t238.length) = True := eq_true (by omega); (try rw [show ((0 : Int)).toNat = 0 from rfl] at hx249_0); (try rw [Addr.add_zero'] at hx249_0); replace p249 := eq_true p249; replace q249 := eq_true q249; have p250 : 0 ≤ (20 : Int) := (by omega); have q250 : 20 < (t238.length : Int) := of_decide_eq_true (by first | (with_reducible assumption) | assumption); obtain ⟨ad250, e250, hx250_0⟩ := Kd.at_int (Kd.R_reads' HO241.out).2.2 20 p250 q250; obtain rfl : ad249 = ad250 := (by injection e250); (try simp only [show (20 : Int).toNat = 20 from rfl, Nat.reduceMul, Nat.reduceEqDiff, Go.Addr.add, ↓reduceIte] at hx250_0); have qi250 : (20 < t238.length) = True := eq_true (by omega); (try rw [show ((20 : Int)).toNat = 20 from rfl] at hx250_0); replace p250 := eq_true p250; replace q250 := eq_true q250; obtain ⟨Ao38, co38, eo38⟩ := Kd.R_slice HO244.out; subst eo38) | (go_at_call 16; (with_reducible refine (barscanlaw14_same.calls kj1 _ _ t230 _ _ t242 true _ ?side1 ?side2 ?side3 ?side4 A26.out).mono ?_); (case side1 => repeat (first | exact (Kd.R_reads' HO_1.out).2.2 | (with_reducible refine Kd.C_alloc ?_ _) | (with_reducible refine Kd.C_drewN ?_ _) | (with_reducible refine Kd.C_drew ?_))); (case side2 => exact (Kd.R_reads' HO_1.out).2.1); (case side3 => repeat (first | exact (Kd.R_reads' HO244.out).2.2 | (with_reducible refine Kd.C_alloc ?_ _) | (with_reducible refine Kd.C_drewN ?_ _) | (with_reducible refine Kd.C_drew ?_))); (case side4 => exact (Kd.R_reads' HO244.out).2.1); rintro e w' ⟨rfl, ⟨nd, rfl⟩⟩) | (go_at_call 9; (with_reducible refine (gs1_Verify.calls kj1 (⟨#[49, 55]⟩ : ByteArray) (⟨#[50, 51, 48, 50, 50, 57]⟩ : ByteArray) t252 _ ?side1 A31.out).mono ?_); (case side1 => exact Tabs.below HT.out (by repeat (first | (with_reducible first | exact HB.out | apply below_alloc | apply pw_below_drewN | apply below_drew1) | exact HB.out))); rintro e w39 ⟨rfl, hb⟩; have n0_ := Aside0.mk (Kd.R_below (by (with_reducible repeat (first | apply Kd.R_alloc | apply Kd.R_drewN | apply Kd.R_drew)); exact HO_1.out) hb); have n1_ := Aside0.mk (Kd.R_below (by (with_reducible repeat (first | apply Kd.R_alloc | apply Kd.R_drewN | apply Kd.R_drew)); exact HO241.out) hb); have n2_ := Aside0.mk (Kd.R_below (by (with_reducible repeat (first | apply Kd.R_alloc | apply Kd.R_drewN | apply Kd.R_drew)); exact HO244.out) hb); have n3_ := Aside0.mk (below_step (by repeat (first | (with_reducible first | exact HB.out | apply below_alloc | apply pw_below_drewN | apply below_drew1) | exact HB.out)) hb); clear HO_1; clear HO241; clear HO244; clear HB; have HO_1 := n0_; have HO241 := n1_; have HO244 := n2_; have HB := n3_; clear n0_ n1_ n2_ n3_; (try clear hb); (try clear hb2); (try clear hk); (try clear hi)))
                 go_ret
                 exact ⟨by first | rfl | (simp [errW_none, errW_some] <;> rfl) | (simp [*, errW_none, errW_some] <;> rfl), by repeat (first | (with_reducible first | exact HB.out | apply below_alloc | apply pw_below_drewN | apply below_drew1) | exact HB.out)⟩
                ·rw [if_neg c30] at H
                 have c30b0 : (t248 == 0) = false := beq_eq_false_iff_ne.mpr c30
                 have c30b1 : (t248 != 0) = true := bne_iff_ne.mpr c30
                 obtain rfl := Option.some.inj H
                 obtain ⟨Ao40, co40, eo40⟩ := Kd.R_slice HO_1.out
                 subst eo40
                 go_wp2_with (first | ((with_reducible refine gate_callee (f := 14) rfl ?_); refine goesL_ (some 39) rfl rfl Tryz.func14 (by kernel_rfl) rfl #[.slice Ao40 t230.length co40] rfl (by (try simp only [List.map_toArray, List.map_cons, List.map_nil]); first | done | rfl | (simp only [List.length_drop, List.length_take]; rfl)) ?_; (with_reducible refine (gs1_Format.calls kj1 _ _ t230 t236 t237 _ ?side3 ?side1 ?side2 A13.out).mono ?_); (case side1 => repeat (first | exact (Kd.R_reads' HO_1.out).2.2 | (with_reducible refine Kd.C_alloc ?_ _) | (with_reducible refine Kd.C_drewN ?_ _) | (with_reducible refine Kd.C_drew ?_))); (case side2 => exact (Kd.R_reads' HO_1.out).2.1); (case side3 => exact Tabs.below HT.out (by repeat (first | (with_reducible first | exact HB.out | apply below_alloc | apply pw_below_drewN | apply below_drew1) | exact HB.out))); rintro e w41 ⟨rfl, hb⟩; refine ⟨_, rfl, ?_⟩; have n0_ := Aside0.mk (Kd.R_below (by (with_reducible repeat (first | apply Kd.R_alloc | apply Kd.R_drewN | apply Kd.R_drew)); exact HO_1.out) hb); have n1_ := Aside0.mk (below_step (by repeat (first | (with_reducible first | exact HB.out | apply below_alloc | apply pw_below_drewN | apply below_drew1) | exact HB.out)) hb); clear HO_1; clear HB; have HO_1 := n0_; have HB := n1_; clear n0_ n1_; (try clear hb); (try clear hb2); (try clear hk); (try clear hi)) | ((with_reducible refine gate_callee (f := 17) rfl ?_); refine goesL_ (some 44) rfl rfl Tryz.func17 (by kernel_rfl) rfl #[.slice Ao40 t230.length co40] rfl (by (try simp only [List.map_toArray, List.map_cons, List.map_nil]); first | done | rfl | (simp only [List.length_drop, List.length_take]; rfl)) ?_; (with_reducible refine (gs1_Chars.calls kj1 _ _ t230 t238 t239 _ ?side3 ?side1 ?side2 A14.out).mono ?_); (case side1 => repeat (first | exact (Kd.R_reads' HO_1.out).2.2 | (with_reducible refine Kd.C_alloc ?_ _) | (with_reducible refine Kd.C_drewN ?_ _) | (with_reducible refine Kd.C_drew ?_))); (case side2 => exact (Kd.R_reads' HO_1.out).2.1); (case side3 => exact Tabs.below HT.out (by repeat (first | (with_reducible first | exact HB.out | apply below_alloc | apply pw_below_drewN | apply below_drew1) | exact HB.out))); rintro e w42 ⟨v240, rfl, ho0, hb⟩; refine ⟨_, rfl, ?_⟩; have n0_ := Aside0.mk (Kd.R_below (by (with_reducible repeat (first | apply Kd.R_alloc | apply Kd.R_drewN | apply Kd.R_drew)); exact HO_1.out) hb); have n1_ := Aside0.mk (Kd.R_lower ho0 (below_size (by repeat (first | (with_reducible first | exact HB.out | apply below_alloc | apply pw_below_drewN | apply below_drew1) | exact HB.out)))); have n2_ := Aside0.mk (below_step (by repeat (first | (with_reducible first | exact HB.out | apply below_alloc | apply pw_below_drewN | apply below_drew1) | exact HB.out)) hb); clear HO_1; clear HB; have HO_1 := n0_; have HO241 := n1_; have HB := n2_; clear n0_ n1_ n2_; (try clear hb); (try clear hb2); (try clear hk); (try clear hi); (try clear ho0); obtain ⟨Ao43, co43, eo43⟩ := Kd.R_slice HO241.out; subst eo43) | ((with_reducible refine gate_callee (f := 20) rfl ?_); refine goesL_ (some 49) rfl rfl Tryz.func20 (by kernel_rfl) rfl #[.slice Ao43 t238.length co43] rfl (by (try simp only [List.map_toArray, List.map_cons, List.map_nil]); first | done | rfl | (simp only [List.length_drop, List.length_take]; rfl)) ?_; (with_reducible refine (gs1_FromChars.calls kj1 (fun k_ => some k_ = (.slice Ao43 t238.length co43 : Value).ownBlock) _ _ t238 t242 t245 _ ?side2 ?side1 A15.out).mono ?_); (case side1 => exact Kd.R_V (Kd.R_tight rfl (Kd.R_apart' (HO241.out) (Kd.R_typed HO_1.out) (by decide)))); (case side2 => exact Tabs.below HT.out (by repeat (first | (with_reducible first | exact HB.out | apply below_alloc | apply pw_below_drewN | apply below_drew1) | exact HB.out))); rintro e w44 ⟨v243, rfl, ho0, hb⟩; refine ⟨_, rfl, ?_⟩; have n0_ := Aside0.mk (Kd.R_elder' (by (with_reducible repeat (first | apply Kd.R_alloc | apply Kd.R_drewN | apply Kd.R_drew)); exact HO_1.out) (Kd.R_base ho0) hb); have n1_ := Aside0.mk (Kd.R_below (by (with_reducible repeat (first | apply Kd.R_alloc | apply Kd.R_drewN | apply Kd.R_drew)); exact HO241.out) hb); have n2_ := Aside0.mk (Kd.R_lower (Kd.R_new' (Kd.R_mono (ok' := fun k_ => True) ho0 (fun _ hk_ => trivial)) (Kd.R_lt (by (with_reducible repeat (first | apply Kd.R_alloc | apply Kd.R_drewN | apply Kd.R_drew)); exact HO_1.out))) (below_size (by repeat (first | (with_reducible first | exact HB.out | apply below_alloc | apply pw_below_drewN | apply below_drew1) | exact HB.out)))); have n3_ := Aside0.mk (below_step (by repeat (first | (with_reducible first | exact HB.out | apply below_alloc | apply pw_below_drewN | apply below_drew1) | exact HB.out)) hb); clear HO_1; clear HO241; clear HB; have HO_1 := n0_; have HO241 := n1_; have HO244 := n2_; have HB := n3_; clear n0_ n1_ n2_ n3_; (try clear hb); (try clear hb2); (try clear hk); (try clear hi); (try clear ho0)) | ((with_reducible refine gate_callee (f := 7) rfl ?_); refine goesL_ (some 53) rfl rfl Tryz.func7 (by kernel_rfl) rfl #[.string (⟨#[48, 49]⟩ : ByteArray)] rfl (by (try simp only [List.map_toArray, List.map_cons, List.map_nil]); first | done | rfl | (simp only [List.length_drop, List.length_take]; rfl)) ?_; (with_reducible refine (gs1_Fixed.calls (⟨#[48, 49]⟩ : ByteArray) t246 t247 t248 _ ?side1 A16.out).mono ?_); (case side1 => exact Tabs.below HT.out (by repeat (first | (with_reducible first | exact HB.out | apply below_alloc | apply pw_below_drewN | apply below_drew1) | exact HB.out))); rintro e w45 ⟨rfl, hb⟩; refine ⟨_, rfl, ?_⟩; have n0_ := Aside0.mk (Kd.R_below (by (with_reducible repeat (first | apply Kd.R_alloc | apply Kd.R_drewN | apply Kd.R_drew)); exact HO_1.out) hb); have n1_ := Aside0.mk (Kd.R_below (by (with_reducible repeat (first | apply Kd.R_alloc | apply Kd.R_drewN | apply Kd.R_drew)); exact HO241.out) hb); have n2_ := Aside0.mk (Kd.R_below (by (with_reducible repeat (first | apply Kd.R_alloc | apply Kd.R_drewN | apply Kd.R_drew)); exact HO244.out) hb); have n3_ := Aside0.mk (below_step (by repeat (first | (with_reducible first | exact HB.out | apply below_alloc | apply pw_below_drewN | apply below_drew1) | exact HB.out)) hb); clear HO_1; clear HO241; clear HO244; clear HB; have HO_1 := n0_; have HO241 := n1_; have HO244 := n2_; have HB := n3_; clear n0_ n1_ n2_ n3_; (try clear hb); (try clear hb2); (try clear hk); (try clear hi); have p249 : 0 ≤ (0 : Int) := (by omega); have q249 : 0 < (t238.length : Int) := of_decide_eq_true (by first | (with_reducible assumption) | assumption); obtain ⟨ad249, e249, hx249_0⟩ := Kd.at_int (Kd.R_reads' HO241.out).2.2 0 p249 q249; cases e249; have qi249 : (0 < t238.length) = True := eq_true (by omega); (try rw [show ((0 : Int)).toNat = 0 from rfl] at hx249_0); (try rw [Addr.add_zero'] at hx249_0); replace p249 := eq_true p249; replace q249 := eq_true q249; have p250 : 0 ≤ (20 : Int) := (by omega); have q250 : 20 < (t238.length : Int) := of_decide_eq_true (by first | (with_reducible assumption) | assumption); obtain ⟨ad250, e250, hx250_0⟩ := Kd.at_int (Kd.R_reads' HO241.out).2.2 20 p250 q250; obtain rfl : ad249 = ad250 := (by injection e250); (try simp only [show (20 : Int).toNat = 20 from rfl, Nat.reduceMul, Nat.reduceEqDiff, Go.Addr.add, ↓reduceIte] at hx250_0); have qi250 : (20 < t238.length) = True := eq_true (by omega); (try rw [show ((20 : Int)).toNat = 20 from rfl] at hx250_0); replace p250 := eq_true p250; replace q250 := eq_true q250; obtain ⟨Ao46, co46, eo46⟩ := Kd.R_slice HO244.out; subst eo46) | (go_at_call 16; (with_reducible refine (barscanlaw14_same.calls kj1 _ _ t230 _ _ t242 true _ ?side1 ?side2 ?side3 ?side4 A26.out).mono ?_); (case side1 => repeat (first | exact (Kd.R_reads' HO_1.out).2.2 | (with_reducible refine Kd.C_alloc ?_ _) | (with_reducible refine Kd.C_drewN ?_ _) | (with_reducible refine Kd.C_drew ?_))); (case side2 => exact (Kd.R_reads' HO_1.out).2.1); (case side3 => repeat (first | exact (Kd.R_reads' HO244.out).2.2 | (with_reducible refine Kd.C_alloc ?_ _) | (with_reducible refine Kd.C_drewN ?_ _) | (with_reducible refine Kd.C_drew ?_))); (case side4 => exact (Kd.R_reads' HO244.out).2.1); rintro e w' ⟨rfl, ⟨nd, rfl⟩⟩))
                 go_ret
                 exact ⟨by first | rfl | (simp [errW_none, errW_some] <;> rfl) | (simp [*, errW_none, errW_some] <;> rfl), by repeat (first | (with_reducible first | exact HB.out | apply below_alloc | apply pw_below_drewN | apply below_drew1) | exact HB.out)⟩
               ·rw [if_neg c29] at H
                have c29b0 : (t247 == 14) = false := beq_eq_false_iff_ne.mpr c29
                have c29b1 : (t247 != 14) = true := bne_iff_ne.mpr c29
                obtain rfl := Option.some.inj H
                obtain ⟨Ao47, co47, eo47⟩ := Kd.R_slice HO_1.out
                subst eo47
                go_wp2_with (first | ((with_reducible refine gate_callee (f := 14) rfl ?_); refine goesL_ (some 39) rfl rfl Tryz.func14 (by kernel_rfl) rfl #[.slice Ao47 t230.length co47] rfl (by (try simp only [List.map_toArray, List.map_cons, List.map_nil]); first | done | rfl | (simp only [List.length_drop, List.length_take]; rfl)) ?_; (with_reducible refine (gs1_Format.calls kj1 _ _ t230 t236 t237 _ ?side3 ?side1 ?side2 A13.out).mono ?_); (case side1 => repeat (first | exact (Kd.R_reads' HO_1.out).2.2 | (with_reducible refine Kd.C_alloc ?_ _) | (with_reducible refine Kd.C_drewN ?_ _) | (with_reducible refine Kd.C_drew ?_))); (case side2 => exact (Kd.R_reads' HO_1.out).2.1); (case side3 => exact Tabs.below HT.out (by repeat (first | (with_reducible first | exact HB.out | apply below_alloc | apply pw_below_drewN | apply below_drew1) | exact HB.out))); rintro e w48 ⟨rfl, hb⟩; refine ⟨_, rfl, ?_⟩; have n0_ := Aside0.mk (Kd.R_below (by (with_reducible repeat (first | apply Kd.R_alloc | apply Kd.R_drewN | apply Kd.R_drew)); exact HO_1.out) hb); have n1_ := Aside0.mk (below_step (by repeat (first | (with_reducible first | exact HB.out | apply below_alloc | apply pw_below_drewN | apply below_drew1) | exact HB.out)) hb); clear HO_1; clear HB; have HO_1 := n0_; have HB := n1_; clear n0_ n1_; (try clear hb); (try clear hb2); (try clear hk); (try clear hi)) | ((with_reducible refine gate_callee (f := 17) rfl ?_); refine goesL_ (some 44) rfl rfl Tryz.func17 (by kernel_rfl) rfl #[.slice Ao47 t230.length co47] rfl (by (try simp only [List.map_toArray, List.map_cons, List.map_nil]); first | done | rfl | (simp only [List.length_drop, List.length_take]; rfl)) ?_; (with_reducible refine (gs1_Chars.calls kj1 _ _ t230 t238 t239 _ ?side3 ?side1 ?side2 A14.out).mono ?_); (case side1 => repeat (first | exact (Kd.R_reads' HO_1.out).2.2 | (with_reducible refine Kd.C_alloc ?_ _) | (with_reducible refine Kd.C_drewN ?_ _) | (with_reducible refine Kd.C_drew ?_))); (case side2 => exact (Kd.R_reads' HO_1.out).2.1); (case side3 => exact Tabs.below HT.out (by repeat (first | (with_reducible first | exact HB.out | apply below_alloc | apply pw_below_drewN | apply below_drew1) | exact HB.out))); rintro e w49 ⟨v240, rfl, ho0, hb⟩; refine ⟨_, rfl, ?_⟩; have n0_ := Aside0.mk (Kd.R_below (by (with_reducible repeat (first | apply Kd.R_alloc | apply Kd.R_drewN | apply Kd.R_drew)); exact HO_1.out) hb); have n1_ := Aside0.mk (Kd.R_lower ho0 (below_size (by repeat (first | (with_reducible first | exact HB.out | apply below_alloc | apply pw_below_drewN | apply below_drew1) | exact HB.out)))); have n2_ := Aside0.mk (below_step (by repeat (first | (with_reducible first | exact HB.out | apply below_alloc | apply pw_below_drewN | apply below_drew1) | exact HB.out)) hb); clear HO_1; clear HB; have HO_1 := n0_; have HO241 := n1_; have HB := n2_; clear n0_ n1_ n2_; (try clear hb); (try clear hb2); (try clear hk); (try clear hi); (try clear ho0); obtain ⟨Ao50, co50, eo50⟩ := Kd.R_slice HO241.out; subst eo50) | ((with_reducible refine gate_callee (f := 20) rfl ?_); refine goesL_ (some 49) rfl rfl Tryz.func20 (by kernel_rfl) rfl #[.slice Ao50 t238.length co50] rfl (by (try simp only [List.map_toArray, List.map_cons, List.map_nil]); first | done | rfl | (simp only [List.length_drop, List.length_take]; rfl)) ?_; (with_reducible refine (gs1_FromChars.calls kj1 (fun k_ => some k_ = (.slice Ao50 t238.length co50 : Value).ownBlock) _ _ t238 t242 t245 _ ?side2 ?side1 A15.out).mono ?_); (case side1 => exact Kd.R_V (Kd.R_tight rfl (Kd.R_apart' (HO241.out) (Kd.R_typed HO_1.out) (by decide)))); (case side2 => exact Tabs.below HT.out (by repeat (first | (with_reducible first | exact HB.out | apply below_alloc | apply pw_below_drewN | apply below_drew1) | exact HB.out))); rintro e w51 ⟨v243, rfl, ho0, hb⟩; refine ⟨_, rfl, ?_⟩; have n0_ := Aside0.mk (Kd.R_elder' (by (with_reducible repeat (first | apply Kd.R_alloc | apply Kd.R_drewN | apply Kd.R_drew)); exact HO_1.out) (Kd.R_base ho0) hb); have n1_ := Aside0.mk (Kd.R_below (by (with_reducible repeat (first | apply Kd.R_alloc | apply Kd.R_drewN | apply Kd.R_drew)); exact HO241.out) hb); have n2_ := Aside0.mk (Kd.R_lower (Kd.R_new' (Kd.R_mono (ok' := fun k_ => True) ho0 (fun _ hk_ => trivial)) (Kd.R_lt (by (with_reducible repeat (first | apply Kd.R_alloc | apply Kd.R_drewN | apply Kd.R_drew)); exact HO_1.out))) (below_size (by repeat (first | (with_reducible first | exact HB.out | apply below_alloc | apply pw_below_drewN | apply below_drew1) | exact HB.out)))); have n3_ := Aside0.mk (below_step (by repeat (first | (with_reducible first | exact HB.out | apply below_alloc | apply pw_below_drewN | apply below_drew1) | exact HB.out)) hb); clear HO_1; clear HO241; clear HB; have HO_1 := n0_; have HO241 := n1_; have HO244 := n2_; have HB := n3_; clear n0_ n1_ n2_ n3_; (try clear hb); (try clear hb2); (try clear hk); (try clear hi); (try clear ho0)) | ((with_reducible refine gate_callee (f := 7) rfl ?_); refine goesL_ (some 53) rfl rfl Tryz.func7 (by kernel_rfl) rfl #[.string (⟨#[48, 49]⟩ : ByteArray)] rfl (by (try simp only [List.map_toArray, List.map_cons, List.map_nil]); first | done | rfl | (simp only [List.length_drop, List.length_take]; rfl)) ?_; (with_reducible refine (gs1_Fixed.calls (⟨#[48, 49]⟩ : ByteArray) t246 t247 t248 _ ?side1 A16.out).mono ?_); (case side1 => exact Tabs.below HT.out (by repeat (first | (with_reducible first | exact HB.out | apply below_alloc | apply pw_below_drewN | apply below_drew1) | exact HB.out))); rintro e w52 ⟨rfl, hb⟩; refine ⟨_, rfl, ?_⟩; have n0_ := Aside0.mk (Kd.R_below (by (with_reducible repeat (first | apply Kd.R_alloc | apply Kd.R_drewN | apply Kd.R_drew)); exact HO_1.out) hb); have n1_ := Aside0.mk (Kd.R_below (by (with_reducible repeat (first | apply Kd.R_alloc | apply Kd.R_drewN | apply Kd.R_drew)); exact HO241.out) hb); have n2_ := Aside0.mk (Kd.R_below (by (with_reducible repeat (first | apply Kd.R_alloc | apply Kd.R_drewN | apply Kd.R_drew)); exact HO244.out) hb); have n3_ := Aside0.mk (below_step (by repeat (first | (with_reducible first | exact HB.out | apply below_alloc | apply pw_below_drewN | apply below_drew1) | exact HB.out)) hb); clear HO_1; clear HO241; clear HO244; clear HB; have HO_1 := n0_; have HO241 := n1_; have HO244 := n2_; have HB := n3_; clear n0_ n1_ n2_ n3_; (try clear hb); (try clear hb2); (try clear hk); (try clear hi); have p249 : 0 ≤ (0 : Int) := (by omega); have q249 : 0 < (t238.length : Int) := of_decide_eq_true (by first | (with_reducible assumption) | assumption); obtain ⟨ad249, e249, hx249_0⟩ := Kd.at_int (Kd.R_reads' HO241.out).2.2 0 p249 q249; cases e249; have qi249 : (0 < t238.length) = True := eq_true (by omega); (try rw [show ((0 : Int)).toNat = 0 from rfl] at hx249_0); (try rw [Addr.add_zero'] at hx249_0); replace p249 := eq_true p249; replace q249 := eq_true q249; have p250 : 0 ≤ (20 : Int) := (by omega); have q250 : 20 < (t238.length : Int) := of_decide_eq_true (by first | (with_reducible assumption) | assumption); obtain ⟨ad250, e250, hx250_0⟩ := Kd.at_int (Kd.R_reads' HO241.out).2.2 20 p250 q250; obtain rfl : ad249 = ad250 := (by injection e250); (try simp only [show (20 : Int).toNat = 20 from rfl, Nat.reduceMul, Nat.reduceEqDiff, Go.Addr.add, ↓reduceIte] at hx250_0); have qi250 : (20 < t238.length) = True := eq_true (by omega); (try rw [show ((20 : Int)).toNat = 20 from rfl] at hx250_0); replace p250 := eq_true p250; replace q250 := eq_true q250; obtain ⟨Ao53, co53, eo53⟩ := Kd.R_slice HO244.out; subst eo53) | (go_at_call 16; (with_reducible refine (barscanlaw14_same.calls kj1 _ _ t230 _ _ t242 true _ ?side1 ?side2 ?side3 ?side4 A26.out).mono ?_); (case side1 => repeat (first | exact (Kd.R_reads' HO_1.out).2.2 | (with_reducible refine Kd.C_alloc ?_ _) | (with_reducible refine Kd.C_drewN ?_ _) | (with_reducible refine Kd.C_drew ?_))); (case side2 => exact (Kd.R_reads' HO_1.out).2.1); (case side3 => repeat (first | exact (Kd.R_reads' HO244.out).2.2 | (with_reducible refine Kd.C_alloc ?_ _) | (with_reducible refine Kd.C_drewN ?_ _) | (with_reducible refine Kd.C_drew ?_))); (case side4 => exact (Kd.R_reads' HO244.out).2.1); rintro e w' ⟨rfl, ⟨nd, rfl⟩⟩))
                go_ret
                exact ⟨by first | rfl | (simp [errW_none, errW_some] <;> rfl) | (simp [*, errW_none, errW_some] <;> rfl), by repeat (first | (with_reducible first | exact HB.out | apply below_alloc | apply pw_below_drewN | apply below_drew1) | exact HB.out)⟩
              ·rw [if_neg c28] at H
               have c28b0 : (t246 == 14) = false := beq_eq_false_iff_ne.mpr c28
               have c28b1 : (t246 != 14) = true := bne_iff_ne.mpr c28
               obtain rfl := Option.some.inj H
               obtain ⟨Ao54, co54, eo54⟩ := Kd.R_slice HO_1.out
               subst eo54
               go_wp2_with (first | ((with_reducible refine gate_callee (f := 14) rfl ?_); refine goesL_ (some 39) rfl rfl Tryz.func14 (by kernel_rfl) rfl #[.slice Ao54 t230.length co54] rfl (by (try simp only [List.map_toArray, List.map_cons, List.map_nil]); first | done | rfl | (simp only [List.length_drop, List.length_take]; rfl)) ?_; (with_reducible refine (gs1_Format.calls kj1 _ _ t230 t236 t237 _ ?side3 ?side1 ?side2 A13.out).mono ?_); (case side1 => repeat (first | exact (Kd.R_reads' HO_1.out).2.2 | (with_reducible refine Kd.C_alloc ?_ _) | (with_reducible refine Kd.C_drewN ?_ _) | (with_reducible refine Kd.C_drew ?_))); (case side2 => exact (Kd.R_reads' HO_1.out).2.1); (case side3 => exact Tabs.below HT.out (by repeat (first | (with_reducible first | exact HB.out | apply below_alloc | apply pw_below_drewN | apply below_drew1) | exact HB.out))); rintro e w55 ⟨rfl, hb⟩; refine ⟨_, rfl, ?_⟩; have n0_ := Aside0.mk (Kd.R_below (by (with_reducible repeat (first | apply Kd.R_alloc | apply Kd.R_drewN | apply Kd.R_drew)); exact HO_1.out) hb); have n1_ := Aside0.mk (below_step (by repeat (first | (with_reducible first | exact HB.out | apply below_alloc | apply pw_below_drewN | apply below_drew1) | exact HB.out)) hb); clear HO_1; clear HB; have HO_1 := n0_; have HB := n1_; clear n0_ n1_; (try clear hb); (try clear hb2); (try clear hk); (try clear hi)) | ((with_reducible refine gate_callee (f := 17) rfl ?_); refine goesL_ (some 44) rfl rfl Tryz.func17 (by kernel_rfl) rfl #[.slice Ao54 t230.length co54] rfl (by (try simp only [List.map_toArray, List.map_cons, List.map_nil]); first | done | rfl | (simp only [List.length_drop, List.length_take]; rfl)) ?_; (with_reducible refine (gs1_Chars.calls kj1 _ _ t230 t238 t239 _ ?side3 ?side1 ?side2 A14.out).mono ?_); (case side1 => repeat (first | exact (Kd.R_reads' HO_1.out).2.2 | (with_reducible refine Kd.C_alloc ?_ _) | (with_reducible refine Kd.C_drewN ?_ _) | (with_reducible refine Kd.C_drew ?_))); (case side2 => exact (Kd.R_reads' HO_1.out).2.1); (case side3 => exact Tabs.below HT.out (by repeat (first | (with_reducible first | exact HB.out | apply below_alloc | apply pw_below_drewN | apply below_drew1) | exact HB.out))); rintro e w56 ⟨v240, rfl, ho0, hb⟩; refine ⟨_, rfl, ?_⟩; have n0_ := Aside0.mk (Kd.R_below (by (with_reducible repeat (first | apply Kd.R_alloc | apply Kd.R_drewN | apply Kd.R_drew)); exact HO_1.out) hb); have n1_ := Aside0.mk (Kd.R_lower ho0 (below_size (by repeat (first | (with_reducible first | exact HB.out | apply below_alloc | apply pw_below_drewN | apply below_drew1) | exact HB.out)))); have n2_ := Aside0.mk (below_step (by repeat (first | (with_reducible first | exact HB.out | apply below_alloc | apply pw_below_drewN | apply below_drew1) | exact HB.out)) hb); clear HO_1; clear HB; have HO_1 := n0_; have HO241 := n1_; have HB := n2_; clear n0_ n1_ n2_; (try clear hb); (try clear hb2); (try clear hk); (try clear hi); (try clear ho0); obtain ⟨Ao57, co57, eo57⟩ := Kd.R_slice HO241.out; subst eo57) | ((with_reducible refine gate_callee (f := 20) rfl ?_); refine goesL_ (some 49) rfl rfl Tryz.func20 (by kernel_rfl) rfl #[.slice Ao57 t238.length co57] rfl (by (try simp only [List.map_toArray, List.map_cons, List.map_nil]); first | done | rfl | (simp only [List.length_drop, List.length_take]; rfl)) ?_; (with_reducible refine (gs1_FromChars.calls kj1 (fun k_ => some k_ = (.slice Ao57 t238.length co57 : Value).ownBlock) _ _ t238 t242 t245 _ ?side2 ?side1 A15.out).mono ?_); (case side1 => exact Kd.R_V (Kd.R_tight rfl (Kd.R_apart' (HO241.out) (Kd.R_typed HO_1.out) (by decide)))); (case side2 => exact Tabs.below HT.out (by repeat (first | (with_reducible first | exact HB.out | apply below_alloc | apply pw_below_drewN | apply below_drew1) | exact HB.out))); rintro e w58 ⟨v243, rfl, ho0, hb⟩; refine ⟨_, rfl, ?_⟩; have n0_ := Aside0.mk (Kd.R_elder' (by (with_reducible repeat (first | apply Kd.R_alloc | apply Kd.R_drewN | apply Kd.R_drew)); exact HO_1.out) (Kd.R_base ho0) hb); have n1_ := Aside0.mk (Kd.R_below (by (with_reducible repeat (first | apply Kd.R_alloc | apply Kd.R_drewN | apply Kd.R_drew)); exact HO241.out) hb); have n2_ := Aside0.mk (Kd.R_lower (Kd.R_new' (Kd.R_mono (ok' := fun k_ => True) ho0 (fun _ hk_ => trivial)) (Kd.R_lt (by (with_reducible repeat (first | apply Kd.R_alloc | apply Kd.R_drewN | apply Kd.R_drew)); exact HO_1.out))) (below_size (by repeat (first | (with_reducible first | exact HB.out | apply below_alloc | apply pw_below_drewN | apply below_drew1) | exact HB.out)))); have n3_ := Aside0.mk (below_step (by repeat (first | (with_reducible first | exact HB.out | apply below_alloc | apply pw_below_drewN | apply below_drew1) | exact HB.out)) hb); clear HO_1; clear HO241; clear HB; have HO_1 := n0_; have HO241 := n1_; have HO244 := n2_; have HB := n3_; clear n0_ n1_ n2_ n3_; (try clear hb); (try clear hb2); (try clear hk); (try clear hi); (try clear ho0)) | ((with_reducible refine gate_callee (f := 7) rfl ?_); refine goesL_ (some 53) rfl rfl Tryz.func7 (by kernel_rfl) rfl #[.string (⟨#[48, 49]⟩ : ByteArray)] rfl (by (try simp only [List.map_toArray, List.map_cons, List.map_nil]); first | done | rfl | (simp only [List.length_drop, List.length_take]; rfl)) ?_; (with_reducible refine (gs1_Fixed.calls (⟨#[48, 49]⟩ : ByteArray) t246 t247 t248 _ ?side1 A16.out).mono ?_); (case side1 => exact Tabs.below HT.out (by repeat (first | (with_reducible first | exact HB.out | apply below_alloc | apply pw_below_drewN | apply below_drew1) | exact HB.out))); rintro e w59 ⟨rfl, hb⟩; refine ⟨_, rfl, ?_⟩; have n0_ := Aside0.mk (Kd.R_below (by (with_reducible repeat (first | apply Kd.R_alloc | apply Kd.R_drewN | apply Kd.R_drew)); exact HO_1.out) hb); have n1_ := Aside0.mk (Kd.R_below (by (with_reducible repeat (first | apply Kd.R_alloc | apply Kd.R_drewN | apply Kd.R_drew)); exact HO241.out) hb); have n2_ := Aside0.mk (Kd.R_below (by (with_reducible repeat (first | apply Kd.R_alloc | apply Kd.R_drewN | apply Kd.R_drew)); exact HO244.out) hb); have n3_ := Aside0.mk (below_step (by repeat (first | (with_reducible first | exact HB.out | apply below_alloc | apply pw_below_drewN | apply below_drew1) | exact HB.out)) hb); clear HO_1; clear HO241; clear HO244; clear HB; have HO_1 := n0_; have HO241 := n1_; have HO244 := n2_; have HB := n3_; clear n0_ n1_ n2_ n3_; (try clear hb); (try clear hb2); (try clear hk); (try clear hi); have p249 : 0 ≤ (0 : Int) := (by omega); have q249 : 0 < (t238.length : Int) := of_decide_eq_true (by first | (with_reducible assumption) | assumption); obtain ⟨ad249, e249, hx249_0⟩ := Kd.at_int (Kd.R_reads' HO241.out).2.2 0 p249 q249; cases e249; have qi249 : (0 < t238.length) = True := eq_true (by omega); (try rw [show ((0 : Int)).toNat = 0 from rfl] at hx249_0); (try rw [Addr.add_zero'] at hx249_0); replace p249 := eq_true p249; replace q249 := eq_true q249; have p250 : 0 ≤ (20 : Int) := (by omega); have q250 : 20 < (t238.length : Int) := of_decide_eq_true (by first | (with_reducible assumption) | assumption); obtain ⟨ad250, e250, hx250_0⟩ := Kd.at_int (Kd.R_reads' HO241.out).2.2 20 p250 q250; obtain rfl : ad249 = ad250 := (by injection e250); (try simp only [show (20 : Int).toNat = 20 from rfl, Nat.reduceMul, Nat.reduceEqDiff, Go.Addr.add, ↓reduceIte] at hx250_0); have qi250 : (20 < t238.length) = True := eq_true (by omega); (try rw [show ((20 : Int)).toNat = 20 from rfl] at hx250_0); replace p250 := eq_true p250; replace q250 := eq_true q250; obtain ⟨Ao60, co60, eo60⟩ := Kd.R_slice HO244.out; subst eo60) | (go_at_call 16; (with_reducible refine (barscanlaw14_same.calls kj1 _ _ t230 _ _ t242 true _ ?side1 ?side2 ?side3 ?side4 A26.out).mono ?_); (case side1 => repeat (first | exact (Kd.R_reads' HO_1.out).2.2 | (with_reducible refine Kd.C_alloc ?_ _) | (with_reducible refine Kd.C_drewN ?_ _) | (with_reducible refine Kd.C_drew ?_))); (case side2 => exact (Kd.R_reads' HO_1.out).2.1); (case side3 => repeat (first | exact (Kd.R_reads' HO244.out).2.2 | (with_reducible refine Kd.C_alloc ?_ _) | (with_reducible refine Kd.C_drewN ?_ _) | (with_reducible refine Kd.C_drew ?_))); (case side4 => exact (Kd.R_reads' HO244.out).2.1); rintro e w' ⟨rfl, ⟨nd, rfl⟩⟩))
               go_ret
               exact ⟨by first | rfl | (simp [errW_none, errW_some] <;> rfl) | (simp [*, errW_none, errW_some] <;> rfl), by repeat (first | (with_reducible first | exact HB.out | apply below_alloc | apply pw_below_drewN | apply below_drew1) | exact HB.out)⟩
             ·replace c27 := Bool.eq_false_iff.mpr c27
              subst c27
              have H1 : (some false) = some r := by rw [if_neg (show ¬ (false = true) by decide)] at H; exact H
              clear H
              have H := H1
              clear H1
              obtain rfl := Option.some.inj H
              obtain ⟨Ao61, co61, eo61⟩ := Kd.R_slice HO_1.out
              subst eo61
              go_wp2_with (first | ((with_reducible refine gate_callee (f := 14) rfl ?_); refine goesL_ (some 39) rfl rfl Tryz.func14 (by kernel_rfl) rfl #[.slice Ao61 t230.length co61] rfl (by (try simp only [List.map_toArray, List.map_cons, List.map_nil]); first | done | rfl | (simp only [List.length_drop, List.length_take]; rfl)) ?_; (with_reducible refine (gs1_Format.calls kj1 _ _ t230 t236 t237 _ ?side3 ?side1 ?side2 A13.out).mono ?_); (case side1 => repeat (first | exact (Kd.R_reads' HO_1.out).2.2 | (with_reducible refine Kd.C_alloc ?_ _) | (with_reducible refine Kd.C_drewN ?_ _) | (with_reducible refine Kd.C_drew ?_))); (case side2 => exact (Kd.R_reads' HO_1.out).2.1); (case side3 => exact Tabs.below HT.out (by repeat (first | (with_reducible first | exact HB.out | apply below_alloc | apply pw_below_drewN | apply below_drew1) | exact HB.out))); rintro e w62 ⟨rfl, hb⟩; refine ⟨_, rfl, ?_⟩; have n0_ := Aside0.mk (Kd.R_below (by (with_reducible repeat (first | apply Kd.R_alloc | apply Kd.R_drewN | apply Kd.R_drew)); exact HO_1.out) hb); have n1_ := Aside0.mk (below_step (by repeat (first | (with_reducible first | exact HB.out | apply below_alloc | apply pw_below_drewN | apply below_drew1) | exact HB.out)) hb); clear HO_1; clear HB; have HO_1 := n0_; have HB := n1_; clear n0_ n1_; (try clear hb); (try clear hb2); (try clear hk); (try clear hi)) | ((with_reducible refine gate_callee (f := 17) rfl ?_); refine goesL_ (some 44) rfl rfl Tryz.func17 (by kernel_rfl) rfl #[.slice Ao61 t230.length co61] rfl (by (try simp only [List.map_toArray, List.map_cons, List.map_nil]); first | done | rfl | (simp only [List.length_drop, List.length_take]; rfl)) ?_; (with_reducible refine (gs1_Chars.calls kj1 _ _ t230 t238 t239 _ ?side3 ?side1 ?side2 A14.out).mono ?_); (case side1 => repeat (first | exact (Kd.R_reads' HO_1.out).2.2 | (with_reducible refine Kd.C_alloc ?_ _) | (with_reducible refine Kd.C_drewN ?_ _) | (with_reducible refine Kd.C_drew ?_))); (case side2 => exact (Kd.R_reads' HO_1.out).2.1); (case side3 => exact Tabs.below HT.out (by repeat (first | (with_reducible first | exact HB.out | apply below_alloc | apply pw_below_drewN | apply below_drew1) | exact HB.out))); rintro e w63 ⟨v240, rfl, ho0, hb⟩; refine ⟨_, rfl, ?_⟩; have n0_ := Aside0.mk (Kd.R_below (by (with_reducible repeat (first | apply Kd.R_alloc | apply Kd.R_drewN | apply Kd.R_drew)); exact HO_1.out) hb); have n1_ := Aside0.mk (Kd.R_lower ho0 (below_size (by repeat (first | (with_reducible first | exact HB.out | apply below_alloc | apply pw_below_drewN | apply below_drew1) | exact HB.out)))); have n2_ := Aside0.mk (below_step (by repeat (first | (with_reducible first | exact HB.out | apply below_alloc | apply pw_below_drewN | apply below_drew1) | exact HB.out)) hb); clear HO_1; clear HB; have HO_1 := n0_; have HO241 := n1_; have HB := n2_; clear n0_ n1_ n2_; (try clear hb); (try clear hb2); (try clear hk); (try clear hi); (try clear ho0); obtain ⟨Ao64, co64, eo64⟩ := Kd.R_slice HO241.out; subst eo64) | ((with_reducible refine gate_callee (f := 20) rfl ?_); refine goesL_ (some 49) rfl rfl Tryz.func20 (by kernel_rfl) rfl #[.slice Ao64 t238.length co64] rfl (by (try simp only [List.map_toArray, List.map_cons, List.map_nil]); first | done | rfl | (simp only [List.length_drop, List.length_take]; rfl)) ?_; (with_reducible refine (gs1_FromChars.calls kj1 (fun k_ => some k_ = (.slice Ao64 t238.length co64 : Value).ownBlock) _ _ t238 t242 t245 _ ?side2 ?side1 A15.out).mono ?_); (case side1 => exact Kd.R_V (Kd.R_tight rfl (Kd.R_apart' (HO241.out) (Kd.R_typed HO_1.out) (by decide)))); (case side2 => exact Tabs.below HT.out (by repeat (first | (with_reducible first | exact HB.out | apply below_alloc | apply pw_below_drewN | apply below_drew1) | exact HB.out))); rintro e w65 ⟨v243, rfl, ho0, hb⟩; refine ⟨_, rfl, ?_⟩; have n0_ := Aside0.mk (Kd.R_elder' (by (with_reducible repeat (first | apply Kd.R_alloc | apply Kd.R_drewN | apply Kd.R_drew)); exact HO_1.out) (Kd.R_base ho0) hb); have n1_ := Aside0.mk (Kd.R_below (by (with_reducible repeat (first | apply Kd.R_alloc | apply Kd.R_drewN | apply Kd.R_drew)); exact HO241.out) hb); have n2_ := Aside0.mk (Kd.R_lower (Kd.R_new' (Kd.R_mono (ok' := fun k_ => True) ho0 (fun _ hk_ => trivial)) (Kd.R_lt (by (with_reducible repeat (first | apply Kd.R_alloc | apply Kd.R_drewN | apply Kd.R_drew)); exact HO_1.out))) (below_size (by repeat (first | (with_reducible first | exact HB.out | apply below_alloc | apply pw_below_drewN | apply below_drew1) | exact HB.out)))); have n3_ := Aside0.mk (below_step (by repeat (first | (with_reducible first | exact HB.out | apply below_alloc | apply pw_below_drewN | apply below_drew1) | exact HB.out)) hb); clear HO_1; clear HO241; clear HB; have HO_1 := n0_; have HO241 := n1_; have HO244 := n2_; have HB := n3_; clear n0_ n1_ n2_ n3_; (try clear hb); (try clear hb2); (try clear hk); (try clear hi); (try clear ho0)) | ((with_reducible refine gate_callee (f := 7) rfl ?_); refine goesL_ (some 53) rfl rfl Tryz.func7 (by kernel_rfl) rfl #[.string (⟨#[48, 49]⟩ : ByteArray)] rfl (by (try simp only [List.map_toArray, List.map_cons, List.map_nil]); first | done | rfl | (simp only [List.length_drop, List.length_take]; rfl)) ?_; (with_reducible refine (gs1_Fixed.calls (⟨#[48, 49]⟩ : ByteArray) t246 t247 t248 _ ?side1 A16.out).mono ?_); (case side1 => exact Tabs.below HT.out (by repeat (first | (with_reducible first | exact HB.out | apply below_alloc | apply pw_below_drewN | apply below_drew1) | exact HB.out))); rintro e w66 ⟨rfl, hb⟩; refine ⟨_, rfl, ?_⟩; have n0_ := Aside0.mk (Kd.R_below (by (with_reducible repeat (first | apply Kd.R_alloc | apply Kd.R_drewN | apply Kd.R_drew)); exact HO_1.out) hb); have n1_ := Aside0.mk (Kd.R_below (by (with_reducible repeat (first | apply Kd.R_alloc | apply Kd.R_drewN | apply Kd.R_drew)); exact HO241.out) hb); have n2_ := Aside0.mk (Kd.R_below (by (with_reducible repeat (first | apply Kd.R_alloc | apply Kd.R_drewN | apply Kd.R_drew)); exact HO244.out) hb); have n3_ := Aside0.mk (below_step (by repeat (first | (with_reducible first | exact HB.out | apply below_alloc | apply pw_below_drewN | apply below_drew1) | exact HB.out)) hb); clear HO_1; clear HO241; clear HO244; clear HB; have HO_1 := n0_; have HO241 := n1_; have HO244 := n2_; have HB := n3_; clear n0_ n1_ n2_ n3_; (try clear hb); (try clear hb2); (try clear hk); (try clear hi); have p249 : 0 ≤ (0 : Int) := (by omega); have q249 : 0 < (t238.length : Int) := of_decide_eq_true (by first | (with_reducible assumption) | assumption); obtain ⟨ad249, e249, hx249_0⟩ := Kd.at_int (Kd.R_reads' HO241.out).2.2 0 p249 q249; cases e249; have qi249 : (0 < t238.length) = True := eq_true (by omega); (try rw [show ((0 : Int)).toNat = 0 from rfl] at hx249_0); (try rw [Addr.add_zero'] at hx249_0); replace p249 := eq_true p249; replace q249 := eq_true q249; have p250 : 0 ≤ (20 : Int) := (by omega); have q250 : 20 < (t238.length : Int) := of_decide_eq_true (by first | (with_reducible assumption) | assumption); obtain ⟨ad250, e250, hx250_0⟩ := Kd.at_int (Kd.R_reads' HO241.out).2.2 20 p250 q250; obtain rfl : ad249 = ad250 := (by injection e250); (try simp only [show (20 : Int).toNat = 20 from rfl, Nat.reduceMul, Nat.reduceEqDiff, Go.Addr.add, ↓reduceIte] at hx250_0); have qi250 : (20 < t238.length) = True := eq_true (by omega); (try rw [show ((20 : Int)).toNat = 20 from rfl] at hx250_0); replace p250 := eq_true p250; replace q250 := eq_true q250; obtain ⟨Ao67, co67, eo67⟩ := Kd.R_slice HO244.out; subst eo67) | (go_at_call 16; (with_reducible refine (barscanlaw14_same.calls kj1 _ _ t230 _ _ t242 false _ ?side1 ?side2 ?side3 ?side4 A26.out).mono ?_); (case side1 => repeat (first | exact (Kd.R_reads' HO_1.out).2.2 | (with_reducible refine Kd.C_alloc ?_ _) | (with_reducible refine Kd.C_drewN ?_ _) | (with_reducible refine Kd.C_drew ?_))); (case side2 => exact (Kd.R_reads' HO_1.out).2.1); (case side3 => repeat (first | exact (Kd.R_reads' HO244.out).2.2 | (with_reducible refine Kd.C_alloc ?_ _) | (with_reducible refine Kd.C_drewN ?_ _) | (with_reducible refine Kd.C_drew ?_))); (case side4 => exact (Kd.R_reads' HO244.out).2.1); rintro e w' ⟨rfl, ⟨nd, rfl⟩⟩))
              go_ret
              exact ⟨by first | rfl | (simp [errW_none, errW_some] <;> rfl) | (simp [*, errW_none, errW_some] <;> rfl), by repeat (first | (with_reducible first | exact HB.out | apply below_alloc | apply pw_below_drewN | apply below_drew1) | exact HB.out)⟩
            ·rw [if_neg c25] at H
             have c25b0 : (t245 == 0) = false := beq_eq_false_iff_ne.mpr c25
             have c25b1 : (t245 != 0) = true := bne_iff_ne.mpr c25
             obtain rfl := Option.some.inj H
             obtain ⟨Ao68, co68, eo68⟩ := Kd.R_slice HO_1.out
             subst eo68
             go_wp2_with (first | ((with_reducible refine gate_callee (f := 14) rfl ?_); refine goesL_ (some 39) rfl rfl Tryz.func14 (by kernel_rfl) rfl #[.slice Ao68 t230.length co68] rfl (by (try simp only [List.map_toArray, List.map_cons, List.map_nil]); first | done | rfl | (simp only [List.length_drop, List.length_take]; rfl)) ?_; (with_reducible refine (gs1_Format.calls kj1 _ _ t230 t236 t237 _ ?side3 ?side1 ?side2 A13.out).mono ?_); (case side1 => repeat (first | exact (Kd.R_reads' HO_1.out).2.2 | (with_reducible refine Kd.C_alloc ?_ _) | (with_reducible refine Kd.C_drewN ?_ _) | (with_reducible refine Kd.C_drew ?_))); (case side2 => exact (Kd.R_reads' HO_1.out).2.1); (case side3 => exact Tabs.below HT.out (by repeat (first | (with_reducible first | exact HB.out | apply below_alloc | apply pw_below_drewN | apply below_drew1) | exact HB.out))); rintro e w69 ⟨rfl, hb⟩; refine ⟨_, rfl, ?_⟩; have n0_ := Aside0.mk (Kd.R_below (by (with_reducible repeat (first | apply Kd.R_alloc | apply Kd.R_drewN | apply Kd.R_drew)); exact HO_1.out) hb); have n1_ := Aside0.mk (below_step (by repeat (first | (with_reducible first | exact HB.out | apply below_alloc | apply pw_below_drewN | apply below_drew1) | exact HB.out)) hb); clear HO_1; clear HB; have HO_1 := n0_; have HB := n1_; clear n0_ n1_; (try clear hb); (try clear hb2); (try clear hk); (try clear hi)) | ((with_reducible refine gate_callee (f := 17) rfl ?_); refine goesL_ (some 44) rfl rfl Tryz.func17 (by kernel_rfl) rfl #[.slice Ao68 t230.length co68] rfl (by (try simp only [List.map_toArray, List.map_cons, List.map_nil]); first | done | rfl | (simp only [List.length_drop, List.length_take]; rfl)) ?_; (with_reducible refine (gs1_Chars.calls kj1 _ _ t230 t238 t239 _ ?side3 ?side1 ?side2 A14.out).mono ?_); (case side1 => repeat (first | exact (Kd.R_reads' HO_1.out).2.2 | (with_reducible refine Kd.C_alloc ?_ _) | (with_reducible refine Kd.C_drewN ?_ _) | (with_reducible refine Kd.C_drew ?_))); (case side2 => exact (Kd.R_reads' HO_1.out).2.1); (case side3 => exact Tabs.below HT.out (by repeat (first | (with_reducible first | exact HB.out | apply below_alloc | apply pw_below_drewN | apply below_drew1) | exact HB.out))); rintro e w70 ⟨v240, rfl, ho0, hb⟩; refine ⟨_, rfl, ?_⟩; have n0_ := Aside0.mk (Kd.R_below (by (with_reducible repeat (first | apply Kd.R_alloc | apply Kd.R_drewN | apply Kd.R_drew)); exact HO_1.out) hb); have n1_ := Aside0.mk (Kd.R_lower ho0 (below_size (by repeat (first | (with_reducible first | exact HB.out | apply below_alloc | apply pw_below_drewN | apply below_drew1) | exact HB.out)))); have n2_ := Aside0.mk (below_step (by repeat (first | (with_reducible first | exact HB.out | apply below_alloc | apply pw_below_drewN | apply below_drew1) | exact HB.out)) hb); clear HO_1; clear HB; have HO_1 := n0_; have HO241 := n1_; have HB := n2_; clear n0_ n1_ n2_; (try clear hb); (try clear hb2); (try clear hk); (try clear hi); (try clear ho0); obtain ⟨Ao71, co71, eo71⟩ := Kd.R_slice HO241.out; subst eo71) | ((with_reducible refine gate_callee (f := 20) rfl ?_); refine goesL_ (some 49) rfl rfl Tryz.func20 (by kernel_rfl) rfl #[.slice Ao71 t238.length co71] rfl (by (try simp only [List.map_toArray, List.map_cons, List.map_nil]); first | done | rfl | (simp only [List.length_drop, List.length_take]; rfl)) ?_; (with_reducible refine (gs1_FromChars.calls kj1 (fun k_ => some k_ = (.slice Ao71 t238.length co71 : Value).ownBlock) _ _ t238 t242 t245 _ ?side2 ?side1 A15.out).mono ?_); (case side1 => exact Kd.R_V (Kd.R_tight rfl (Kd.R_apart' (HO241.out) (Kd.R_typed HO_1.out) (by decide)))); (case side2 => exact Tabs.below HT.out (by repeat (first | (with_reducible first | exact HB.out | apply below_alloc | apply pw_below_drewN | apply below_drew1) | exact HB.out))); rintro e w72 ⟨v243, rfl, ho0, hb⟩; refine ⟨_, rfl, ?_⟩; have n0_ := Aside0.mk (Kd.R_elder' (by (with_reducible repeat (first | apply Kd.R_alloc | apply Kd.R_drewN | apply Kd.R_drew)); exact HO_1.out) (Kd.R_base ho0) hb); have n1_ := Aside0.mk (Kd.R_below (by (with_reducible repeat (first | apply Kd.R_alloc | apply Kd.R_drewN | apply Kd.R_drew)); exact HO241.out) hb); have n2_ := Aside0.mk (Kd.R_lower (Kd.R_new' (Kd.R_mono (ok' := fun k_ => True) ho0 (fun _ hk_ => trivial)) (Kd.R_lt (by (with_reducible repeat (first | apply Kd.R_alloc | apply Kd.R_drewN | apply Kd.R_drew)); exact HO_1.out))) (below_size (by repeat (first | (with_reducible first | exact HB.out | apply below_alloc | apply pw_below_drewN | apply below_drew1) | exact HB.out)))); have n3_ := Aside0.mk (below_step (by repeat (first | (with_reducible first | exact HB.out | apply below_alloc | apply pw_below_drewN | apply below_drew1) | exact HB.out)) hb); clear HO_1; clear HO241; clear HB; have HO_1 := n0_; have HO241 := n1_; have HO244 := n2_; have HB := n3_; clear n0_ n1_ n2_ n3_; (try clear hb); (try clear hb2); (try clear hk); (try clear hi); (try clear ho0)) | ((with_reducible refine gate_callee (f := 7) rfl ?_); refine goesL_ (some 53) rfl rfl Tryz.func7 (by kernel_rfl) rfl #[.string (⟨#[48, 49]⟩ : ByteArray)] rfl (by (try simp only [List.map_toArray, List.map_cons, List.map_nil]); first | done | rfl | (simp only [List.length_drop, List.length_take]; rfl)) ?_; (with_reducible refine (gs1_Fixed.calls (⟨#[48, 49]⟩ : ByteArray) t246 t247 t248 _ ?side1 A16.out).mono ?_); (case side1 => exact Tabs.below HT.out (by repeat (first | (with_reducible first | exact HB.out | apply below_alloc | apply pw_below_drewN | apply below_drew1) | exact HB.out))); rintro e w73 ⟨rfl, hb⟩; refine ⟨_, rfl, ?_⟩; have n0_ := Aside0.mk (Kd.R_below (by (with_reducible repeat (first | apply Kd.R_alloc | apply Kd.R_drewN | apply Kd.R_drew)); exact HO_1.out) hb); have n1_ := Aside0.mk (Kd.R_below (by (with_reducible repeat (first | apply Kd.R_alloc | apply Kd.R_drewN | apply Kd.R_drew)); exact HO241.out) hb); have n2_ := Aside0.mk (Kd.R_below (by (with_reducible repeat (first | apply Kd.R_alloc | apply Kd.R_drewN | apply Kd.R_drew)); exact HO244.out) hb); have n3_ := Aside0.mk (below_step (by repeat (first | (with_reducible first | exact HB.out | apply below_alloc | apply pw_below_drewN | apply below_drew1) | exact HB.out)) hb); clear HO_1; clear HO241; clear HO244; clear HB; have HO_1 := n0_; have HO241 := n1_; have HO244 := n2_; have HB := n3_; clear n0_ n1_ n2_ n3_; (try clear hb); (try clear hb2); (try clear hk); (try clear hi); have p249 : 0 ≤ (0 : Int) := (by omega); have q249 : 0 < (t238.length : Int) := of_decide_eq_true (by first | (with_reducible assumption) | assumption); obtain ⟨ad249, e249, hx249_0⟩ := Kd.at_int (Kd.R_reads' HO241.out).2.2 0 p249 q249; cases e249; have qi249 : (0 < t238.length) = True := eq_true (by omega); (try rw [show ((0 : Int)).toNat = 0 from rfl] at hx249_0); (try rw [Addr.add_zero'] at hx249_0); replace p249 := eq_true p249; replace q249 := eq_true q249; have p250 : 0 ≤ (20 : Int) := (by omega); have q250 : 20 < (t238.length : Int) := of_decide_eq_true (by first | (with_reducible assumption) | assumption); obtain ⟨ad250, e250, hx250_0⟩ := Kd.at_int (Kd.R_reads' HO241.out).2.2 20 p250 q250; obtain rfl : ad249 = ad250 := (by injection e250); (try simp only [show (20 : Int).toNat = 20 from rfl, Nat.reduceMul, Nat.reduceEqDiff, Go.Addr.add, ↓reduceIte] at hx250_0); have qi250 : (20 < t238.length) = True := eq_true (by omega); (try rw [show ((20 : Int)).toNat = 20 from rfl] at hx250_0); replace p250 := eq_true p250; replace q250 := eq_true q250))
             go_ret
             exact ⟨by first | rfl | (simp [errW_none, errW_some] <;> rfl) | (simp [*, errW_none, errW_some] <;> rfl), by repeat (first | (with_reducible first | exact HB.out | apply below_alloc | apply pw_below_drewN | apply below_drew1) | exact HB.out)⟩
           ·rw [if_neg c24] at H
            have c24b0 : ((rd t238 20) == 66) = false := beq_eq_false_iff_ne.mpr c24
            have c24b1 : ((rd t238 20) != 66) = true := bne_iff_ne.mpr c24
            obtain rfl := Option.some.inj H
            obtain ⟨Ao74, co74, eo74⟩ := Kd.R_slice HO_1.out
            subst eo74
            go_wp2_with (first | ((with_reducible refine gate_callee (f := 14) rfl ?_); refine goesL_ (some 39) rfl rfl Tryz.func14 (by kernel_rfl) rfl #[.slice Ao74 t230.length co74] rfl (by (try simp only [List.map_toArray, List.map_cons, List.map_nil]); first | done | rfl | (simp only [List.length_drop, List.length_take]; rfl)) ?_; (with_reducible refine (gs1_Format.calls kj1 _ _ t230 t236 t237 _ ?side3 ?side1 ?side2 A13.out).mono ?_); (case side1 => repeat (first | exact (Kd.R_reads' HO_1.out).2.2 | (with_reducible refine Kd.C_alloc ?_ _) | (with_reducible refine Kd.C_drewN ?_ _) | (with_reducible refine Kd.C_drew ?_))); (case side2 => exact (Kd.R_reads' HO_1.out).2.1); (case side3 => exact Tabs.below HT.out (by repeat (first | (with_reducible first | exact HB.out | apply below_alloc | apply pw_below_drewN | apply below_drew1) | exact HB.out))); rintro e w75 ⟨rfl, hb⟩; refine ⟨_, rfl, ?_⟩; have n0_ := Aside0.mk (Kd.R_below (by (with_reducible repeat (first | apply Kd.R_alloc | apply Kd.R_drewN | apply Kd.R_drew)); exact HO_1.out) hb); have n1_ := Aside0.mk (below_step (by repeat (first | (with_reducible first | exact HB.out | apply below_alloc | apply pw_below_drewN | apply below_drew1) | exact HB.out)) hb); clear HO_1; clear HB; have HO_1 := n0_; have HB := n1_; clear n0_ n1_; (try clear hb); (try clear hb2); (try clear hk); (try clear hi)) | ((with_reducible refine gate_callee (f := 17) rfl ?_); refine goesL_ (some 44) rfl rfl Tryz.func17 (by kernel_rfl) rfl #[.slice Ao74 t230.length co74] rfl (by (try simp only [List.map_toArray, List.map_cons, List.map_nil]); first | done | rfl | (simp only [List.length_drop, List.length_take]; rfl)) ?_; (with_reducible refine (gs1_Chars.calls kj1 _ _ t230 t238 t239 _ ?side3 ?side1 ?side2 A14.out).mono ?_); (case side1 => repeat (first | exact (Kd.R_reads' HO_1.out).2.2 | (with_reducible refine Kd.C_alloc ?_ _) | (with_reducible refine Kd.C_drewN ?_ _) | (with_reducible refine Kd.C_drew ?_))); (case side2 => exact (Kd.R_reads' HO_1.out).2.1); (case side3 => exact Tabs.below HT.out (by repeat (first | (with_reducible first | exact HB.out | apply below_alloc | apply pw_below_drewN | apply below_drew1) | exact HB.out))); rintro e w76 ⟨v240, rfl, ho0, hb⟩; refine ⟨_, rfl, ?_⟩; have n0_ := Aside0.mk (Kd.R_below (by (with_reducible repeat (first | apply Kd.R_alloc | apply Kd.R_drewN | apply Kd.R_drew)); exact HO_1.out) hb); have n1_ := Aside0.mk (Kd.R_lower ho0 (below_size (by repeat (first | (with_reducible first | exact HB.out | apply below_alloc | apply pw_below_drewN | apply below_drew1) | exact HB.out)))); have n2_ := Aside0.mk (below_step (by repeat (first | (with_reducible first | exact HB.out | apply below_alloc | apply pw_below_drewN | apply below_drew1) | exact HB.out)) hb); clear HO_1; clear HB; have HO_1 := n0_; have HO241 := n1_; have HB := n2_; clear n0_ n1_ n2_; (try clear hb); (try clear hb2); (try clear hk); (try clear hi); (try clear ho0); obtain ⟨Ao77, co77, eo77⟩ := Kd.R_slice HO241.out; subst eo77) | ((with_reducible refine gate_callee (f := 20) rfl ?_); refine goesL_ (some 49) rfl rfl Tryz.func20 (by kernel_rfl) rfl #[.slice Ao77 t238.length co77] rfl (by (try simp only [List.map_toArray, List.map_cons, List.map_nil]); first | done | rfl | (simp only [List.length_drop, List.length_take]; rfl)) ?_; (with_reducible refine (gs1_FromChars.calls kj1 (fun k_ => some k_ = (.slice Ao77 t238.length co77 : Value).ownBlock) _ _ t238 t242 t245 _ ?side2 ?side1 A15.out).mono ?_); (case side1 => exact Kd.R_V (Kd.R_tight rfl (Kd.R_apart' (HO241.out) (Kd.R_typed HO_1.out) (by decide)))); (case side2 => exact Tabs.below HT.out (by repeat (first | (with_reducible first | exact HB.out | apply below_alloc | apply pw_below_drewN | apply below_drew1) | exact HB.out))); rintro e w78 ⟨v243, rfl, ho0, hb⟩; refine ⟨_, rfl, ?_⟩; have n0_ := Aside0.mk (Kd.R_elder' (by (with_reducible repeat (first | apply Kd.R_alloc | apply Kd.R_drewN | apply Kd.R_drew)); exact HO_1.out) (Kd.R_base ho0) hb); have n1_ := Aside0.mk (Kd.R_below (by (with_reducible repeat (first | apply Kd.R_alloc | apply Kd.R_drewN | apply Kd.R_drew)); exact HO241.out) hb); have n2_ := Aside0.mk (Kd.R_lower (Kd.R_new' (Kd.R_mono (ok' := fun k_ => True) ho0 (fun _ hk_ => trivial)) (Kd.R_lt (by (with_reducible repeat (first | apply Kd.R_alloc | apply Kd.R_drewN | apply Kd.R_drew)); exact HO_1.out))) (below_size (by repeat (first | (with_reducible first | exact HB.out | apply below_alloc | apply pw_below_drewN | apply below_drew1) | exact HB.out)))); have n3_ := Aside0.mk (below_step (by repeat (first | (with_reducible first | exact HB.out | apply below_alloc | apply pw_below_drewN | apply below_drew1) | exact HB.out)) hb); clear HO_1; clear HO241; clear HB; have HO_1 := n0_; have HO241 := n1_; have HO244 := n2_; have HB := n3_; clear n0_ n1_ n2_ n3_; (try clear hb); (try clear hb2); (try clear hk); (try clear hi); (try clear ho0)) | ((with_reducible refine gate_callee (f := 7) rfl ?_); refine goesL_ (some 53) rfl rfl Tryz.func7 (by kernel_rfl) rfl #[.string (⟨#[48, 49]⟩ : ByteArray)] rfl (by (try simp only [List.map_toArray, List.map_cons, List.map_nil]); first | done | rfl | (simp only [List.length_drop, List.length_take]; rfl)) ?_; (with_reducible refine (gs1_Fixed.calls (⟨#[48, 49]⟩ : ByteArray) t246 t247 t248 _ ?side1 A16.out).mono ?_); (case side1 => exact Tabs.below HT.out (by repeat (first | (with_reducible first | exact HB.out | apply below_alloc | apply pw_below_drewN | apply below_drew1) | exact HB.out))); rintro e w79 ⟨rfl, hb⟩; refine ⟨_, rfl, ?_⟩; have n0_ := Aside0.mk (Kd.R_below (by (with_reducible repeat (first | apply Kd.R_alloc | apply Kd.R_drewN | apply Kd.R_drew)); exact HO_1.out) hb); have n1_ := Aside0.mk (Kd.R_below (by (with_reducible repeat (first | apply Kd.R_alloc | apply Kd.R_drewN | apply Kd.R_drew)); exact HO241.out) hb); have n2_ := Aside0.mk (Kd.R_below (by (with_reducible repeat (first | apply Kd.R_alloc | apply Kd.R_drewN | apply Kd.R_drew)); exact HO244.out) hb); have n3_ := Aside0.mk (below_step (by repeat (first | (with_reducible first | exact HB.out | apply below_alloc | apply pw_below_drewN | apply below_drew1) | exact HB.out)) hb); clear HO_1; clear HO241; clear HO244; clear HB; have HO_1 := n0_; have HO241 := n1_; have HO244 := n2_; have HB := n3_; clear n0_ n1_ n2_ n3_; (try clear hb); (try clear hb2); (try clear hk); (try clear hi); have p249 : 0 ≤ (0 : Int) := (by omega); have q249 : 0 < (t238.length : Int) := of_decide_eq_true (by first | (with_reducible assumption) | assumption); obtain ⟨ad249, e249, hx249_0⟩ := Kd.at_int (Kd.R_reads' HO241.out).2.2 0 p249 q249; cases e249; have qi249 : (0 < t238.length) = True := eq_true (by omega); (try rw [show ((0 : Int)).toNat = 0 from rfl] at hx249_0); (try rw [Addr.add_zero'] at hx249_0); replace p249 := eq_true p249; replace q249 := eq_true q249; have p250 : 0 ≤ (20 : Int) := (by omega); have q250 : 20 < (t238.length : Int) := of_decide_eq_true (by first | (with_reducible assumption) | assumption); obtain ⟨ad250, e250, hx250_0⟩ := Kd.at_int (Kd.R_reads' HO241.out).2.2 20 p250 q250; obtain rfl : ad249 = ad250 := (by injection e250); (try simp only [show (20 : Int).toNat = 20 from rfl, Nat.reduceMul, Nat.reduceEqDiff, Go.Addr.add, ↓reduceIte] at hx250_0); have qi250 : (20 < t238.length) = True := eq_true (by omega); (try rw [show ((20 : Int)).toNat = 20 from rfl] at hx250_0); replace p250 := eq_true p250; replace q250 := eq_true q250))
            go_ret
            exact ⟨by first | rfl | (simp [errW_none, errW_some] <;> rfl) | (simp [*, errW_none, errW_some] <;> rfl), by repeat (first | (with_reducible first | exact HB.out | apply below_alloc | apply pw_below_drewN | apply below_drew1) | exact HB.out)⟩
          ·rw [if_neg c23] at H
           exact absurd H (by simp)
         ·rw [if_neg c22] at H
          have c22b0 : ((rd t238 0) == 256) = false := beq_eq_false_iff_ne.mpr c22
          have c22b1 : ((rd t238 0) != 256) = true := bne_iff_ne.mpr c22
          obtain rfl := Option.some.inj H
          obtain ⟨Ao80, co80, eo80⟩ := Kd.R_slice HO_1.out
          subst eo80
          go_wp2_with (first | ((with_reducible refine gate_callee (f := 14) rfl ?_); refine goesL_ (some 39) rfl rfl Tryz.func14 (by kernel_rfl) rfl #[.slice Ao80 t230.length co80] rfl (by (try simp only [List.map_toArray, List.map_cons, List.map_nil]); first | done | rfl | (simp only [List.length_drop, List.length_take]; rfl)) ?_; (with_reducible refine (gs1_Format.calls kj1 _ _ t230 t236 t237 _ ?side3 ?side1 ?side2 A13.out).mono ?_); (case side1 => repeat (first | exact (Kd.R_reads' HO_1.out).2.2 | (with_reducible refine Kd.C_alloc ?_ _) | (with_reducible refine Kd.C_drewN ?_ _) | (with_reducible refine Kd.C_drew ?_))); (case side2 => exact (Kd.R_reads' HO_1.out).2.1); (case side3 => exact Tabs.below HT.out (by repeat (first | (with_reducible first | exact HB.out | apply below_alloc | apply pw_below_drewN | apply below_drew1) | exact HB.out))); rintro e w81 ⟨rfl, hb⟩; refine ⟨_, rfl, ?_⟩; have n0_ := Aside0.mk (Kd.R_below (by (with_reducible repeat (first | apply Kd.R_alloc | apply Kd.R_drewN | apply Kd.R_drew)); exact HO_1.out) hb); have n1_ := Aside0.mk (below_step (by repeat (first | (with_reducible first | exact HB.out | apply below_alloc | apply pw_below_drewN | apply below_drew1) | exact HB.out)) hb); clear HO_1; clear HB; have HO_1 := n0_; have HB := n1_; clear n0_ n1_; (try clear hb); (try clear hb2); (try clear hk); (try clear hi)) | ((with_reducible refine gate_callee (f := 17) rfl ?_); refine goesL_ (some 44) rfl rfl Tryz.func17 (by kernel_rfl) rfl #[.slice Ao80 t230.length co80] rfl (by (try simp only [List.map_toArray, List.map_cons, List.map_nil]); first | done | rfl | (simp only [List.length_drop, List.length_take]; rfl)) ?_; (with_reducible refine (gs1_Chars.calls kj1 _ _ t230 t238 t239 _ ?side3 ?side1 ?side2 A14.out).mono ?_); (case side1 => repeat (first | exact (Kd.R_reads' HO_1.out).2.2 | (with_reducible refine Kd.C_alloc ?_ _) | (with_reducible refine Kd.C_drewN ?_ _) | (with_reducible refine Kd.C_drew ?_))); (case side2 => exact (Kd.R_reads' HO_1.out).2.1); (case side3 => exact Tabs.below HT.out (by repeat (first | (with_reducible first | exact HB.out | apply below_alloc | apply pw_below_drewN | apply below_drew1) | exact HB.out))); rintro e w82 ⟨v240, rfl, ho0, hb⟩; refine ⟨_, rfl, ?_⟩; have n0_ := Aside0.mk (Kd.R_below (by (with_reducible repeat (first | apply Kd.R_alloc | apply Kd.R_drewN | apply Kd.R_drew)); exact HO_1.out) hb); have n1_ := Aside0.mk (Kd.R_lower ho0 (below_size (by repeat (first | (with_reducible first | exact HB.out | apply below_alloc | apply pw_below_drewN | apply below_drew1) | exact HB.out)))); have n2_ := Aside0.mk (below_step (by repeat (first | (with_reducible first | exact HB.out | apply below_alloc | apply pw_below_drewN | apply below_drew1) | exact HB.out)) hb); clear HO_1; clear HB; have HO_1 := n0_; have HO241 := n1_; have HB := n2_; clear n0_ n1_ n2_; (try clear hb); (try clear hb2); (try clear hk); (try clear hi); (try clear ho0); obtain ⟨Ao83, co83, eo83⟩ := Kd.R_slice HO241.out; subst eo83) | ((with_reducible refine gate_callee (f := 20) rfl ?_); refine goesL_ (some 49) rfl rfl Tryz.func20 (by kernel_rfl) rfl #[.slice Ao83 t238.length co83] rfl (by (try simp only [List.map_toArray, List.map_cons, List.map_nil]); first | done | rfl | (simp only [List.length_drop, List.length_take]; rfl)) ?_; (with_reducible refine (gs1_FromChars.calls kj1 (fun k_ => some k_ = (.slice Ao83 t238.length co83 : Value).ownBlock) _ _ t238 t242 t245 _ ?side2 ?side1 A15.out).mono ?_); (case side1 => exact Kd.R_V (Kd.R_tight rfl (Kd.R_apart' (HO241.out) (Kd.R_typed HO_1.out) (by decide)))); (case side2 => exact Tabs.below HT.out (by repeat (first | (with_reducible first | exact HB.out | apply below_alloc | apply pw_below_drewN | apply below_drew1) | exact HB.out))); rintro e w84 ⟨v243, rfl, ho0, hb⟩; refine ⟨_, rfl, ?_⟩; have n0_ := Aside0.mk (Kd.R_elder' (by (with_reducible repeat (first | apply Kd.R_alloc | apply Kd.R_drewN | apply Kd.R_drew)); exact HO_1.out) (Kd.R_base ho0) hb); have n1_ := Aside0.mk (Kd.R_below (by (with_reducible repeat (first | apply Kd.R_alloc | apply Kd.R_drewN | apply Kd.R_drew)); exact HO241.out) hb); have n2_ := Aside0.mk (Kd.R_lower (Kd.R_new' (Kd.R_mono (ok' := fun k_ => True) ho0 (fun _ hk_ => trivial)) (Kd.R_lt (by (with_reducible repeat (first | apply Kd.R_alloc | apply Kd.R_drewN | apply Kd.R_drew)); exact HO_1.out))) (below_size (by repeat (first | (with_reducible first | exact HB.out | apply below_alloc | apply pw_below_drewN | apply below_drew1) | exact HB.out)))); have n3_ := Aside0.mk (below_step (by repeat (first | (with_reducible first | exact HB.out | apply below_alloc | apply pw_below_drewN | apply below_drew1) | exact HB.out)) hb); clear HO_1; clear HO241; clear HB; have HO_1 := n0_; have HO241 := n1_; have HO244 := n2_; have HB := n3_; clear n0_ n1_ n2_ n3_; (try clear hb); (try clear hb2); (try clear hk); (try clear hi); (try clear ho0)) | ((with_reducible refine gate_callee (f := 7) rfl ?_); refine goesL_ (some 53) rfl rfl Tryz.func7 (by kernel_rfl) rfl #[.string (⟨#[48, 49]⟩ : ByteArray)] rfl (by (try simp only [List.map_toArray, List.map_cons, List.map_nil]); first | done | rfl | (simp only [List.length_drop, List.length_take]; rfl)) ?_; (with_reducible refine (gs1_Fixed.calls (⟨#[48, 49]⟩ : ByteArray) t246 t247 t248 _ ?side1 A16.out).mono ?_); (case side1 => exact Tabs.below HT.out (by repeat (first | (with_reducible first | exact HB.out | apply below_alloc | apply pw_below_drewN | apply below_drew1) | exact HB.out))); rintro e w85 ⟨rfl, hb⟩; refine ⟨_, rfl, ?_⟩; have n0_ := Aside0.mk (Kd.R_below (by (with_reducible repeat (first | apply Kd.R_alloc | apply Kd.R_drewN | apply Kd.R_drew)); exact HO_1.out) hb); have n1_ := Aside0.mk (Kd.R_below (by (with_reducible repeat (first | apply Kd.R_alloc | apply Kd.R_drewN | apply Kd.R_drew)); exact HO241.out) hb); have n2_ := Aside0.mk (Kd.R_below (by (with_reducible repeat (first | apply Kd.R_alloc | apply Kd.R_drewN | apply Kd.R_drew)); exact HO244.out) hb); have n3_ := Aside0.mk (below_step (by repeat (first | (with_reducible first | exact HB.out | apply below_alloc | apply pw_below_drewN | apply below_drew1) | exact HB.out)) hb); clear HO_1; clear HO241; clear HO244; clear HB; have HO_1 := n0_; have HO241 := n1_; have HO244 := n2_; have HB := n3_; clear n0_ n1_ n2_ n3_; (try clear hb); (try clear hb2); (try clear hk); (try clear hi); have p249 : 0 ≤ (0 : Int) := (by omega); have q249 : 0 < (t238.length : Int) := of_decide_eq_true (by first | (with_reducible assumption) | assumption); obtain ⟨ad249, e249, hx249_0⟩ := Kd.at_int (Kd.R_reads' HO241.out).2.2 0 p249 q249; cases e249; have qi249 : (0 < t238.length) = True := eq_true (by omega); (try rw [show ((0 : Int)).toNat = 0 from rfl] at hx249_0); (try rw [Addr.add_zero'] at hx249_0); replace p249 := eq_true p249; replace q249 := eq_true q249))
          go_ret
          exact ⟨by first | rfl | (simp [errW_none, errW_some] <;> rfl) | (simp [*, errW_none, errW_some] <;> rfl), by repeat (first | (with_reducible first | exact HB.out | apply below_alloc | apply pw_below_drewN | apply below_drew1) | exact HB.out)⟩
        ·rw [if_neg c21] at H
         exact absurd H (by simp)
       ·rw [if_neg c20] at H
        have c20b0 : ((t238.length : Int) == 21) = false := beq_eq_false_iff_ne.mpr c20
        have c20b1 : ((t238.length : Int) != 21) = true := bne_iff_ne.mpr c20
        obtain rfl := Option.some.inj H
        obtain ⟨Ao86, co86, eo86⟩ := Kd.R_slice HO_1.out
        subst eo86
        go_wp2_with (first | ((with_reducible refine gate_callee (f := 14) rfl ?_); refine goesL_ (some 39) rfl rfl Tryz.func14 (by kernel_rfl) rfl #[.slice Ao86 t230.length co86] rfl (by (try simp only [List.map_toArray, List.map_cons, List.map_nil]); first | done | rfl | (simp only [List.length_drop, List.length_take]; rfl)) ?_; (with_reducible refine (gs1_Format.calls kj1 _ _ t230 t236 t237 _ ?side3 ?side1 ?side2 A13.out).mono ?_); (case side1 => repeat (first | exact (Kd.R_reads' HO_1.out).2.2 | (with_reducible refine Kd.C_alloc ?_ _) | (with_reducible refine Kd.C_drewN ?_ _) | (with_reducible refine Kd.C_drew ?_))); (case side2 => exact (Kd.R_reads' HO_1.out).2.1); (case side3 => exact Tabs.below HT.out (by repeat (first | (with_reducible first | exact HB.out | apply below_alloc | apply pw_below_drewN | apply below_drew1) | exact HB.out))); rintro e w87 ⟨rfl, hb⟩; refine ⟨_, rfl, ?_⟩; have n0_ := Aside0.mk (Kd.R_below (by (with_reducible repeat (first | apply Kd.R_alloc | apply Kd.R_drewN | apply Kd.R_drew)); exact HO_1.out) hb); have n1_ := Aside0.mk (below_step (by repeat (first | (with_reducible first | exact HB.out | apply below_alloc | apply pw_below_drewN | apply below_drew1) | exact HB.out)) hb); clear HO_1; clear HB; have HO_1 := n0_; have HB := n1_; clear n0_ n1_; (try clear hb); (try clear hb2); (try clear hk); (try clear hi)) | ((with_reducible refine gate_callee (f := 17) rfl ?_); refine goesL_ (some 44) rfl rfl Tryz.func17 (by kernel_rfl) rfl #[.slice Ao86 t230.length co86] rfl (by (try simp only [List.map_toArray, List.map_cons, List.map_nil]); first | done | rfl | (simp only [List.length_drop, List.length_take]; rfl)) ?_; (with_reducible refine (gs1_Chars.calls kj1 _ _ t230 t238 t239 _ ?side3 ?side1 ?side2 A14.out).mono ?_); (case side1 => repeat (first | exact (Kd.R_reads' HO_1.out).2.2 | (with_reducible refine Kd.C_alloc ?_ _) | (with_reducible refine Kd.C_drewN ?_ _) | (with_reducible refine Kd.C_drew ?_))); (case side2 => exact (Kd.R_reads' HO_1.out).2.1); (case side3 => exact Tabs.below HT.out (by repeat (first | (with_reducible first | exact HB.out | apply below_alloc | apply pw_below_drewN | apply below_drew1) | exact HB.out))); rintro e w88 ⟨v240, rfl, ho0, hb⟩; refine ⟨_, rfl, ?_⟩; have n0_ := Aside0.mk (Kd.R_below (by (with_reducible repeat (first | apply Kd.R_alloc | apply Kd.R_drewN | apply Kd.R_drew)); exact HO_1.out) hb); have n1_ := Aside0.mk (Kd.R_lower ho0 (below_size (by repeat (first | (with_reducible first | exact HB.out | apply below_alloc | apply pw_below_drewN | apply below_drew1) | exact HB.out)))); have n2_ := Aside0.mk (below_step (by repeat (first | (with_reducible first | exact HB.out | apply below_alloc | apply pw_below_drewN | apply below_drew1) | exact HB.out)) hb); clear HO_1; clear HB; have HO_1 := n0_; have HO241 := n1_; have HB := n2_; clear n0_ n1_ n2_; (try clear hb); (try clear hb2); (try clear hk); (try clear hi); (try clear ho0); obtain ⟨Ao89, co89, eo89⟩ := Kd.R_slice HO241.out; subst eo89) | ((with_reducible refine gate_callee (f := 20) rfl ?_); refine goesL_ (some 49) rfl rfl Tryz.func20 (by kernel_rfl) rfl #[.slice Ao89 t238.length co89] rfl (by (try simp only [List.map_toArray, List.map_cons, List.map_nil]); first | done | rfl | (simp only [List.length_drop, List.length_take]; rfl)) ?_; (with_reducible refine (gs1_FromChars.calls kj1 (fun k_ => some k_ = (.slice Ao89 t238.length co89 : Value).ownBlock) _ _ t238 t242 t245 _ ?side2 ?side1 A15.out).mono ?_); (case side1 => exact Kd.R_V (Kd.R_tight rfl (Kd.R_apart' (HO241.out) (Kd.R_typed HO_1.out) (by decide)))); (case side2 => exact Tabs.below HT.out (by repeat (first | (with_reducible first | exact HB.out | apply below_alloc | apply pw_below_drewN | apply below_drew1) | exact HB.out))); rintro e w90 ⟨v243, rfl, ho0, hb⟩; refine ⟨_, rfl, ?_⟩; have n0_ := Aside0.mk (Kd.R_elder' (by (with_reducible repeat (first | apply Kd.R_alloc | apply Kd.R_drewN | apply Kd.R_drew)); exact HO_1.out) (Kd.R_base ho0) hb); have n1_ := Aside0.mk (Kd.R_below (by (with_reducible repeat (first | apply Kd.R_alloc | apply Kd.R_drewN | apply Kd.R_drew)); exact HO241.out) hb); have n2_ := Aside0.mk (Kd.R_lower (Kd.R_new' (Kd.R_mono (ok' := fun k_ => True) ho0 (fun _ hk_ => trivial)) (Kd.R_lt (by (with_reducible repeat (first | apply Kd.R_alloc | apply Kd.R_drewN | apply Kd.R_drew)); exact HO_1.out))) (below_size (by repeat (first | (with_reducible first | exact HB.out | apply below_alloc | apply pw_below_drewN | apply below_drew1) | exact HB.out)))); have n3_ := Aside0.mk (below_step (by repeat (first | (with_reducible first | exact HB.out | apply below_alloc | apply pw_below_drewN | apply below_drew1) | exact HB.out)) hb); clear HO_1; clear HO241; clear HB; have HO_1 := n0_; have HO241 := n1_; have HO244 := n2_; have HB := n3_; clear n0_ n1_ n2_ n3_; (try clear hb); (try clear hb2); (try clear hk); (try clear hi); (try clear ho0)) | ((with_reducible refine gate_callee (f := 7) rfl ?_); refine goesL_ (some 53) rfl rfl Tryz.func7 (by kernel_rfl) rfl #[.string (⟨#[48, 49]⟩ : ByteArray)] rfl (by (try simp only [List.map_toArray, List.map_cons, List.map_nil]); first | done | rfl | (simp only [List.length_drop, List.length_take]; rfl)) ?_; (with_reducible refine (gs1_Fixed.calls (⟨#[48, 49]⟩ : ByteArray) t246 t247 t248 _ ?side1 A16.out).mono ?_); (case side1 => exact Tabs.below HT.out (by repeat (first | (with_reducible first | exact HB.out | apply below_alloc | apply pw_below_drewN | apply below_drew1) | exact HB.out))); rintro e w91 ⟨rfl, hb⟩; refine ⟨_, rfl, ?_⟩; have n0_ := Aside0.mk (Kd.R_below (by (with_reducible repeat (first | apply Kd.R_alloc | apply Kd.R_drewN | apply Kd.R_drew)); exact HO_1.out) hb); have n1_ := Aside0.mk (Kd.R_below (by (with_reducible repeat (first | apply Kd.R_alloc | apply Kd.R_drewN | apply Kd.R_drew)); exact HO241.out) hb); have n2_ := Aside0.mk (Kd.R_below (by (with_reducible repeat (first | apply Kd.R_alloc | apply Kd.R_drewN | apply Kd.R_drew)); exact HO244.out) hb); have n3_ := Aside0.mk (below_step (by repeat (first | (with_reducible first | exact HB.out | apply below_alloc | apply pw_below_drewN | apply below_drew1) | exact HB.out)) hb); clear HO_1; clear HO241; clear HO244; clear HB; have HO_1 := n0_; have HO241 := n1_; have HO244 := n2_; have HB := n3_; clear n0_ n1_ n2_ n3_; (try clear hb); (try clear hb2); (try clear hk); (try clear hi)))
        go_ret
        exact ⟨by first | rfl | (simp [errW_none, errW_some] <;> rfl) | (simp [*, errW_none, errW_some] <;> rfl), by repeat (first | (with_reducible first | exact HB.out | apply below_alloc | apply pw_below_drewN | apply below_drew1) | exact HB.out)⟩
      ·rw [if_neg c19] at H
       have c19b0 : (t239 == 0) = false := beq_eq_false_iff_ne.mpr c19
       have c19b1 : (t239 != 0) = true := bne_iff_ne.mpr c19
       obtain rfl := Option.some.inj H
       obtain ⟨Ao92, co92, eo92⟩ := Kd.R_slice HO_1.out
       subst eo92
       go_wp2_with (first | ((with_reducible refine gate_callee (f := 14) rfl ?_); refine goesL_ (some 39) rfl rfl Tryz.func14 (by kernel_rfl) rfl #[.slice Ao92 t230.length co92] rfl (by (try simp only [List.map_toArray, List.map_cons, List.map_nil]); first | done | rfl | (simp only [List.length_drop, List.length_take]; rfl)) ?_; (with_reducible refine (gs1_Format.calls kj1 _ _ t230 t236 t237 _ ?side3 ?side1 ?side2 A13.out).mono ?_); (case side1 => repeat (first | exact (Kd.R_reads' HO_1.out).2.2 | (with_reducible refine Kd.C_alloc ?_ _) | (with_reducible refine Kd.C_drewN ?_ _) | (with_reducible refine Kd.C_drew ?_))); (case side2 => exact (Kd.R_reads' HO_1.out).2.1); (case side3 => exact Tabs.below HT.out (by repeat (first | (with_reducible first | exact HB.out | apply below_alloc | apply pw_below_drewN | apply below_drew1) | exact HB.out))); rintro e w93 ⟨rfl, hb⟩; refine ⟨_, rfl, ?_⟩; have n0_ := Aside0.mk (Kd.R_below (by (with_reducible repeat (first | apply Kd.R_alloc | apply Kd.R_drewN | apply Kd.R_drew)); exact HO_1.out) hb); have n1_ := Aside0.mk (below_step (by repeat (first | (with_reducible first | exact HB.out | apply below_alloc | apply pw_below_drewN | apply below_drew1) | exact HB.out)) hb); clear HO_1; clear HB; have HO_1 := n0_; have HB := n1_; clear n0_ n1_; (try clear hb); (try clear hb2); (try clear hk); (try clear hi)) | ((with_reducible refine gate_callee (f := 17) rfl ?_); refine goesL_ (some 44) rfl rfl Tryz.func17 (by kernel_rfl) rfl #[.slice Ao92 t230.length co92] rfl (by (try simp only [List.map_toArray, List.map_cons, List.map_nil]); first | done | rfl | (simp only [List.length_drop, List.length_take]; rfl)) ?_; (with_reducible refine (gs1_Chars.calls kj1 _ _ t230 t238 t239 _ ?side3 ?side1 ?side2 A14.out).mono ?_); (case side1 => repeat (first | exact (Kd.R_reads' HO_1.out).2.2 | (with_reducible refine Kd.C_alloc ?_ _) | (with_reducible refine Kd.C_drewN ?_ _) | (with_reducible refine Kd.C_drew ?_))); (case side2 => exact (Kd.R_reads' HO_1.out).2.1); (case side3 => exact Tabs.below HT.out (by repeat (first | (with_reducible first | exact HB.out | apply below_alloc | apply pw_below_drewN | apply below_drew1) | exact HB.out))); rintro e w94 ⟨v240, rfl, ho0, hb⟩; refine ⟨_, rfl, ?_⟩; have n0_ := Aside0.mk (Kd.R_below (by (with_reducible repeat (first | apply Kd.R_alloc | apply Kd.R_drewN | apply Kd.R_drew)); exact HO_1.out) hb); have n1_ := Aside0.mk (Kd.R_lower ho0 (below_size (by repeat (first | (with_reducible first | exact HB.out | apply below_alloc | apply pw_below_drewN | apply below_drew1) | exact HB.out)))); have n2_ := Aside0.mk (below_step (by repeat (first | (with_reducible first | exact HB.out | apply below_alloc | apply pw_below_drewN | apply below_drew1) | exact HB.out)) hb); clear HO_1; clear HB; have HO_1 := n0_; have HO241 := n1_; have HB := n2_; clear n0_ n1_ n2_; (try clear hb); (try clear hb2); (try clear hk); (try clear hi); (try clear ho0); obtain ⟨Ao95, co95, eo95⟩ := Kd.R_slice HO241.out; subst eo95) | ((with_reducible refine gate_callee (f := 20) rfl ?_); refine goesL_ (some 49) rfl rfl Tryz.func20 (by kernel_rfl) rfl #[.slice Ao95 t238.length co95] rfl (by (try simp only [List.map_toArray, List.map_cons, List.map_nil]); first | done | rfl | (simp only [List.length_drop, List.length_take]; rfl)) ?_; (with_reducible refine (gs1_FromChars.calls kj1 (fun k_ => some k_ = (.slice Ao95 t238.length co95 : Value).ownBlock) _ _ t238 t242 t245 _ ?side2 ?side1 A15.out).mono ?_); (case side1 => exact Kd.R_V (Kd.R_tight rfl (Kd.R_apart' (HO241.out) (Kd.R_typed HO_1.out) (by decide)))); (case side2 => exact Tabs.below HT.out (by repeat (first | (with_reducible first | exact HB.out | apply below_alloc | apply pw_below_drewN | apply below_drew1) | exact HB.out))); rintro e w96 ⟨v243, rfl, ho0, hb⟩; refine ⟨_, rfl, ?_⟩; have n0_ := Aside0.mk (Kd.R_elder' (by (with_reducible repeat (first | apply Kd.R_alloc | apply Kd.R_drewN | apply Kd.R_drew)); exact HO_1.out) (Kd.R_base ho0) hb); have n1_ := Aside0.mk (Kd.R_below (by (with_reducible repeat (first | apply Kd.R_alloc | apply Kd.R_drewN | apply Kd.R_drew)); exact HO241.out) hb); have n2_ := Aside0.mk (Kd.R_lower (Kd.R_new' (Kd.R_mono (ok' := fun k_ => True) ho0 (fun _ hk_ => trivial)) (Kd.R_lt (by (with_reducible repeat (first | apply Kd.R_alloc | apply Kd.R_drewN | apply Kd.R_drew)); exact HO_1.out))) (below_size (by repeat (first | (with_reducible first | exact HB.out | apply below_alloc | apply pw_below_drewN | apply below_drew1) | exact HB.out)))); have n3_ := Aside0.mk (below_step (by repeat (first | (with_reducible first | exact HB.out | apply below_alloc | apply pw_below_drewN | apply below_drew1) | exact HB.out)) hb); clear HO_1; clear HO241; clear HB; have HO_1 := n0_; have HO241 := n1_; have HO244 := n2_; have HB := n3_; clear n0_ n1_ n2_ n3_; (try clear hb); (try clear hb2); (try clear hk); (try clear hi); (try clear ho0)) | ((with_reducible refine gate_callee (f := 7) rfl ?_); refine goesL_ (some 53) rfl rfl Tryz.func7 (by kernel_rfl) rfl #[.string (⟨#[48, 49]⟩ : ByteArray)] rfl (by (try simp only [List.map_toArray, List.map_cons, List.map_nil]); first | done | rfl | (simp only [List.length_drop, List.length_take]; rfl)) ?_; (with_reducible refine (gs1_Fixed.calls (⟨#[48, 49]⟩ : ByteArray) t246 t247 t248 _ ?side1 A16.out).mono ?_); (case side1 => exact Tabs.below HT.out (by repeat (first | (with_reducible first | exact HB.out | apply below_alloc | apply pw_below_drewN | apply below_drew1) | exact HB.out))); rintro e w97 ⟨rfl, hb⟩; refine ⟨_, rfl, ?_⟩; have n0_ := Aside0.mk (Kd.R_below (by (with_reducible repeat (first | apply Kd.R_alloc | apply Kd.R_drewN | apply Kd.R_drew)); exact HO_1.out) hb); have n1_ := Aside0.mk (Kd.R_below (by (with_reducible repeat (first | apply Kd.R_alloc | apply Kd.R_drewN | apply Kd.R_drew)); exact HO241.out) hb); have n2_ := Aside0.mk (Kd.R_below (by (with_reducible repeat (first | apply Kd.R_alloc | apply Kd.R_drewN | apply Kd.R_drew)); exact HO244.out) hb); have n3_ := Aside0.mk (below_step (by repeat (first | (with_reducible first | exact HB.out | apply below_alloc | apply pw_below_drewN | apply below_drew1) | exact HB.out)) hb); clear HO_1; clear HO241; clear HO244; clear HB; have HO_1 := n0_; have HO241 := n1_; have HO244 := n2_; have HB := n3_; clear n0_ n1_ n2_ n3_; (try clear hb); (try clear hb2); (try clear hk); (try clear hi)))
       go_ret
       exact ⟨by first | rfl | (simp [errW_none, errW_some] <;> rfl) | (simp [*, errW_none, errW_some] <;> rfl), by repeat (first | (with_reducible first | exact HB.out | apply below_alloc | apply pw_below_drewN | apply below_drew1) | exact HB.out)⟩
     ·rw [if_neg c18] at H
      have c18b0 : (t236.toList == ([40, 48, 49, 41, 48, 57, 53, 48, 49, 49, 48, 49, 53, 51, 48, 48, 48, 51, 40, 49, 48, 41, 65, 66] : List UInt8)) = false := beq_eq_false_iff_ne.mpr c18
      have c18b1 : (t236.toList != ([40, 48, 49, 41, 48, 57, 53, 48, 49, 49, 48, 49, 53, 51, 48, 48, 48, 51, 40, 49, 48, 41, 65, 66] : List UInt8)) = true := bne_iff_ne.mpr c18
      obtain rfl := Option.some.inj H
      obtain ⟨Ao98, co98, eo98⟩ := Kd.R_slice HO_1.out
      subst eo98
      go_wp2_with (first | ((with_reducible refine gate_callee (f := 14) rfl ?_); refine goesL_ (some 39) rfl rfl Tryz.func14 (by kernel_rfl) rfl #[.slice Ao98 t230.length co98] rfl (by (try simp only [List.map_toArray, List.map_cons, List.map_nil]); first | done | rfl | (simp only [List.length_drop, List.length_take]; rfl)) ?_; (with_reducible refine (gs1_Format.calls kj1 _ _ t230 t236 t237 _ ?side3 ?side1 ?side2 A13.out).mono ?_); (case side1 => repeat (first | exact (Kd.R_reads' HO_1.out).2.2 | (with_reducible refine Kd.C_alloc ?_ _) | (with_reducible refine Kd.C_drewN ?_ _) | (with_reducible refine Kd.C_drew ?_))); (case side2 => exact (Kd.R_reads' HO_1.out).2.1); (case side3 => exact Tabs.below HT.out (by repeat (first | (with_reducible first | exact HB.out | apply below_alloc | apply pw_below_drewN | apply below_drew1) | exact HB.out))); rintro e w99 ⟨rfl, hb⟩; refine ⟨_, rfl, ?_⟩; have n0_ := Aside0.mk (Kd.R_below (by (with_reducible repeat (first | apply Kd.R_alloc | apply Kd.R_drewN | apply Kd.R_drew)); exact HO_1.out) hb); have n1_ := Aside0.mk (below_step (by repeat (first | (with_reducible first | exact HB.out | apply below_alloc | apply pw_below_drewN | apply below_drew1) | exact HB.out)) hb); clear HO_1; clear HB; have HO_1 := n0_; have HB := n1_; clear n0_ n1_; (try clear hb); (try clear hb2); (try clear hk); (try clear hi)) | ((with_reducible refine gate_callee (f := 17) rfl ?_); refine goesL_ (some 44) rfl rfl Tryz.func17 (by kernel_rfl) rfl #[.slice Ao98 t230.length co98] rfl (by (try simp only [List.map_toArray, List.map_cons, List.map_nil]); first | done | rfl | (simp only [List.length_drop, List.length_take]; rfl)) ?_; (with_reducible refine (gs1_Chars.calls kj1 _ _ t230 t238 t239 _ ?side3 ?side1 ?side2 A14.out).mono ?_); (case side1 => repeat (first | exact (Kd.R_reads' HO_1.out).2.2 | (with_reducible refine Kd.C_alloc ?_ _) | (with_reducible refine Kd.C_drewN ?_ _) | (with_reducible refine Kd.C_drew ?_))); (case side2 => exact (Kd.R_reads' HO_1.out).2.1); (case side3 => exact Tabs.below HT.out (by repeat (first | (with_reducible first | exact HB.out | apply below_alloc | apply pw_below_drewN | apply below_drew1) | exact HB.out))); rintro e w100 ⟨v240, rfl, ho0, hb⟩; refine ⟨_, rfl, ?_⟩; have n0_ := Aside0.mk (Kd.R_below (by (with_reducible repeat (first | apply Kd.R_alloc | apply Kd.R_drewN | apply Kd.R_drew)); exact HO_1.out) hb); have n1_ := Aside0.mk (Kd.R_lower ho0 (below_size (by repeat (first | (with_reducible first | exact HB.out | apply below_alloc | apply pw_below_drewN | apply below_drew1) | exact HB.out)))); have n2_ := Aside0.mk (below_step (by repeat (first | (with_reducible first | exact HB.out | apply below_alloc | apply pw_below_drewN | apply below_drew1) | exact HB.out)) hb); clear HO_1; clear HB; have HO_1 := n0_; have HO241 := n1_; have HB := n2_; clear n0_ n1_ n2_; (try clear hb); (try clear hb2); (try clear hk); (try clear hi); (try clear ho0); obtain ⟨Ao101, co101, eo101⟩ := Kd.R_slice HO241.out; subst eo101) | ((with_reducible refine gate_callee (f := 20) rfl ?_); refine goesL_ (some 49) rfl rfl Tryz.func20 (by kernel_rfl) rfl #[.slice Ao101 t238.length co101] rfl (by (try simp only [List.map_toArray, List.map_cons, List.map_nil]); first | done | rfl | (simp only [List.length_drop, List.length_take]; rfl)) ?_; (with_reducible refine (gs1_FromChars.calls kj1 (fun k_ => some k_ = (.slice Ao101 t238.length co101 : Value).ownBlock) _ _ t238 t242 t245 _ ?side2 ?side1 A15.out).mono ?_); (case side1 => exact Kd.R_V (Kd.R_tight rfl (Kd.R_apart' (HO241.out) (Kd.R_typed HO_1.out) (by decide)))); (case side2 => exact Tabs.below HT.out (by repeat (first | (with_reducible first | exact HB.out | apply below_alloc | apply pw_below_drewN | apply below_drew1) | exact HB.out))); rintro e w102 ⟨v243, rfl, ho0, hb⟩; refine ⟨_, rfl, ?_⟩; have n0_ := Aside0.mk (Kd.R_elder' (by (with_reducible repeat (first | apply Kd.R_alloc | apply Kd.R_drewN | apply Kd.R_drew)); exact HO_1.out) (Kd.R_base ho0) hb); have n1_ := Aside0.mk (Kd.R_below (by (with_reducible repeat (first | apply Kd.R_alloc | apply Kd.R_drewN | apply Kd.R_drew)); exact HO241.out) hb); have n2_ := Aside0.mk (Kd.R_lower (Kd.R_new' (Kd.R_mono (ok' := fun k_ => True) ho0 (fun _ hk_ => trivial)) (Kd.R_lt (by (with_reducible repeat (first | apply Kd.R_alloc | apply Kd.R_drewN | apply Kd.R_drew)); exact HO_1.out))) (below_size (by repeat (first | (with_reducible first | exact HB.out | apply below_alloc | apply pw_below_drewN | apply below_drew1) | exact HB.out)))); have n3_ := Aside0.mk (below_step (by repeat (first | (with_reducible first | exact HB.out | apply below_alloc | apply pw_below_drewN | apply below_drew1) | exact HB.out)) hb); clear HO_1; clear HO241; clear HB; have HO_1 := n0_; have HO241 := n1_; have HO244 := n2_; have HB := n3_; clear n0_ n1_ n2_ n3_; (try clear hb); (try clear hb2); (try clear hk); (try clear hi); (try clear ho0)) | ((with_reducible refine gate_callee (f := 7) rfl ?_); refine goesL_ (some 53) rfl rfl Tryz.func7 (by kernel_rfl) rfl #[.string (⟨#[48, 49]⟩ : ByteArray)] rfl (by (try simp only [List.map_toArray, List.map_cons, List.map_nil]); first | done | rfl | (simp only [List.length_drop, List.length_take]; rfl)) ?_; (with_reducible refine (gs1_Fixed.calls (⟨#[48, 49]⟩ : ByteArray) t246 t247 t248 _ ?side1 A16.out).mono ?_); (case side1 => exact Tabs.below HT.out (by repeat (first | (with_reducible first | exact HB.out | apply below_alloc | apply pw_below_drewN | apply below_drew1) | exact HB.out))); rintro e w103 ⟨rfl, hb⟩; refine ⟨_, rfl, ?_⟩; have n0_ := Aside0.mk (Kd.R_below (by (with_reducible repeat (first | apply Kd.R_alloc | apply Kd.R_drewN | apply Kd.R_drew)); exact HO_1.out) hb); have n1_ := Aside0.mk (Kd.R_below (by (with_reducible repeat (first | apply Kd.R_alloc | apply Kd.R_drewN | apply Kd.R_drew)); exact HO241.out) hb); have n2_ := Aside0.mk (Kd.R_below (by (with_reducible repeat (first | apply Kd.R_alloc | apply Kd.R_drewN | apply Kd.R_drew)); exact HO244.out) hb); have n3_ := Aside0.mk (below_step (by repeat (first | (with_reducible first | exact HB.out | apply below_alloc | apply pw_below_drewN | apply below_drew1) | exact HB.out)) hb); clear HO_1; clear HO241; clear HO244; clear HB; have HO_1 := n0_; have HO241 := n1_; have HO244 := n2_; have HB := n3_; clear n0_ n1_ n2_ n3_; (try clear hb); (try clear hb2); (try clear hk); (try clear hi)))
      go_ret
      exact ⟨by first | rfl | (simp [errW_none, errW_some] <;> rfl) | (simp [*, errW_none, errW_some] <;> rfl), by repeat (first | (with_reducible first | exact HB.out | apply below_alloc | apply pw_below_drewN | apply below_drew1) | exact HB.out)⟩
    ·rw [if_neg c17] at H
     have c17b0 : (t237 == 0) = false := beq_eq_false_iff_ne.mpr c17
     have c17b1 : (t237 != 0) = true := bne_iff_ne.mpr c17
     obtain rfl := Option.some.inj H
     obtain ⟨Ao104, co104, eo104⟩ := Kd.R_slice HO_1.out
     subst eo104
     go_wp2_with (first | ((with_reducible refine gate_callee (f := 14) rfl ?_); refine goesL_ (some 39) rfl rfl Tryz.func14 (by kernel_rfl) rfl #[.slice Ao104 t230.length co104] rfl (by (try simp only [List.map_toArray, List.map_cons, List.map_nil]); first | done | rfl | (simp only [List.length_drop, List.length_take]; rfl)) ?_; (with_reducible refine (gs1_Format.calls kj1 _ _ t230 t236 t237 _ ?side3 ?side1 ?side2 A13.out).mono ?_); (case side1 => repeat (first | exact (Kd.R_reads' HO_1.out).2.2 | (with_reducible refine Kd.C_alloc ?_ _) | (with_reducible refine Kd.C_drewN ?_ _) | (with_reducible refine Kd.C_drew ?_))); (case side2 => exact (Kd.R_reads' HO_1.out).2.1); (case side3 => exact Tabs.below HT.out (by repeat (first | (with_reducible first | exact HB.out | apply below_alloc | apply pw_below_drewN | apply below_drew1) | exact HB.out))); rintro e w105 ⟨rfl, hb⟩; refine ⟨_, rfl, ?_⟩; have n0_ := Aside0.mk (Kd.R_below (by (with_reducible repeat (first | apply Kd.R_alloc | apply Kd.R_drewN | apply Kd.R_drew)); exact HO_1.out) hb); have n1_ := Aside0.mk (below_step (by repeat (first | (with_reducible first | exact HB.out | apply below_alloc | apply pw_below_drewN | apply below_drew1) | exact HB.out)) hb); clear HO_1; clear HB; have HO_1 := n0_; have HB := n1_; clear n0_ n1_; (try clear hb); (try clear hb2); (try clear hk); (try clear hi)) | ((with_reducible refine gate_callee (f := 17) rfl ?_); refine goesL_ (some 44) rfl rfl Tryz.func17 (by kernel_rfl) rfl #[.slice Ao104 t230.length co104] rfl (by (try simp only [List.map_toArray, List.map_cons, List.map_nil]); first | done | rfl | (simp only [List.length_drop, List.length_take]; rfl)) ?_; (with_reducible refine (gs1_Chars.calls kj1 _ _ t230 t238 t239 _ ?side3 ?side1 ?side2 A14.out).mono ?_); (case side1 => repeat (first | exact (Kd.R_reads' HO_1.out).2.2 | (with_reducible refine Kd.C_alloc ?_ _) | (with_reducible refine Kd.C_drewN ?_ _) | (with_reducible refine Kd.C_drew ?_))); (case side2 => exact (Kd.R_reads' HO_1.out).2.1); (case side3 => exact Tabs.below HT.out (by repeat (first | (with_reducible first | exact HB.out | apply below_alloc | apply pw_below_drewN | apply below_drew1) | exact HB.out))); rintro e w106 ⟨v240, rfl, ho0, hb⟩; refine ⟨_, rfl, ?_⟩; have n0_ := Aside0.mk (Kd.R_below (by (with_reducible repeat (first | apply Kd.R_alloc | apply Kd.R_drewN | apply Kd.R_drew)); exact HO_1.out) hb); have n1_ := Aside0.mk (Kd.R_lower ho0 (below_size (by repeat (first | (with_reducible first | exact HB.out | apply below_alloc | apply pw_below_drewN | apply below_drew1) | exact HB.out)))); have n2_ := Aside0.mk (below_step (by repeat (first | (with_reducible first | exact HB.out | apply below_alloc | apply pw_below_drewN | apply below_drew1) | exact HB.out)) hb); clear HO_1; clear HB; have HO_1 := n0_; have HO241 := n1_; have HB := n2_; clear n0_ n1_ n2_; (try clear hb); (try clear hb2); (try clear hk); (try clear hi); (try clear ho0); obtain ⟨Ao107, co107, eo107⟩ := Kd.R_slice HO241.out; subst eo107) | ((with_reducible refine gate_callee (f := 20) rfl ?_); refine goesL_ (some 49) rfl rfl Tryz.func20 (by kernel_rfl) rfl #[.slice Ao107 t238.length co107] rfl (by (try simp only [List.map_toArray, List.map_cons, List.map_nil]); first | done | rfl | (simp only [List.length_drop, List.length_take]; rfl)) ?_; (with_reducible refine (gs1_FromChars.calls kj1 (fun k_ => some k_ = (.slice Ao107 t238.length co107 : Value).ownBlock) _ _ t238 t242 t245 _ ?side2 ?side1 A15.out).mono ?_); (case side1 => exact Kd.R_V (Kd.R_tight rfl (Kd.R_apart' (HO241.out) (Kd.R_typed HO_1.out) (by decide)))); (case side2 => exact Tabs.below HT.out (by repeat (first | (with_reducible first | exact HB.out | apply below_alloc | apply pw_below_drewN | apply below_drew1) | exact HB.out))); rintro e w108 ⟨v243, rfl, ho0, hb⟩; refine ⟨_, rfl, ?_⟩; have n0_ := Aside0.mk (Kd.R_elder' (by (with_reducible repeat (first | apply Kd.R_alloc | apply Kd.R_drewN | apply Kd.R_drew)); exact HO_1.out) (Kd.R_base ho0) hb); have n1_ := Aside0.mk (Kd.R_below (by (with_reducible repeat (first | apply Kd.R_alloc | apply Kd.R_drewN | apply Kd.R_drew)); exact HO241.out) hb); have n2_ := Aside0.mk (Kd.R_lower (Kd.R_new' (Kd.R_mono (ok' := fun k_ => True) ho0 (fun _ hk_ => trivial)) (Kd.R_lt (by (with_reducible repeat (first | apply Kd.R_alloc | apply Kd.R_drewN | apply Kd.R_drew)); exact HO_1.out))) (below_size (by repeat (first | (with_reducible first | exact HB.out | apply below_alloc | apply pw_below_drewN | apply below_drew1) | exact HB.out)))); have n3_ := Aside0.mk (below_step (by repeat (first | (with_reducible first | exact HB.out | apply below_alloc | apply pw_below_drewN | apply below_drew1) | exact HB.out)) hb); clear HO_1; clear HO241; clear HB; have HO_1 := n0_; have HO241 := n1_; have HO244 := n2_; have HB := n3_; clear n0_ n1_ n2_ n3_; (try clear hb); (try clear hb2); (try clear hk); (try clear hi); (try clear ho0)) | ((with_reducible refine gate_callee (f := 7) rfl ?_); refine goesL_ (some 53) rfl rfl Tryz.func7 (by kernel_rfl) rfl #[.string (⟨#[48, 49]⟩ : ByteArray)] rfl (by (try simp only [List.map_toArray, List.map_cons, List.map_nil]); first | done | rfl | (simp only [List.length_drop, List.length_take]; rfl)) ?_; (with_reducible refine (gs1_Fixed.calls (⟨#[48, 49]⟩ : ByteArray) t246 t247 t248 _ ?side1 A16.out).mono ?_); (case side1 => exact Tabs.below HT.out (by repeat (first | (with_reducible first | exact HB.out | apply below_alloc | apply pw_below_drewN | apply below_drew1) | exact HB.out))); rintro e w109 ⟨rfl, hb⟩; refine ⟨_, rfl, ?_⟩; have n0_ := Aside0.mk (Kd.R_below (by (with_reducible repeat (first | apply Kd.R_alloc | apply Kd.R_drewN | apply Kd.R_drew)); exact HO_1.out) hb); have n1_ := Aside0.mk (Kd.R_below (by (with_reducible repeat (first | apply Kd.R_alloc | apply Kd.R_drewN | apply Kd.R_drew)); exact HO241.out) hb); have n2_ := Aside0.mk (Kd.R_below (by (with_reducible repeat (first | apply Kd.R_alloc | apply Kd.R_drewN | apply Kd.R_drew)); exact HO244.out) hb); have n3_ := Aside0.mk (below_step (by repeat (first | (with_reducible first | exact HB.out | apply below_alloc | apply pw_below_drewN | apply below_drew1) | exact HB.out)) hb); clear HO_1; clear HO241; clear HO244; clear HB; have HO_1 := n0_; have HO241 := n1_; have HO244 := n2_; have HB := n3_; clear n0_ n1_ n2_ n3_; (try clear hb); (try clear hb2); (try clear hk); (try clear hi)))
     go_ret
     exact ⟨by first | rfl | (simp [errW_none, errW_some] <;> rfl) | (simp [*, errW_none, errW_some] <;> rfl), by repeat (first | (with_reducible first | exact HB.out | apply below_alloc | apply pw_below_drewN | apply below_drew1) | exact HB.out)⟩

end Go.Proofs.YtghlbdemlmbijaaGreatDoor.Q
