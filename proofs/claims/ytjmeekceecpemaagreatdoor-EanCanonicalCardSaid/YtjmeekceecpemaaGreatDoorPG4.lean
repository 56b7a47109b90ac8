/- Joined by a program of this work (pack.py) out of the texts QeanCompress, QeanExpand, Qbarscanlaw11examples, Ex of this seat, in build order. -/
import Derived.Test.YtjmeekceecpemaaGreatDoorPG3
namespace Go.Proofs.YtjmeekceecpemaaGreatDoor.Q
open Go.RowKit Go.Proofs.YtjmeekceecpemaaGreatDoorW.PrintWords Go.Proofs.YtjmeekceecpemaaGreatDoorW.PrintLast Go.Proofs.YtjmeekceecpemaaGreatDoorW.PrintMore

set_option linter.unusedVariables false
set_option linter.unusedSimpArgs false

/-! ### ean_Compress: function 19 -/
def ean_Compress.l0 : Nat → ByteArray → List ByteArray → Int → Int → Option (ByteArray × Int)
 | 0, _, _, _, _ => none
 | k + 1, x5, x42, x43, x44 => if x44 < x43 then (if 0 ≤ x44 then (if x44 < (x42.length : Int) then (if 6 < ((rdOf ByteArray.empty x42 x44).size : Int) then ((some (([decide ((bt (rdOf ByteArray.empty x42 x44) 6) ≤ 50), true, true, decide ((bt (rdOf ByteArray.empty x42 x44) 6) ≥ 53)] : List Bool) : List Bool)).bind fun y468 => (if x44 < (y468.length : Int) then (if rdOf false y468 x44 = true then (if 0 < ((rdOf ByteArray.empty x42 x44).size : Int) then (if (bt (rdOf ByteArray.empty x42 x44) 0) ≤ 49 then ((ean_expanded.f (rdOf ByteArray.empty x42 x44)).bind fun t472 => (if 0 ≤ 11 then (if 11 ≤ (x5.size : Int) then (if t472.toList = (x5.extract 0 11).toList then (if (rdOf ByteArray.empty x42 x44).size + (x5.extract 11 x5.size).size ≤ 9223372036854775807 then (some ((rdOf ByteArray.empty x42 x44) ++ (x5.extract 11 x5.size), 0)) else (none)) else (ean_Compress.l0 k x5 x42 x43 (wrap64 (x44 + 1)))) else (none)) else (none))) else (ean_Compress.l0 k x5 x42 x43 (wrap64 (x44 + 1)))) else (none)) else (ean_Compress.l0 k x5 x42 x43 (wrap64 (x44 + 1)))) else (none))) else (none)) else (none)) else (none)) else (some ((⟨#[]⟩ : ByteArray), 9))
def ean_Compress.f (k : Nat) (a0 : ByteArray) : Option (ByteArray × Int) := (ean_complete.f k 3 a0).bind fun t463 => (if t463 = 0 then (if 0 ≤ 3 then (if 3 ≤ (a0.size : Int) then (if 8 ≤ 11 then (if 11 ≤ (a0.size : Int) then (if (a0.extract 0 3).size + (a0.extract 8 11).size ≤ 9223372036854775807 then (if 3 ≤ 4 then (if 4 ≤ (a0.size : Int) then (if ((a0.extract 0 3) ++ (a0.extract 8 11)).size + (a0.extract 3 4).size ≤ 9223372036854775807 then (if 0 ≤ 4 then (if 9 ≤ 11 then (if (a0.extract 0 4).size + (a0.extract 9 11).size ≤ 9223372036854775807 then (if ((a0.extract 0 4) ++ (a0.extract 9 11)).size + 1 ≤ 9223372036854775807 then (if 0 ≤ 5 then (if 5 ≤ (a0.size : Int) then (if 10 ≤ 11 then (if (a0.extract 0 5).size + (a0.extract 10 11).size ≤ 9223372036854775807 then (if ((a0.extract 0 5) ++ (a0.extract 10 11)).size + 1 ≤ 9223372036854775807 then (if 0 ≤ 6 then (if 6 ≤ (a0.size : Int) then (if (a0.extract 0 6).size + (a0.extract 10 11).size ≤ 9223372036854775807 then ((some (([((a0.extract 0 3) ++ (a0.extract 8 11)) ++ (a0.extract 3 4), ((a0.extract 0 4) ++ (a0.extract 9 11)) ++ (⟨#[51]⟩ : ByteArray), ((a0.extract 0 5) ++ (a0.extract 10 11)) ++ (⟨#[52]⟩ : ByteArray), (a0.extract 0 6) ++ (a0.extract 10 11)] : List ByteArray) : List ByteArray)).bind fun y464 => (ean_Compress.l0 k a0 y464 (y464.length : Int) 0)) else (none)) else (none)) else (none)) else (none)) else (none)) else (none)) else (none)) else (none)) else (none)) else (none)) else (none)) else (none)) else (none)) else (none)) else (none)) else (none)) else (none)) else (none)) else (none)) else (none)) else (some ((⟨#[]⟩ : ByteArray), t463)))
theorem ean_Compress.mono_l : ∀ k, (∀ y0 y1 y2 y3, LeO (ean_Compress.l0 k y0 y1 y2 y3) (ean_Compress.l0 (k + 1) y0 y1 y2 y3))
 | 0 => fun _ _ _ _ r h => by simp [ean_Compress.l0] at h
 | k + 1 => by
  have ih0 := ean_Compress.mono_l k
  ·intro y0 y1 y2 y3
   unfold ean_Compress.l0
   repeat' with_reducible first | exact ih0 _ _ _ _ | exact ean_complete.mono _ _ _ | exact LeO.refl _ | exact LeO.none _ | refine LeO.ite ?_ ?_ | refine LeO.bind ?_ (fun _ => ?_)
theorem ean_Compress.mono : ∀ a0 k, LeO (ean_Compress.f k a0) (ean_Compress.f (k + 1) a0) := by
 intro a0 k
 have ih0 := ean_Compress.mono_l k
 unfold ean_Compress.f
 repeat' with_reducible first | exact ih0 _ _ _ _ | exact ean_complete.mono _ _ _ | exact LeO.refl _ | exact LeO.none _ | refine LeO.ite ?_ ?_ | refine LeO.bind ?_ (fun _ => ?_)
def ean_Compress.T5 : Bool × List (List Nat × List Nat) := (true, [([], []), ([0], [0]), ([], []), ([2], [2]), ([1, 3], [1, 3]), ([], []), ([5], [5]), ([4, 6], [4, 6]), ([], []), ([8], [8]), ([], []), ([10], [10]), ([9, 11], [9, 11]), ([12], [12]), ([], []), ([14], [14]), ([], []), ([16], [16]), ([15, 17], [15, 17]), ([18], [18]), ([], []), ([20], [20]), ([], []), ([22], [22]), ([21, 23], [21, 23]), ([7, 13, 19, 24], [7, 13, 19, 24]), ([25, 0, 1, 2, 3, 4, 5, 6, 7, 8, 9, 10, 11, 12, 13, 14, 15, 16, 17, 18, 19, 20, 21, 22, 23, 24, 25], [25])])
def ean_Compress.B5 : List Nat := [0, 1, 0, 4, 15, 0, 32, 127, 0, 256, 0, 1024, 3840, 7936, 0, 16384, 0, 65536, 245760, 507904, 0, 1048576, 0, 4194304, 15728640, 33554431, 67108863]
theorem ean_Compress.tab5 : rtab .any (opsOf Tryz.f19 5) = ean_Compress.T5 := kr
theorem ean_Compress.bits5 : waitsOk ean_Compress.T5.2 ean_Compress.B5 = true := kr
def ean_Compress.T9 : Bool × List (List Nat × List Nat) := (true, [([], []), ([0], [0]), ([1], [1]), ([], []), ([3], [3]), ([4], [4]), ([2, 5], [2, 5]), ([], []), ([6, 7], [6, 7]), ([8], [8]), ([9, 0, 1, 2, 3, 4, 5, 6, 7, 8, 9], [9])])
def ean_Compress.B9 : List Nat := [0, 1, 3, 0, 8, 24, 63, 0, 255, 511, 1023]
theorem ean_Compress.tab9 : rtab .any (opsOf Tryz.f19 9) = ean_Compress.T9 := kr
theorem ean_Compress.bits9 : waitsOk ean_Compress.T9.2 ean_Compress.B9 = true := kr
def ean_Compress.T10 : Bool × List (List Nat × List Nat) := (true, [([], []), ([0], [0]), ([1], [1]), ([2, 1], [1, 2]), ([3, 1], [1, 3]), ([1, 4], [1, 4]), ([5, 1], [5]), ([6], [6]), ([7, 6, 6], [6, 7]), ([6], [6]), ([9, 6], [6, 9]), ([8, 10, 6], [6, 8, 10]), ([6, 11], [6, 11])])
def ean_Compress.B10 : List Nat := [0, 1, 3, 7, 15, 31, 63, 127, 255, 127, 639, 2047, 4095]
theorem ean_Compress.tab10 : rtab .any (opsOf Tryz.f19 10) = ean_Compress.T10 := kr
theorem ean_Compress.bits10 : waitsOk ean_Compress.T10.2 ean_Compress.B10 = true := kr
set_option maxHeartbeats 8000000 in
set_option maxRecDepth 100000 in
theorem ean_Compress.calls (k : Nat) (a0 : ByteArray) (r1 : ByteArray) (r2 : Int) (w : World) (h : ean_Compress.f k a0 = some (r1, r2)) :
  Calls Tryz.prog 19 #[.string a0] w fun e w' => e = .returned (.tuple #[.string r1, .int .i64 r2]) ∧ Below w.heap.size w w' := by
 have HB := Aside0.mk (Below.refl w.heap.size w)
 have H := h
 clear h
 unfold ean_Compress.f at H
 replace H := bd H
 obtain ⟨t463, A2, H⟩ := H
 replace H := ifc H
 obtain ⟨c3, H⟩ | ⟨c3, H⟩ := H
 rotate_left
 ·have c3b0 : (t463 == 0) = false := beq_eq_false_iff_ne.mpr c3
  have c3b1 : (t463 != 0) = true := bne_iff_ne.mpr c3
  simp only [Option.some.injEq, Prod.mk.injEq] at H
  obtain ⟨rfl, rfl⟩ := H
  go_enter Tryz.func19, Tryz.ntmps19
  go_wp2_with (first | ((with_reducible refine gate_callee (f := 26) rfl ?_); refine goesL_ (some 11) rfl rfl Tryz.func26 kr rfl #[.int .i64 3, .string a0] rfl ar ?_; (with_reducible refine (ean_complete.calls k 3 a0 t463 _ A2.out).mono ?_); rintro e w72 ⟨rfl, hb⟩; refine ⟨_, rfl, ?_⟩; replace HB := Aside0.mk (below_step bw hb); clear hb))
  go_ret2
  exact ⟨es, bw⟩
 have c3b0 : (t463 == 0) = true := beq_iff_eq.mpr c3
 have c3b1 : (t463 != 0) = false := bne_eq_false_iff_eq.mpr c3
 clear c3
 replace H := ifn H
 obtain ⟨c4, H⟩ := H
 have c4b0 := eq_true c4
 try have c4b0s := s1 c4b0
 have c4b1 : decide (0 ≤ 3) = true := decide_eq_true c4
 clear c4
 by_cases c5 : 3 ≤ (a0.size : Int)
 rotate_left
 ·rw [if_neg c5] at H
  exact absurd H (by simp)
 rw [if_pos c5] at H
 have c5b0 := eq_true c5
 try have c5b0s := s1 c5b0
 have c5b1 : decide (3 ≤ (a0.size : Int)) = true := decide_eq_true c5
 clear c5
 replace H := ifn H
 obtain ⟨c6, H⟩ := H
 have c6b0 := eq_true c6
 try have c6b0s := s1 c6b0
 have c6b1 : decide (8 ≤ 11) = true := decide_eq_true c6
 clear c6
 by_cases c7 : 11 ≤ (a0.size : Int)
 rotate_left
 ·rw [if_neg c7] at H
  exact absurd H (by simp)
 rw [if_pos c7] at H
 have c7b0 := eq_true c7
 try have c7b0s := s1 c7b0
 have c7b1 : decide (11 ≤ (a0.size : Int)) = true := decide_eq_true c7
 clear c7
 replace H := ifn H
 obtain ⟨c8, H⟩ := H
 have c8b0 := eq_true c8
 try have c8b0s := s1 c8b0
 have c8b1 : decide ((a0.extract 0 3).size + (a0.extract 8 11).size ≤ 9223372036854775807) = true := decide_eq_true c8
 try have c8b1s := s4 c8b1
 try have c8b1t := s3 c8b1
 try have c8b2 : (9223372036854775807 < (a0.extract 0 3).size + (a0.extract 8 11).size) = False := eq_false (Nat.not_lt.2 c8)
 try have c8b2s := s2 c8b2
 by_cases c9 : 3 ≤ 4
 rotate_left
 ·rw [if_neg c9] at H
  exact absurd H (by simp)
 rw [if_pos c9] at H
 have c9b0 := eq_true c9
 try have c9b0s := s1 c9b0
 have c9b1 : decide (3 ≤ 4) = true := decide_eq_true c9
 clear c9
 replace H := ifn H
 obtain ⟨c10, H⟩ := H
 have c10b0 := eq_true c10
 try have c10b0s := s1 c10b0
 have c10b1 : decide (4 ≤ (a0.size : Int)) = true := decide_eq_true c10
 clear c10
 by_cases c11 : ((a0.extract 0 3) ++ (a0.extract 8 11)).size + (a0.extract 3 4).size ≤ 9223372036854775807
 rotate_left
 ·rw [if_neg c11] at H
  exact absurd H (by simp)
 rw [if_pos c11] at H
 have c11b0 := eq_true c11
 try have c11b0s := s1 c11b0
 have c11b1 : decide (((a0.extract 0 3) ++ (a0.extract 8 11)).size + (a0.extract 3 4).size ≤ 9223372036854775807) = true := decide_eq_true c11
 try have c11b1s := s4 c11b1
 try have c11b1t := s3 c11b1
 try have c11b2 : (9223372036854775807 < ((a0.extract 0 3) ++ (a0.extract 8 11)).size + (a0.extract 3 4).size) = False := eq_false (Nat.not_lt.2 c11)
 try have c11b2s := s2 c11b2
 replace H := ifn H
 obtain ⟨c12, H⟩ := H
 have c12b0 := eq_true c12
 try have c12b0s := s1 c12b0
 have c12b1 : decide (0 ≤ 4) = true := decide_eq_true c12
 clear c12
 have c13b0 := eq_true (of_decide_eq_true am : 4 ≤ (a0.size : Int))
 try have c13b0s := s1 c13b0
 by_cases c14 : 9 ≤ 11
 rotate_left
 ·rw [if_neg c14] at H
  exact absurd H (by simp)
 rw [if_pos c14] at H
 have c14b0 := eq_true c14
 try have c14b0s := s1 c14b0
 have c14b1 : decide (9 ≤ 11) = true := decide_eq_true c14
 clear c14
 have c15b0 := eq_true (of_decide_eq_true am : 11 ≤ (a0.size : Int))
 try have c15b0s := s1 c15b0
 replace H := ifn H
 obtain ⟨c16, H⟩ := H
 have c16b0 := eq_true c16
 try have c16b0s := s1 c16b0
 have c16b1 : decide ((a0.extract 0 4).size + (a0.extract 9 11).size ≤ 9223372036854775807) = true := decide_eq_true c16
 try have c16b1s := s4 c16b1
 try have c16b1t := s3 c16b1
 try have c16b2 : (9223372036854775807 < (a0.extract 0 4).size + (a0.extract 9 11).size) = False := eq_false (Nat.not_lt.2 c16)
 try have c16b2s := s2 c16b2
 by_cases c17 : ((a0.extract 0 4) ++ (a0.extract 9 11)).size + 1 ≤ 9223372036854775807
 rotate_left
 ·rw [if_neg c17] at H
  exact absurd H (by simp)
 rw [if_pos c17] at H
 have c17b0 := eq_true c17
 try have c17b0s := s1 c17b0
 have c17b1 : decide (((a0.extract 0 4) ++ (a0.extract 9 11)).size + 1 ≤ 9223372036854775807) = true := decide_eq_true c17
 try have c17b1s := s4 c17b1
 try have c17b1t := s3 c17b1
 try have c17b2 : (9223372036854775807 < ((a0.extract 0 4) ++ (a0.extract 9 11)).size + 1) = False := eq_false (Nat.not_lt.2 c17)
 try have c17b2s := s2 c17b2
 replace H := ifn H
 obtain ⟨c18, H⟩ := H
 have c18b0 := eq_true c18
 try have c18b0s := s1 c18b0
 have c18b1 : decide (0 ≤ 5) = true := decide_eq_true c18
 clear c18
 by_cases c19 : 5 ≤ (a0.size : Int)
 rotate_left
 ·rw [if_neg c19] at H
  exact absurd H (by simp)
 rw [if_pos c19] at H
 have c19b0 := eq_true c19
 try have c19b0s := s1 c19b0
 have c19b1 : decide (5 ≤ (a0.size : Int)) = true := decide_eq_true c19
 clear c19
 replace H := ifn H
 obtain ⟨c20, H⟩ := H
 have c20b0 := eq_true c20
 try have c20b0s := s1 c20b0
 have c20b1 : decide (10 ≤ 11) = true := decide_eq_true c20
 clear c20
 have c21b0 := eq_true (of_decide_eq_true am : 11 ≤ (a0.size : Int))
 try have c21b0s := s1 c21b0
 by_cases c22 : (a0.extract 0 5).size + (a0.extract 10 11).size ≤ 9223372036854775807
 rotate_left
 ·rw [if_neg c22] at H
  exact absurd H (by simp)
 rw [if_pos c22] at H
 have c22b0 := eq_true c22
 try have c22b0s := s1 c22b0
 have c22b1 : decide ((a0.extract 0 5).size + (a0.extract 10 11).size ≤ 9223372036854775807) = true := decide_eq_true c22
 try have c22b1s := s4 c22b1
 try have c22b1t := s3 c22b1
 try have c22b2 : (9223372036854775807 < (a0.extract 0 5).size + (a0.extract 10 11).size) = False := eq_false (Nat.not_lt.2 c22)
 try have c22b2s := s2 c22b2
 replace H := ifn H
 obtain ⟨c23, H⟩ := H
 have c23b0 := eq_true c23
 try have c23b0s := s1 c23b0
 have c23b1 : decide (((a0.extract 0 5) ++ (a0.extract 10 11)).size + 1 ≤ 9223372036854775807) = true := decide_eq_true c23
 try have c23b1s := s4 c23b1
 try have c23b1t := s3 c23b1
 try have c23b2 : (9223372036854775807 < ((a0.extract 0 5) ++ (a0.extract 10 11)).size + 1) = False := eq_false (Nat.not_lt.2 c23)
 try have c23b2s := s2 c23b2
 by_cases c24 : 0 ≤ 6
 rotate_left
 ·rw [if_neg c24] at H
  exact absurd H (by simp)
 rw [if_pos c24] at H
 have c24b0 := eq_true c24
 try have c24b0s := s1 c24b0
 have c24b1 : decide (0 ≤ 6) = true := decide_eq_true c24
 clear c24
 replace H := ifn H
 obtain ⟨c25, H⟩ := H
 have c25b0 := eq_true c25
 try have c25b0s := s1 c25b0
 have c25b1 : decide (6 ≤ (a0.size : Int)) = true := decide_eq_true c25
 clear c25
 have c26b0 := eq_true (of_decide_eq_true am : 10 ≤ 11)
 try have c26b0s := s1 c26b0
 have c27b0 := eq_true (of_decide_eq_true am : 11 ≤ (a0.size : Int))
 try have c27b0s := s1 c27b0
 by_cases c28 : (a0.extract 0 6).size + (a0.extract 10 11).size ≤ 9223372036854775807
 rotate_left
 ·rw [if_neg c28] at H
  exact absurd H (by simp)
 rw [if_pos c28] at H
 have c28b0 := eq_true c28
 try have c28b0s := s1 c28b0
 have c28b1 : decide ((a0.extract 0 6).size + (a0.extract 10 11).size ≤ 9223372036854775807) = true := decide_eq_true c28
 try have c28b1s := s4 c28b1
 try have c28b1t := s3 c28b1
 try have c28b2 : (9223372036854775807 < (a0.extract 0 6).size + (a0.extract 10 11).size) = False := eq_false (Nat.not_lt.2 c28)
 try have c28b2s := s2 c28b2
 obtain ⟨y464, hy464⟩ : ∃ y_ : List ByteArray, y_ = (([((a0.extract 0 3) ++ (a0.extract 8 11)) ++ (a0.extract 3 4), ((a0.extract 0 4) ++ (a0.extract 9 11)) ++ (⟨#[51]⟩ : ByteArray), ((a0.extract 0 5) ++ (a0.extract 10 11)) ++ (⟨#[52]⟩ : ByteArray), (a0.extract 0 6) ++ (a0.extract 10 11)] : List ByteArray)) := ⟨_, rfl⟩
 replace H : (ean_Compress.l0 k a0 y464 (y464.length : Int) 0) = some (r1, r2) := by first | (rw [hy464]; with_reducible exact H) | (have H2_ := (Option.bind_some _ _).symm.trans H; rw [hy464]; with_reducible exact H2_) | (have H2_ := (Option.bind_some _ _).symm.trans H; with_reducible exact H2_) | with_reducible exact H | (rw [hy464]; exact H) | exact H
 have Ny464 := Aside0.mk hy464
 clear hy464
 have H' := Aside0.mk H
 clear H
 go_enter Tryz.func19, Tryz.ntmps19
 try go_wp2_with (first | ((with_reducible refine gate_callee (f := 26) rfl ?_); refine goesL_ (some 11) rfl rfl Tryz.func26 kr rfl #[.int .i64 3, .string a0] rfl ar ?_; (with_reducible refine (ean_complete.calls k 3 a0 t463 _ A2.out).mono ?_); rintro e w29 ⟨rfl, hb⟩; refine ⟨_, rfl, ?_⟩; replace HB := Aside0.mk (below_step bw hb); clear hb))
 have n0_ := Aside0.mk (below_drew1 HB.out)
 clear HB
 have HB := n0_
 clear n0_
 refine start_ (n := 27) (S := fun w' => True) (ds := []) #[false, false, false, false, false, false, false, false, false, false, false, false, false, false, false, false, false, false, false, false, false, false, false, false, false, false, false] kr rfl rfl trivial (fun hHeld => ?_); refine with_tabW ean_Compress.tab5 ean_Compress.bits5 (fun HT_ HW_ => ?_)
 generalize w29.drew = w30 at HB hHeld ⊢
 refine pu HT_ 0 16 (h := ?_)
 refine pu HT_ 1 17 (h := ?_)
 refine pu HT_ 2 18 (h := ?_)
 refine pu HT_ 3 19 (h := ?_)
 refine pu HT_ 4 20 (h := ?_)
 refine pu HT_ 5 21 (h := ?_)
 refine pu HT_ 6 22 (h := ?_)
 refine pu HT_ 7 23 (h := ?_)
 refine pu HT_ 8 24 (h := ?_)
 refine pu HT_ 9 25 (h := ?_)
 refine pu HT_ 10 26 (h := ?_)
 refine pu HT_ 11 27 (h := ?_)
 refine pu HT_ 12 28 (h := ?_)
 refine pu HT_ 13 29 (h := ?_)
 refine pu HT_ 14 30 (h := ?_)
 refine pu HT_ 15 31 (h := ?_)
 refine pu HT_ 16 32 (h := ?_)
 refine pu HT_ 17 33 (h := ?_)
 refine pu HT_ 18 34 (h := ?_)
 refine pu HT_ 19 35 (h := ?_)
 refine pu HT_ 20 36 (h := ?_)
 refine pu HT_ 21 37 (h := ?_)
 refine pu HT_ 22 38 (h := ?_)
 refine pu HT_ 23 39 (h := ?_)
 refine pu HT_ 24 40 (h := ?_)
 refine on HT_ 25 41 (h := fun K hK => ?_)
 refine Kd.R_lit_step Kd.string _ 9 ?hg (N := 41) ?hd (xs := ([((a0.extract 0 3) ++ (a0.extract 8 11)) ++ (a0.extract 3 4), ((a0.extract 0 4) ++ (a0.extract 9 11)) ++ (⟨#[51]⟩ : ByteArray), ((a0.extract 0 5) ++ (a0.extract 10 11)) ++ (⟨#[52]⟩ : ByteArray), (a0.extract 0 6) ++ (a0.extract 10 11)] : List ByteArray)) (inner := [.string (((a0.extract 0 3) ++ (a0.extract 8 11)) ++ (a0.extract 3 4)), .string (((a0.extract 0 4) ++ (a0.extract 9 11)) ++ (⟨#[51]⟩ : ByteArray)), .string (((a0.extract 0 5) ++ (a0.extract 10 11)) ++ (⟨#[52]⟩ : ByteArray)), .string ((a0.extract 0 6) ++ (a0.extract 10 11))]) (ok := fun _ => True) (okp := fun _ => True) ?hr ?hp (fun _ hk => hk) trivial (Below.refl _ _) (Nat.le_refl _) (by simp) ?_; (case hd => rfl); (case hg => rfl); (case hr => first | (go_simp; done) | (go_simp; rfl)); (case hp => exact (Reps.one (show Kd.M Kd.string _ _ _ (((a0.extract 0 3) ++ (a0.extract 8 11)) ++ (a0.extract 3 4)) [.string (((a0.extract 0 3) ++ (a0.extract 8 11)) ++ (a0.extract 3 4))] from rfl) (Reps.one (show Kd.M Kd.string _ _ _ (((a0.extract 0 4) ++ (a0.extract 9 11)) ++ (⟨#[51]⟩ : ByteArray)) [.string (((a0.extract 0 4) ++ (a0.extract 9 11)) ++ (⟨#[51]⟩ : ByteArray))] from rfl) (Reps.one (show Kd.M Kd.string _ _ _ (((a0.extract 0 5) ++ (a0.extract 10 11)) ++ (⟨#[52]⟩ : ByteArray)) [.string (((a0.extract 0 5) ++ (a0.extract 10 11)) ++ (⟨#[52]⟩ : ByteArray))] from rfl) (Reps.one (show Kd.M Kd.string _ _ _ ((a0.extract 0 6) ++ (a0.extract 10 11)) [.string ((a0.extract 0 6) ++ (a0.extract 10 11))] from rfl) (Reps.none _ _))))))
 intro v465 w31 ho32 hb hg_ hnew_
 clear hg_ hnew_
 (first | rw [← Ny464.out] at ho32 | (simp only [Int.reduceToNat] at ho32; rw [← Ny464.out] at ho32))
 have n0_ := Aside0.mk (Kd.R_lower ho32 (below_size bw))
 have n1_ := Aside0.mk (below_step bw hb)
 clear HB
 have HO466 := n0_
 have HB := n1_
 clear n0_ n1_
 clear hb ho32
 refine hK.out _ _ trivial (fun hHeld => ?_)
 clear hK K
 refine nm (h := ?_)
 refine pu HT_ 26 6 (h := ?_)
 refine done_ (done_of HT_.out kr) ?_
 obtain ⟨Ao33, co33, eo33⟩ := Kd.R_slice HO466.out
 subst eo33
 try go_wp2
 go_loopg [44] k (fun kq v44 w' => ∃ (x44_1 : Int), v44 = .int .i64 x44_1 ∧ Aside0 (ean_Compress.l0 kq a0 y464 (y464.length : Int) x44_1 = some (r1, r2)) ∧ Aside0 (kq ≤ k) ∧ Aside0 (Kd.R Kd.string 9 w' w.heap.size (fun _ => True) (.slice Ao33 y464.length co33) y464) ∧ Aside0 (Below w.heap.size w w'))
 case atStart => exact ⟨(0), rs, H', ⟨Nat.le_refl _⟩, ⟨kd HO466⟩, ⟨bw⟩⟩
 case round =>
  clear H'
  obtain ⟨x44_1, rfl, HA, HK1, HO_42, HB⟩ := hrel
  cases gk with
  | zero => exact absurd HA.out (by simp [ean_Compress.l0])
  | succ k1 =>
   have H := HA.out
   clear HA
   simp only [ean_Compress.l0] at H
   replace H := ifc H
   obtain ⟨c34, H⟩ | ⟨c34, H⟩ := H
   rotate_left
   ·have c34b0 : decide (x44_1 < (y464.length : Int)) = false := decide_eq_false c34
    clear c34
    simp only [Option.some.injEq, Prod.mk.injEq] at H
    obtain ⟨rfl, rfl⟩ := H
    go_wp2
    go_ret2
    exact ⟨es, bw⟩
   have c34b0 : decide (x44_1 < (y464.length : Int)) = true := decide_eq_true c34
   clear c34
   replace H := ifn H
   obtain ⟨c35, H⟩ := H
   have c35b0 : decide (0 ≤ x44_1) = true := decide_eq_true c35
   clear c35
   by_cases c36 : x44_1 < (y464.length : Int)
   rotate_left
   ·rw [if_neg c36] at H
    exact absurd H (by simp)
   rw [if_pos c36] at H
   have c36b0 : decide (x44_1 < (y464.length : Int)) = true := decide_eq_true c36
   clear c36
   replace H := ifn H
   obtain ⟨c37, H⟩ := H
   have c37b0 : decide (6 < ((rdOf ByteArray.empty y464 x44_1).size : Int)) = true := decide_eq_true c37
   have c37b1 : decide (6 < (rdOf ByteArray.empty y464 x44_1).size) = true := decide_eq_true om
   clear c37
   obtain ⟨y468, hy468⟩ : ∃ y_ : List Bool, y_ = (([decide ((bt (rdOf ByteArray.empty y464 x44_1) 6) ≤ 50), true, true, decide ((bt (rdOf ByteArray.empty y464 x44_1) 6) ≥ 53)] : List Bool)) := ⟨_, rfl⟩
   replace H : (if x44_1 < (y468.length : Int) then (if rdOf false y468 x44_1 = true then (if 0 < ((rdOf ByteArray.empty y464 x44_1).size : Int) then (if (bt (rdOf ByteArray.empty y464 x44_1) 0) ≤ 49 then ((ean_expanded.f (rdOf ByteArray.empty y464 x44_1)).bind fun t472 => (if 0 ≤ 11 then (if 11 ≤ (a0.size : Int) then (if t472.toList = (a0.extract 0 11).toList then (if (rdOf ByteArray.empty y464 x44_1).size + (a0.extract 11 a0.size).size ≤ 9223372036854775807 then (some ((rdOf ByteArray.empty y464 x44_1) ++ (a0.extract 11 a0.size), 0)) else (none)) else (ean_Compress.l0 k1 a0 y464 (y464.length : Int) (wrap64 (x44_1 + 1)))) else (none)) else (none))) else (ean_Compress.l0 k1 a0 y464 (y464.length : Int) (wrap64 (x44_1 + 1)))) else (none)) else (ean_Compress.l0 k1 a0 y464 (y464.length : Int) (wrap64 (x44_1 + 1)))) else (none)) = some (r1, r2) := by first | (rw [hy468]; with_reducible exact H) | (have H2_ := (Option.bind_some _ _).symm.trans H; rw [hy468]; with_reducible exact H2_) | (have H2_ := (Option.bind_some _ _).symm.trans H; with_reducible exact H2_) | with_reducible exact H | (rw [hy468]; exact H) | exact H
   have Ny468 := Aside0.mk hy468
   clear hy468
   by_cases c40 : x44_1 < (y468.length : Int)
   rotate_left
   ·rw [if_neg c40] at H
    exact absurd H (by simp)
   rw [if_pos c40] at H
   have c40b0 : decide (x44_1 < (y468.length : Int)) = true := decide_eq_true c40
   clear c40
   obtain ⟨bq41, hbq41⟩ : ∃ b_ : Bool, b_ = (rdOf false y468 x44_1) := ⟨_, rfl⟩
   replace H : (if bq41 = true then (if 0 < ((rdOf ByteArray.empty y464 x44_1).size : Int) then (if (bt (rdOf ByteArray.empty y464 x44_1) 0) ≤ 49 then ((ean_expanded.f (rdOf ByteArray.empty y464 x44_1)).bind fun t472 => (if 0 ≤ 11 then (if 11 ≤ (a0.size : Int) then (if t472.toList = (a0.extract 0 11).toList then (if (rdOf ByteArray.empty y464 x44_1).size + (a0.extract 11 a0.size).size ≤ 9223372036854775807 then (some ((rdOf ByteArray.empty y464 x44_1) ++ (a0.extract 11 a0.size), 0)) else (none)) else (ean_Compress.l0 k1 a0 y464 (y464.length : Int) (wrap64 (x44_1 + 1)))) else (none)) else (none))) else (ean_Compress.l0 k1 a0 y464 (y464.length : Int) (wrap64 (x44_1 + 1)))) else (none)) else (ean_Compress.l0 k1 a0 y464 (y464.length : Int) (wrap64 (x44_1 + 1)))) = some (r1, r2) := by rw [← hbq41] at H; exact H
   have Nbq41 := Aside0.mk hbq41
   clear hbq41
   by_cases c42 : bq41 = true
   rotate_left
   ·replace c42 := Bool.eq_false_iff.mpr c42
    subst c42
    rw [if_neg (show ¬ (false = true) by decide)] at H
    have H' := Aside0.mk H
    clear H
    have p467 : 0 ≤ (x44_1 : Int) := of_decide_eq_true am
    have q467 : x44_1 < (y464.length : Int) := of_decide_eq_true am
    obtain ⟨ad467, e467, hx467_0⟩ := Kd.at_string (Kd.R_reads' HO_42.out).2.2 x44_1 p467 q467
    cases e467
    replace p467 := eq_true p467
    replace q467 := eq_true q467
    try have q467s := s1 q467
    try go_wp2
    have pi471 : (0 ≤ (x44_1 : Int)) = True := eq_true (of_decide_eq_true am)
    have qi471 : (x44_1 < (y468.length : Int)) = True := eq_true (of_decide_eq_true am)
    have n0_ := Aside0.mk (Kd.R_drew HO_42.out)
    have n1_ := Aside0.mk (below_drew1 HB.out)
    clear HO_42
    clear HB
    have HO_42 := n0_
    have HB := n1_
    clear n0_ n1_
    have p38 : 0 ≤ (6 : Int) := om
    have q38 : 6 < (rdOf ByteArray.empty y464 x44_1).size := (by have : (6 : Int) < ((rdOf ByteArray.empty y464 x44_1).size : Int) := of_decide_eq_true am; omega)
    have hx38 : ∀ h : 6 < (rdOf ByteArray.empty y464 x44_1).size, (((rdOf ByteArray.empty y464 x44_1)[6]'h).toNat : Int) = bt (rdOf ByteArray.empty y464 x44_1) 6 := bt_at (rdOf ByteArray.empty y464 x44_1) 6
    clear p38
    have qi38 : (6 < ((rdOf ByteArray.empty y464 x44_1).size : Int)) = True := eq_true (of_decide_eq_true am)
    replace q38 := eq_true q38
    try have q38s := s1 q38
    have p39 : 0 ≤ (6 : Int) := om
    have q39 : 6 < (rdOf ByteArray.empty y464 x44_1).size := (by have : (6 : Int) < ((rdOf ByteArray.empty y464 x44_1).size : Int) := of_decide_eq_true am; omega)
    have hx39 : ∀ h : 6 < (rdOf ByteArray.empty y464 x44_1).size, (((rdOf ByteArray.empty y464 x44_1)[6]'h).toNat : Int) = bt (rdOf ByteArray.empty y464 x44_1) 6 := bt_at (rdOf ByteArray.empty y464 x44_1) 6
    clear p39
    have qi39 : (6 < ((rdOf ByteArray.empty y464 x44_1).size : Int)) = True := eq_true (of_decide_eq_true am)
    replace q39 := eq_true q39
    try have q39s := s1 q39
    refine start_ (n := 11) (S := fun w' => True) (ds := []) #[false, false, false, false, false, false, false, false, false, false, false] kr rfl rfl trivial (fun hHeld => ?_); refine with_tabW ean_Compress.tab9 ean_Compress.bits9 (fun HT_ HW_ => ?_)
    generalize wr.drew = w67 at HO_42 HB hHeld ⊢
    refine pu HT_ 0 49 (h := ?_)
    refine pu HT_ 3 52 (h := ?_)
    refine pu HT_ 7 56 (h := ?_)
    refine tk HT_ HW_ hHeld 1 50 (h := ?_)
    refine pu HT_ 2 51 (h := ?_)
    refine tk HT_ HW_ hHeld 4 53 (h := ?_)
    refine pu HT_ 5 54 (h := ?_)
    refine on HT_ 6 55 (h := fun K hK => ?_)
    refine Kd.R_lit_step Kd.bool _ 4 ?hg (N := 55) ?hd (xs := ([decide ((bt (rdOf ByteArray.empty y464 x44_1) 6) ≤ 50), true, true, decide ((bt (rdOf ByteArray.empty y464 x44_1) 6) ≥ 53)] : List Bool)) (inner := [.bool (decide ((bt (rdOf ByteArray.empty y464 x44_1) 6) ≤ 50)), .bool true, .bool true, .bool (decide ((bt (rdOf ByteArray.empty y464 x44_1) 6) ≥ 53))]) (ok := fun _ => True) (okp := fun _ => True) ?hr ?hp (fun _ hk => hk) trivial (Below.refl _ _) (Nat.le_refl _) (by simp) ?_; (case hd => rfl); (case hg => rfl); (case hr => first | (go_simp; done) | (go_simp; rfl)); (case hp => exact (Reps.one (show Kd.M Kd.bool _ _ _ (decide ((bt (rdOf ByteArray.empty y464 x44_1) 6) ≤ 50)) [.bool (decide ((bt (rdOf ByteArray.empty y464 x44_1) 6) ≤ 50))] from rfl) (Reps.one (show Kd.M Kd.bool _ _ _ true [.bool true] from rfl) (Reps.one (show Kd.M Kd.bool _ _ _ true [.bool true] from rfl) (Reps.one (show Kd.M Kd.bool _ _ _ (decide ((bt (rdOf ByteArray.empty y464 x44_1) 6) ≥ 53)) [.bool (decide ((bt (rdOf ByteArray.empty y464 x44_1) 6) ≥ 53))] from rfl) (Reps.none _ _))))))
    intro v469 w68 ho69 hb hg_ hnew_
    clear hg_ hnew_
    (first | rw [← Ny468.out] at ho69 | (simp only [Int.reduceToNat] at ho69; rw [← Ny468.out] at ho69))
    have n0_ := Aside0.mk (Kd.R_below (kd HO_42) hb)
    have n1_ := Aside0.mk (Kd.R_lower ho69 (below_size bw))
    have n2_ := Aside0.mk (below_step bw hb)
    clear HO_42
    clear HB
    have HO_42 := n0_
    have HO470 := n1_
    have HB := n2_
    clear n0_ n1_ n2_
    clear hb ho69
    obtain ⟨Ao70, co70, eo70⟩ := Kd.R_slice HO470.out
    subst eo70
    obtain ⟨ado70, fo70, _⟩ := Kd.at_bool (Kd.R_reads' HO470.out).2.2 0 (by decide) (by rw [Ny468.out]; simp)
    cases fo70
    refine hK.out _ _ trivial (fun hHeld => ?_)
    clear hK K
    refine nm (h := ?_)
    refine pu HT_ 8 57 (h := ?_)
    refine on HT_ 9 58 (h := fun K hK => ?_)
    (have p471 : 0 ≤ (x44_1 : Int) := of_decide_eq_true am; have q471 : x44_1 < (y468.length : Int) := of_decide_eq_true am; obtain ⟨ad471, e471, hx471_0⟩ := Kd.at_bool (Kd.R_reads' HO470.out).2.2 x44_1 p471 q471; obtain rfl : ado70 = ad471 := (by injection e471))
    refine value_ (w1 := ?_) (v := ?_) (by rfl) rfl ?_ ?_
    rotate_left 2
    ·go_simp
     constructor
     rotate_left
     ·rfl
     rfl
    clear hx471_0
    refine hK.out _ _ trivial (fun hHeld => ?_)
    clear hK K
    refine nm (h := ?_)
    refine pu HT_ 10 9 (h := ?_)
    refine done_ (done_of HT_.out kr) ?_
    try go_wp2
    try rw [← Nbq41.out]
    have n0_ := Aside0.mk (Kd.R_drew HO_42.out)
    have n1_ := Aside0.mk (Kd.R_drew HO470.out)
    have n2_ := Aside0.mk (below_drew1 HB.out)
    clear HO_42
    clear HO470
    clear HB
    have HO_42 := n0_
    have HO470 := n1_
    have HB := n2_
    clear n0_ n1_ n2_
    refine start_ (n := 13) (S := fun w' => True) (ds := []) #[false, false, false, false, false, false, false, false, false, false, false, false, false] kr rfl rfl trivial (fun hHeld => ?_); refine with_tabW ean_Compress.tab10 ean_Compress.bits10 (fun HT_ HW_ => ?_)
    generalize w68.drew = w71 at HO_42 HO470 HB hHeld ⊢
    refine pu HT_ 0 59 (h := ?_)
    refine pu HT_ 1 60 (h := ?_)
    refine pure_ (i := 2) (N := some 61) (v := undef) (a' := ?_) #[true, true, true, false, false, false, false, false, false, false, false, false, false] rfl rfl (any_of HT_.out kr) (fun _ _ _ h => h) (Or.inr ⟨by rfl, rfl⟩) ?_ ?_
    rotate_left
    ·simp only [Act.put, List.setIfInBounds_toArray, List.set_cons_zero, List.set_cons_succ, i64_w]
     rfl
    refine pure_ (i := 3) (N := some 62) (v := undef) (a' := ?_) #[true, true, true, true, false, false, false, false, false, false, false, false, false] rfl rfl (any_of HT_.out kr) (fun _ _ _ h => h) (Or.inr ⟨by rfl, rfl⟩) ?_ ?_
    rotate_left
    ·simp only [Act.put, List.setIfInBounds_toArray, List.set_cons_zero, List.set_cons_succ, i64_w]
     rfl
    refine pure_ (i := 4) (N := some 63) (v := undef) (a' := ?_) #[true, true, true, true, true, false, false, false, false, false, false, false, false] rfl rfl (any_of HT_.out kr) (fun _ _ _ h => h) (Or.inr ⟨by rfl, rfl⟩) ?_ ?_
    rotate_left
    ·simp only [Act.put, List.setIfInBounds_toArray, List.set_cons_zero, List.set_cons_succ, i64_w]
     rfl
    refine pu HT_ 5 64 (h := ?_)
    refine pu HT_ 6 65 (h := ?_)
    refine pure_ (i := 7) (N := some 66) (v := undef) (a' := ?_) #[true, true, true, true, true, true, true, true, false, false, false, false, false] rfl rfl (any_of HT_.out kr) (fun _ _ _ h => h) (Or.inr ⟨by rfl, rfl⟩) ?_ ?_
    rotate_left
    ·simp only [Act.put, List.setIfInBounds_toArray, List.set_cons_zero, List.set_cons_succ, i64_w]
     rfl
    refine pure_ (i := 8) (N := some 67) (v := undef) (a' := ?_) #[true, true, true, true, true, true, true, true, true, false, false, false, false] rfl rfl (any_of HT_.out kr) (fun _ _ _ h => h) (Or.inr ⟨by rfl, rfl⟩) ?_ ?_
    rotate_left
    ·simp only [Act.put, List.setIfInBounds_toArray, List.set_cons_zero, List.set_cons_succ, i64_w]
     rfl
    refine pure_ (i := 9) (N := some 68) (v := undef) (a' := ?_) #[true, true, true, true, true, true, true, true, true, true, false, false, false] rfl rfl (any_of HT_.out kr) (fun _ _ _ h => h) (Or.inr ⟨by rfl, rfl⟩) ?_ ?_
    rotate_left
    ·simp only [Act.put, List.setIfInBounds_toArray, List.set_cons_zero, List.set_cons_succ, i64_w]
     rfl
    refine pure_ (i := 10) (N := some 69) (v := undef) (a' := ?_) #[true, true, true, true, true, true, true, true, true, true, true, false, false] rfl rfl (any_of HT_.out kr) (fun _ _ _ h => h) (Or.inr ⟨by rfl, rfl⟩) ?_ ?_
    rotate_left
    ·simp only [Act.put, List.setIfInBounds_toArray, List.set_cons_zero, List.set_cons_succ, i64_w]
     rfl
    refine pure_ (i := 11) (N := some 70) (v := undef) (a' := ?_) #[true, true, true, true, true, true, true, true, true, true, true, true, false] rfl rfl (any_of HT_.out kr) (fun _ _ _ h => h) (Or.inr ⟨by rfl, rfl⟩) ?_ ?_
    rotate_left
    ·simp only [Act.put, List.setIfInBounds_toArray, List.set_cons_zero, List.set_cons_succ, i64_w]
     rfl
    refine pu HT_ 12 71 (h := ?_)
    refine done_ (done_of HT_.out kr) ?_
    try go_wp2
    try rw [← Nbq41.out]
    go_roundg k1
    case measure => have := HK1.out; omega
    case rel => exact ⟨(wrap64 (x44_1 + 1)), rs, H', ⟨by have := HK1.out; omega⟩, ⟨kd HO_42⟩, ⟨bw⟩⟩
   subst c42
   rw [if_pos rfl] at H
   replace H := ifn H
   obtain ⟨c43, H⟩ := H
   have c43b0 : decide (0 < ((rdOf ByteArray.empty y464 x44_1).size : Int)) = true := decide_eq_true c43
   have c43b1 : decide (0 < (rdOf ByteArray.empty y464 x44_1).size) = true := decide_eq_true om
   clear c43
   by_cases c45 : (bt (rdOf ByteArray.empty y464 x44_1) 0) ≤ 49
   rotate_left
   ·rw [if_neg c45] at H
    have c45b0 : decide ((bt (rdOf ByteArray.empty y464 x44_1) 0) ≤ 49) = false := decide_eq_false c45
    clear c45
    have H' := Aside0.mk H
    clear H
    have p467 : 0 ≤ (x44_1 : Int) := of_decide_eq_true am
    have q467 : x44_1 < (y464.length : Int) := of_decide_eq_true am
    obtain ⟨ad467, e467, hx467_0⟩ := Kd.at_string (Kd.R_reads' HO_42.out).2.2 x44_1 p467 q467
    cases e467
    replace p467 := eq_true p467
    replace q467 := eq_true q467
    try have q467s := s1 q467
    try go_wp2
    have pi471 : (0 ≤ (x44_1 : Int)) = True := eq_true (of_decide_eq_true am)
    have qi471 : (x44_1 < (y468.length : Int)) = True := eq_true (of_decide_eq_true am)
    have n0_ := Aside0.mk (Kd.R_drew HO_42.out)
    have n1_ := Aside0.mk (below_drew1 HB.out)
    clear HO_42
    clear HB
    have HO_42 := n0_
    have HB := n1_
    clear n0_ n1_
    have p38 : 0 ≤ (6 : Int) := om
    have q38 : 6 < (rdOf ByteArray.empty y464 x44_1).size := (by have : (6 : Int) < ((rdOf ByteArray.empty y464 x44_1).size : Int) := of_decide_eq_true am; omega)
    have hx38 : ∀ h : 6 < (rdOf ByteArray.empty y464 x44_1).size, (((rdOf ByteArray.empty y464 x44_1)[6]'h).toNat : Int) = bt (rdOf ByteArray.empty y464 x44_1) 6 := bt_at (rdOf ByteArray.empty y464 x44_1) 6
    clear p38
    have qi38 : (6 < ((rdOf ByteArray.empty y464 x44_1).size : Int)) = True := eq_true (of_decide_eq_true am)
    replace q38 := eq_true q38
    try have q38s := s1 q38
    have p39 : 0 ≤ (6 : Int) := om
    have q39 : 6 < (rdOf ByteArray.empty y464 x44_1).size := (by have : (6 : Int) < ((rdOf ByteArray.empty y464 x44_1).size : Int) := of_decide_eq_true am; omega)
    have hx39 : ∀ h : 6 < (rdOf ByteArray.empty y464 x44_1).size, (((rdOf ByteArray.empty y464 x44_1)[6]'h).toNat : Int) = bt (rdOf ByteArray.empty y464 x44_1) 6 := bt_at (rdOf ByteArray.empty y464 x44_1) 6
    clear p39
    have qi39 : (6 < ((rdOf ByteArray.empty y464 x44_1).size : Int)) = True := eq_true (of_decide_eq_true am)
    replace q39 := eq_true q39
    try have q39s := s1 q39
    refine start_ (n := 11) (S := fun w' => True) (ds := []) #[false, false, false, false, false, false, false, false, false, false, false] kr rfl rfl trivial (fun hHeld => ?_); refine with_tabW ean_Compress.tab9 ean_Compress.bits9 (fun HT_ HW_ => ?_)
    generalize wr.drew = w62 at HO_42 HB hHeld ⊢
    refine pu HT_ 0 49 (h := ?_)
    refine pu HT_ 3 52 (h := ?_)
    refine pu HT_ 7 56 (h := ?_)
    refine tk HT_ HW_ hHeld 1 50 (h := ?_)
    refine pu HT_ 2 51 (h := ?_)
    refine tk HT_ HW_ hHeld 4 53 (h := ?_)
    refine pu HT_ 5 54 (h := ?_)
    refine on HT_ 6 55 (h := fun K hK => ?_)
    refine Kd.R_lit_step Kd.bool _ 4 ?hg (N := 55) ?hd (xs := ([decide ((bt (rdOf ByteArray.empty y464 x44_1) 6) ≤ 50), true, true, decide ((bt (rdOf ByteArray.empty y464 x44_1) 6) ≥ 53)] : List Bool)) (inner := [.bool (decide ((bt (rdOf ByteArray.empty y464 x44_1) 6) ≤ 50)), .bool true, .bool true, .bool (decide ((bt (rdOf ByteArray.empty y464 x44_1) 6) ≥ 53))]) (ok := fun _ => True) (okp := fun _ => True) ?hr ?hp (fun _ hk => hk) trivial (Below.refl _ _) (Nat.le_refl _) (by simp) ?_; (case hd => rfl); (case hg => rfl); (case hr => first | (go_simp; done) | (go_simp; rfl)); (case hp => exact (Reps.one (show Kd.M Kd.bool _ _ _ (decide ((bt (rdOf ByteArray.empty y464 x44_1) 6) ≤ 50)) [.bool (decide ((bt (rdOf ByteArray.empty y464 x44_1) 6) ≤ 50))] from rfl) (Reps.one (show Kd.M Kd.bool _ _ _ true [.bool true] from rfl) (Reps.one (show Kd.M Kd.bool _ _ _ true [.bool true] from rfl) (Reps.one (show Kd.M Kd.bool _ _ _ (decide ((bt (rdOf ByteArray.empty y464 x44_1) 6) ≥ 53)) [.bool (decide ((bt (rdOf ByteArray.empty y464 x44_1) 6) ≥ 53))] from rfl) (Reps.none _ _))))))
    intro v469 w63 ho64 hb hg_ hnew_
    clear hg_ hnew_
    (first | rw [← Ny468.out] at ho64 | (simp only [Int.reduceToNat] at ho64; rw [← Ny468.out] at ho64))
    have n0_ := Aside0.mk (Kd.R_below (kd HO_42) hb)
    have n1_ := Aside0.mk (Kd.R_lower ho64 (below_size bw))
    have n2_ := Aside0.mk (below_step bw hb)
    clear HO_42
    clear HB
    have HO_42 := n0_
    have HO470 := n1_
    have HB := n2_
    clear n0_ n1_ n2_
    clear hb ho64
    obtain ⟨Ao65, co65, eo65⟩ := Kd.R_slice HO470.out
    subst eo65
    obtain ⟨ado65, fo65, _⟩ := Kd.at_bool (Kd.R_reads' HO470.out).2.2 0 (by decide) (by rw [Ny468.out]; simp)
    cases fo65
    refine hK.out _ _ trivial (fun hHeld => ?_)
    clear hK K
    refine nm (h := ?_)
    refine pu HT_ 8 57 (h := ?_)
    refine on HT_ 9 58 (h := fun K hK => ?_)
    (have p471 : 0 ≤ (x44_1 : Int) := of_decide_eq_true am; have q471 : x44_1 < (y468.length : Int) := of_decide_eq_true am; obtain ⟨ad471, e471, hx471_0⟩ := Kd.at_bool (Kd.R_reads' HO470.out).2.2 x44_1 p471 q471; obtain rfl : ado65 = ad471 := (by injection e471))
    refine value_ (w1 := ?_) (v := ?_) (by rfl) rfl ?_ ?_
    rotate_left 2
    ·go_simp
     constructor
     rotate_left
     ·rfl
     rfl
    clear hx471_0
    refine hK.out _ _ trivial (fun hHeld => ?_)
    clear hK K
    refine nm (h := ?_)
    refine pu HT_ 10 9 (h := ?_)
    refine done_ (done_of HT_.out kr) ?_
    try go_wp2
    try rw [← Nbq41.out]
    have n0_ := Aside0.mk (Kd.R_drew HO_42.out)
    have n1_ := Aside0.mk (Kd.R_drew HO470.out)
    have n2_ := Aside0.mk (below_drew1 HB.out)
    clear HO_42
    clear HO470
    clear HB
    have HO_42 := n0_
    have HO470 := n1_
    have HB := n2_
    clear n0_ n1_ n2_
    have p44 : 0 ≤ (0 : Int) := om
    have q44 : 0 < (rdOf ByteArray.empty y464 x44_1).size := (by have : (0 : Int) < ((rdOf ByteArray.empty y464 x44_1).size : Int) := of_decide_eq_true am; omega)
    have hx44 : ∀ h : 0 < (rdOf ByteArray.empty y464 x44_1).size, (((rdOf ByteArray.empty y464 x44_1)[0]'h).toNat : Int) = bt (rdOf ByteArray.empty y464 x44_1) 0 := bt_at (rdOf ByteArray.empty y464 x44_1) 0
    clear p44
    have qi44 : (0 < ((rdOf ByteArray.empty y464 x44_1).size : Int)) = True := eq_true (of_decide_eq_true am)
    replace q44 := eq_true q44
    try have q44s := s1 q44
    refine start_ (n := 13) (S := fun w' => True) (ds := []) #[false, false, false, false, false, false, false, false, false, false, false, false, false] kr rfl rfl trivial (fun hHeld => ?_); refine with_tabW ean_Compress.tab10 ean_Compress.bits10 (fun HT_ HW_ => ?_)
    generalize w63.drew = w66 at HO_42 HO470 HB hHeld ⊢
    refine pu HT_ 0 59 (h := ?_)
    refine pu HT_ 1 60 (h := ?_)
    refine pu HT_ 2 61 (h := ?_)
    refine tk HT_ HW_ hHeld 3 62 (h := ?_)
    refine pu HT_ 4 63 (h := ?_)
    refine pu HT_ 5 64 (h := ?_)
    refine pu HT_ 6 65 (h := ?_)
    refine pure_ (i := 7) (N := some 66) (v := undef) (a' := ?_) #[true, true, true, true, true, true, true, true, false, false, false, false, false] rfl rfl (any_of HT_.out kr) (fun _ _ _ h => h) (Or.inr ⟨by rfl, rfl⟩) ?_ ?_
    rotate_left
    ·simp only [Act.put, List.setIfInBounds_toArray, List.set_cons_zero, List.set_cons_succ, i64_w]
     rfl
    refine pure_ (i := 8) (N := some 67) (v := undef) (a' := ?_) #[true, true, true, true, true, true, true, true, true, false, false, false, false] rfl rfl (any_of HT_.out kr) (fun _ _ _ h => h) (Or.inr ⟨by rfl, rfl⟩) ?_ ?_
    rotate_left
    ·simp only [Act.put, List.setIfInBounds_toArray, List.set_cons_zero, List.set_cons_succ, i64_w]
     rfl
    refine pure_ (i := 9) (N := some 68) (v := undef) (a' := ?_) #[true, true, true, true, true, true, true, true, true, true, false, false, false] rfl rfl (any_of HT_.out kr) (fun _ _ _ h => h) (Or.inr ⟨by rfl, rfl⟩) ?_ ?_
    rotate_left
    ·simp only [Act.put, List.setIfInBounds_toArray, List.set_cons_zero, List.set_cons_succ, i64_w]
     rfl
    refine pure_ (i := 10) (N := some 69) (v := undef) (a' := ?_) #[true, true, true, true, true, true, true, true, true, true, true, false, false] rfl rfl (any_of HT_.out kr) (fun _ _ _ h => h) (Or.inr ⟨by rfl, rfl⟩) ?_ ?_
    rotate_left
    ·simp only [Act.put, List.setIfInBounds_toArray, List.set_cons_zero, List.set_cons_succ, i64_w]
     rfl
    refine pure_ (i := 11) (N := some 70) (v := undef) (a' := ?_) #[true, true, true, true, true, true, true, true, true, true, true, true, false] rfl rfl (any_of HT_.out kr) (fun _ _ _ h => h) (Or.inr ⟨by rfl, rfl⟩) ?_ ?_
    rotate_left
    ·simp only [Act.put, List.setIfInBounds_toArray, List.set_cons_zero, List.set_cons_succ, i64_w]
     rfl
    refine pu HT_ 12 71 (h := ?_)
    refine done_ (done_of HT_.out kr) ?_
    try go_wp2
    try rw [← Nbq41.out]
    go_roundg k1
    case measure => have := HK1.out; omega
    case rel => exact ⟨(wrap64 (x44_1 + 1)), rs, H', ⟨by have := HK1.out; omega⟩, ⟨kd HO_42⟩, ⟨bw⟩⟩
   rw [if_pos c45] at H
   have c45b0 : decide ((bt (rdOf ByteArray.empty y464 x44_1) 0) ≤ 49) = true := decide_eq_true c45
   clear c45
   replace H := bd H
   obtain ⟨t472, A46, H⟩ := H
   replace H := ifn H
   obtain ⟨c47, H⟩ := H
   have c47b0 := eq_true c47
   try have c47b0s := s1 c47b0
   have c47b1 : decide (0 ≤ 11) = true := decide_eq_true c47
   clear c47
   by_cases c48 : 11 ≤ (a0.size : Int)
   rotate_left
   ·rw [if_neg c48] at H
    exact absurd H (by simp)
   rw [if_pos c48] at H
   have c48b0 := eq_true c48
   try have c48b0s := s1 c48b0
   have c48b1 : decide (11 ≤ (a0.size : Int)) = true := decide_eq_true c48
   clear c48
   replace H := ifc H
   obtain ⟨c49, H⟩ | ⟨c49, H⟩ := H
   rotate_left
   ·have c49b0 : (t472.toList == (a0.extract 0 11).toList) = false := beq_eq_false_iff_ne.mpr c49
    have c49b1 : (t472.toList != (a0.extract 0 11).toList) = true := bne_iff_ne.mpr c49
    have H' := Aside0.mk H
    clear H
    have p467 : 0 ≤ (x44_1 : Int) := of_decide_eq_true am
    have q467 : x44_1 < (y464.length : Int) := of_decide_eq_true am
    obtain ⟨ad467, e467, hx467_0⟩ := Kd.at_string (Kd.R_reads' HO_42.out).2.2 x44_1 p467 q467
    cases e467
    replace p467 := eq_true p467
    replace q467 := eq_true q467
    try have q467s := s1 q467
    try go_wp2
    have pi471 : (0 ≤ (x44_1 : Int)) = True := eq_true (of_decide_eq_true am)
    have qi471 : (x44_1 < (y468.length : Int)) = True := eq_true (of_decide_eq_true am)
    have n0_ := Aside0.mk (Kd.R_drew HO_42.out)
    have n1_ := Aside0.mk (below_drew1 HB.out)
    clear HO_42
    clear HB
    have HO_42 := n0_
    have HB := n1_
    clear n0_ n1_
    have p38 : 0 ≤ (6 : Int) := om
    have q38 : 6 < (rdOf ByteArray.empty y464 x44_1).size := (by have : (6 : Int) < ((rdOf ByteArray.empty y464 x44_1).size : Int) := of_decide_eq_true am; omega)
    have hx38 : ∀ h : 6 < (rdOf ByteArray.empty y464 x44_1).size, (((rdOf ByteArray.empty y464 x44_1)[6]'h).toNat : Int) = bt (rdOf ByteArray.empty y464 x44_1) 6 := bt_at (rdOf ByteArray.empty y464 x44_1) 6
    clear p38
    have qi38 : (6 < ((rdOf ByteArray.empty y464 x44_1).size : Int)) = True := eq_true (of_decide_eq_true am)
    replace q38 := eq_true q38
    try have q38s := s1 q38
    have p39 : 0 ≤ (6 : Int) := om
    have q39 : 6 < (rdOf ByteArray.empty y464 x44_1).size := (by have : (6 : Int) < ((rdOf ByteArray.empty y464 x44_1).size : Int) := of_decide_eq_true am; omega)
    have hx39 : ∀ h : 6 < (rdOf ByteArray.empty y464 x44_1).size, (((rdOf ByteArray.empty y464 x44_1)[6]'h).toNat : Int) = bt (rdOf ByteArray.empty y464 x44_1) 6 := bt_at (rdOf ByteArray.empty y464 x44_1) 6
    clear p39
    have qi39 : (6 < ((rdOf ByteArray.empty y464 x44_1).size : Int)) = True := eq_true (of_decide_eq_true am)
    replace q39 := eq_true q39
    try have q39s := s1 q39
    refine start_ (n := 11) (S := fun w' => True) (ds := []) #[false, false, false, false, false, false, false, false, false, false, false] kr rfl rfl trivial (fun hHeld => ?_); refine with_tabW ean_Compress.tab9 ean_Compress.bits9 (fun HT_ HW_ => ?_)
    generalize wr.drew = w57 at HO_42 HB hHeld ⊢
    refine pu HT_ 0 49 (h := ?_)
    refine pu HT_ 3 52 (h := ?_)
    refine pu HT_ 7 56 (h := ?_)
    refine tk HT_ HW_ hHeld 1 50 (h := ?_)
    refine pu HT_ 2 51 (h := ?_)
    refine tk HT_ HW_ hHeld 4 53 (h := ?_)
    refine pu HT_ 5 54 (h := ?_)
    refine on HT_ 6 55 (h := fun K hK => ?_)
    refine Kd.R_lit_step Kd.bool _ 4 ?hg (N := 55) ?hd (xs := ([decide ((bt (rdOf ByteArray.empty y464 x44_1) 6) ≤ 50), true, true, decide ((bt (rdOf ByteArray.empty y464 x44_1) 6) ≥ 53)] : List Bool)) (inner := [.bool (decide ((bt (rdOf ByteArray.empty y464 x44_1) 6) ≤ 50)), .bool true, .bool true, .bool (decide ((bt (rdOf ByteArray.empty y464 x44_1) 6) ≥ 53))]) (ok := fun _ => True) (okp := fun _ => True) ?hr ?hp (fun _ hk => hk) trivial (Below.refl _ _) (Nat.le_refl _) (by simp) ?_; (case hd => rfl); (case hg => rfl); (case hr => first | (go_simp; done) | (go_simp; rfl)); (case hp => exact (Reps.one (show Kd.M Kd.bool _ _ _ (decide ((bt (rdOf ByteArray.empty y464 x44_1) 6) ≤ 50)) [.bool (decide ((bt (rdOf ByteArray.empty y464 x44_1) 6) ≤ 50))] from rfl) (Reps.one (show Kd.M Kd.bool _ _ _ true [.bool true] from rfl) (Reps.one (show Kd.M Kd.bool _ _ _ true [.bool true] from rfl) (Reps.one (show Kd.M Kd.bool _ _ _ (decide ((bt (rdOf ByteArray.empty y464 x44_1) 6) ≥ 53)) [.bool (decide ((bt (rdOf ByteArray.empty y464 x44_1) 6) ≥ 53))] from rfl) (Reps.none _ _))))))
    intro v469 w58 ho59 hb hg_ hnew_
    clear hg_ hnew_
    (first | rw [← Ny468.out] at ho59 | (simp only [Int.reduceToNat] at ho59; rw [← Ny468.out] at ho59))
    have n0_ := Aside0.mk (Kd.R_below (kd HO_42) hb)
    have n1_ := Aside0.mk (Kd.R_lower ho59 (below_size bw))
    have n2_ := Aside0.mk (below_step bw hb)
    clear HO_42
    clear HB
    have HO_42 := n0_
    have HO470 := n1_
    have HB := n2_
    clear n0_ n1_ n2_
    clear hb ho59
    obtain ⟨Ao60, co60, eo60⟩ := Kd.R_slice HO470.out
    subst eo60
    obtain ⟨ado60, fo60, _⟩ := Kd.at_bool (Kd.R_reads' HO470.out).2.2 0 (by decide) (by rw [Ny468.out]; simp)
    cases fo60
    refine hK.out _ _ trivial (fun hHeld => ?_)
    clear hK K
    refine nm (h := ?_)
    refine pu HT_ 8 57 (h := ?_)
    refine on HT_ 9 58 (h := fun K hK => ?_)
    (have p471 : 0 ≤ (x44_1 : Int) := of_decide_eq_true am; have q471 : x44_1 < (y468.length : Int) := of_decide_eq_true am; obtain ⟨ad471, e471, hx471_0⟩ := Kd.at_bool (Kd.R_reads' HO470.out).2.2 x44_1 p471 q471; obtain rfl : ado60 = ad471 := (by injection e471))
    refine value_ (w1 := ?_) (v := ?_) (by rfl) rfl ?_ ?_
    rotate_left 2
    ·go_simp
     constructor
     rotate_left
     ·rfl
     rfl
    clear hx471_0
    refine hK.out _ _ trivial (fun hHeld => ?_)
    clear hK K
    refine nm (h := ?_)
    refine pu HT_ 10 9 (h := ?_)
    refine done_ (done_of HT_.out kr) ?_
    try go_wp2
    try rw [← Nbq41.out]
    have n0_ := Aside0.mk (Kd.R_drew HO_42.out)
    have n1_ := Aside0.mk (Kd.R_drew HO470.out)
    have n2_ := Aside0.mk (below_drew1 HB.out)
    clear HO_42
    clear HO470
    clear HB
    have HO_42 := n0_
    have HO470 := n1_
    have HB := n2_
    clear n0_ n1_ n2_
    have p44 : 0 ≤ (0 : Int) := om
    have q44 : 0 < (rdOf ByteArray.empty y464 x44_1).size := (by have : (0 : Int) < ((rdOf ByteArray.empty y464 x44_1).size : Int) := of_decide_eq_true am; omega)
    have hx44 : ∀ h : 0 < (rdOf ByteArray.empty y464 x44_1).size, (((rdOf ByteArray.empty y464 x44_1)[0]'h).toNat : Int) = bt (rdOf ByteArray.empty y464 x44_1) 0 := bt_at (rdOf ByteArray.empty y464 x44_1) 0
    clear p44
    have qi44 : (0 < ((rdOf ByteArray.empty y464 x44_1).size : Int)) = True := eq_true (of_decide_eq_true am)
    replace q44 := eq_true q44
    try have q44s := s1 q44
    refine start_ (n := 13) (S := fun w' => True) (ds := []) #[false, false, false, false, false, false, false, false, false, false, false, false, false] kr rfl rfl trivial (fun hHeld => ?_); refine with_tabW ean_Compress.tab10 ean_Compress.bits10 (fun HT_ HW_ => ?_)
    generalize w58.drew = w61 at HO_42 HO470 HB hHeld ⊢
    refine pu HT_ 0 59 (h := ?_)
    refine pu HT_ 1 60 (h := ?_)
    refine pu HT_ 2 61 (h := ?_)
    refine tk HT_ HW_ hHeld 3 62 (h := ?_)
    refine pu HT_ 4 63 (h := ?_)
    refine pu HT_ 5 64 (h := ?_)
    refine pu HT_ 6 65 (h := ?_)
    refine pu HT_ 7 66 (h := ?_)
    refine pu HT_ 9 68 (h := ?_)
    refine pu HT_ 10 69 (h := ?_)
    refine on HT_ 8 67 (h := fun K hK => ?_)
    refine goes_ Tryz.func51 kr rfl #[.string (rdOf ByteArray.empty y464 x44_1)] (by rfl) rfl rfl ar ?_
    with_reducible refine (ean_expanded.calls (rdOf ByteArray.empty y464 x44_1) t472 _ A46.out).mono ?_
    rintro e w' ⟨rfl, ⟨nd, rfl⟩⟩
    refine ⟨_, rfl, ?_⟩
    refine hK.out _ _ trivial (fun hHeld => ?_)
    clear hK K
    refine nm (h := ?_)
    refine pu HT_ 11 70 (h := ?_)
    refine pu HT_ 12 71 (h := ?_)
    refine done_ (done_of HT_.out kr) ?_
    try go_wp2
    try rw [← Nbq41.out]
    go_roundg k1
    case measure => have := HK1.out; omega
    case rel => exact ⟨(wrap64 (x44_1 + 1)), rs, H', ⟨by have := HK1.out; omega⟩, ⟨kd HO_42⟩, ⟨bw⟩⟩
   have c49b0 : (t472.toList == (a0.extract 0 11).toList) = true := beq_iff_eq.mpr c49
   have c49b1 : (t472.toList != (a0.extract 0 11).toList) = false := bne_eq_false_iff_eq.mpr c49
   clear c49
   have c50b0 := eq_true (of_decide_eq_true am : 11 ≤ (a0.size : Int))
   try have c50b0s := s1 c50b0
   replace H := ifn H
   obtain ⟨c51, H⟩ := H
   have c51b0 := eq_true c51
   try have c51b0s := s1 c51b0
   have c51b1 : decide ((rdOf ByteArray.empty y464 x44_1).size + (a0.extract 11 a0.size).size ≤ 9223372036854775807) = true := decide_eq_true c51
   try have c51b1s := s4 c51b1
   try have c51b1t := s3 c51b1
   try have c51b2 : (9223372036854775807 < (rdOf ByteArray.empty y464 x44_1).size + (a0.extract 11 a0.size).size) = False := eq_false (Nat.not_lt.2 c51)
   try have c51b2s := s2 c51b2
   simp only [Option.some.injEq, Prod.mk.injEq] at H
   obtain ⟨rfl, rfl⟩ := H
   have p467 : 0 ≤ (x44_1 : Int) := of_decide_eq_true am
   have q467 : x44_1 < (y464.length : Int) := of_decide_eq_true am
   obtain ⟨ad467, e467, hx467_0⟩ := Kd.at_string (Kd.R_reads' HO_42.out).2.2 x44_1 p467 q467
   cases e467
   replace p467 := eq_true p467
   replace q467 := eq_true q467
   try have q467s := s1 q467
   try go_wp2
   have pi471 : (0 ≤ (x44_1 : Int)) = True := eq_true (of_decide_eq_true am)
   have qi471 : (x44_1 < (y468.length : Int)) = True := eq_true (of_decide_eq_true am)
   have n0_ := Aside0.mk (Kd.R_drew HO_42.out)
   have n1_ := Aside0.mk (below_drew1 HB.out)
   clear HO_42
   clear HB
   have HO_42 := n0_
   have HB := n1_
   clear n0_ n1_
   have p38 : 0 ≤ (6 : Int) := om
   have q38 : 6 < (rdOf ByteArray.empty y464 x44_1).size := (by have : (6 : Int) < ((rdOf ByteArray.empty y464 x44_1).size : Int) := of_decide_eq_true am; omega)
   have hx38 : ∀ h : 6 < (rdOf ByteArray.empty y464 x44_1).size, (((rdOf ByteArray.empty y464 x44_1)[6]'h).toNat : Int) = bt (rdOf ByteArray.empty y464 x44_1) 6 := bt_at (rdOf ByteArray.empty y464 x44_1) 6
   clear p38
   have qi38 : (6 < ((rdOf ByteArray.empty y464 x44_1).size : Int)) = True := eq_true (of_decide_eq_true am)
   replace q38 := eq_true q38
   try have q38s := s1 q38
   have p39 : 0 ≤ (6 : Int) := om
   have q39 : 6 < (rdOf ByteArray.empty y464 x44_1).size := (by have : (6 : Int) < ((rdOf ByteArray.empty y464 x44_1).size : Int) := of_decide_eq_true am; omega)
   have hx39 : ∀ h : 6 < (rdOf ByteArray.empty y464 x44_1).size, (((rdOf ByteArray.empty y464 x44_1)[6]'h).toNat : Int) = bt (rdOf ByteArray.empty y464 x44_1) 6 := bt_at (rdOf ByteArray.empty y464 x44_1) 6
   clear p39
   have qi39 : (6 < ((rdOf ByteArray.empty y464 x44_1).size : Int)) = True := eq_true (of_decide_eq_true am)
   replace q39 := eq_true q39
   try have q39s := s1 q39
   refine start_ (n := 11) (S := fun w' => True) (ds := []) #[false, false, false, false, false, false, false, false, false, false, false] kr rfl rfl trivial (fun hHeld => ?_); refine with_tabW ean_Compress.tab9 ean_Compress.bits9 (fun HT_ HW_ => ?_)
   generalize wr.drew = w52 at HO_42 HB hHeld ⊢
   refine pu HT_ 0 49 (h := ?_)
   refine pu HT_ 3 52 (h := ?_)
   refine pu HT_ 7 56 (h := ?_)
   refine tk HT_ HW_ hHeld 1 50 (h := ?_)
   refine pu HT_ 2 51 (h := ?_)
   refine tk HT_ HW_ hHeld 4 53 (h := ?_)
   refine pu HT_ 5 54 (h := ?_)
   refine on HT_ 6 55 (h := fun K hK => ?_)
   refine Kd.R_lit_step Kd.bool _ 4 ?hg (N := 55) ?hd (xs := ([decide ((bt (rdOf ByteArray.empty y464 x44_1) 6) ≤ 50), true, true, decide ((bt (rdOf ByteArray.empty y464 x44_1) 6) ≥ 53)] : List Bool)) (inner := [.bool (decide ((bt (rdOf ByteArray.empty y464 x44_1) 6) ≤ 50)), .bool true, .bool true, .bool (decide ((bt (rdOf ByteArray.empty y464 x44_1) 6) ≥ 53))]) (ok := fun _ => True) (okp := fun _ => True) ?hr ?hp (fun _ hk => hk) trivial (Below.refl _ _) (Nat.le_refl _) (by simp) ?_; (case hd => rfl); (case hg => rfl); (case hr => first | (go_simp; done) | (go_simp; rfl)); (case hp => exact (Reps.one (show Kd.M Kd.bool _ _ _ (decide ((bt (rdOf ByteArray.empty y464 x44_1) 6) ≤ 50)) [.bool (decide ((bt (rdOf ByteArray.empty y464 x44_1) 6) ≤ 50))] from rfl) (Reps.one (show Kd.M Kd.bool _ _ _ true [.bool true] from rfl) (Reps.one (show Kd.M Kd.bool _ _ _ true [.bool true] from rfl) (Reps.one (show Kd.M Kd.bool _ _ _ (decide ((bt (rdOf ByteArray.empty y464 x44_1) 6) ≥ 53)) [.bool (decide ((bt (rdOf ByteArray.empty y464 x44_1) 6) ≥ 53))] from rfl) (Reps.none _ _))))))
   intro v469 w53 ho54 hb hg_ hnew_
   clear hg_ hnew_
   (first | rw [← Ny468.out] at ho54 | (simp only [Int.reduceToNat] at ho54; rw [← Ny468.out] at ho54))
   have n0_ := Aside0.mk (Kd.R_below (kd HO_42) hb)
   have n1_ := Aside0.mk (Kd.R_lower ho54 (below_size bw))
   have n2_ := Aside0.mk (below_step bw hb)
   clear HO_42
   clear HB
   have HO_42 := n0_
   have HO470 := n1_
   have HB := n2_
   clear n0_ n1_ n2_
   clear hb ho54
   obtain ⟨Ao55, co55, eo55⟩ := Kd.R_slice HO470.out
   subst eo55
   obtain ⟨ado55, fo55, _⟩ := Kd.at_bool (Kd.R_reads' HO470.out).2.2 0 (by decide) (by rw [Ny468.out]; simp)
   cases fo55
   refine hK.out _ _ trivial (fun hHeld => ?_)
   clear hK K
   refine nm (h := ?_)
   refine pu HT_ 8 57 (h := ?_)
   refine on HT_ 9 58 (h := fun K hK => ?_)
   (have p471 : 0 ≤ (x44_1 : Int) := of_decide_eq_true am; have q471 : x44_1 < (y468.length : Int) := of_decide_eq_true am; obtain ⟨ad471, e471, hx471_0⟩ := Kd.at_bool (Kd.R_reads' HO470.out).2.2 x44_1 p471 q471; obtain rfl : ado55 = ad471 := (by injection e471))
   refine value_ (w1 := ?_) (v := ?_) (by rfl) rfl ?_ ?_
   rotate_left 2
   ·go_simp
    constructor
    rotate_left
    ·rfl
    rfl
   clear hx471_0
   refine hK.out _ _ trivial (fun hHeld => ?_)
   clear hK K
   refine nm (h := ?_)
   refine pu HT_ 10 9 (h := ?_)
   refine done_ (done_of HT_.out kr) ?_
   try go_wp2
   try rw [← Nbq41.out]
   have n0_ := Aside0.mk (Kd.R_drew HO_42.out)
   have n1_ := Aside0.mk (Kd.R_drew HO470.out)
   have n2_ := Aside0.mk (below_drew1 HB.out)
   clear HO_42
   clear HO470
   clear HB
   have HO_42 := n0_
   have HO470 := n1_
   have HB := n2_
   clear n0_ n1_ n2_
   have p44 : 0 ≤ (0 : Int) := om
   have q44 : 0 < (rdOf ByteArray.empty y464 x44_1).size := (by have : (0 : Int) < ((rdOf ByteArray.empty y464 x44_1).size : Int) := of_decide_eq_true am; omega)
   have hx44 : ∀ h : 0 < (rdOf ByteArray.empty y464 x44_1).size, (((rdOf ByteArray.empty y464 x44_1)[0]'h).toNat : Int) = bt (rdOf ByteArray.empty y464 x44_1) 0 := bt_at (rdOf ByteArray.empty y464 x44_1) 0
   clear p44
   have qi44 : (0 < ((rdOf ByteArray.empty y464 x44_1).size : Int)) = True := eq_true (of_decide_eq_true am)
   replace q44 := eq_true q44
   try have q44s := s1 q44
   refine start_ (n := 13) (S := fun w' => True) (ds := []) #[false, false, false, false, false, false, false, false, false, false, false, false, false] kr rfl rfl trivial (fun hHeld => ?_); refine with_tabW ean_Compress.tab10 ean_Compress.bits10 (fun HT_ HW_ => ?_)
   generalize w53.drew = w56 at HO_42 HO470 HB hHeld ⊢
   refine pu HT_ 0 59 (h := ?_)
   refine pu HT_ 1 60 (h := ?_)
   refine pu HT_ 2 61 (h := ?_)
   refine tk HT_ HW_ hHeld 3 62 (h := ?_)
   refine pu HT_ 4 63 (h := ?_)
   refine pu HT_ 5 64 (h := ?_)
   refine pu HT_ 6 65 (h := ?_)
   refine pu HT_ 7 66 (h := ?_)
   refine pu HT_ 9 68 (h := ?_)
   refine pu HT_ 10 69 (h := ?_)
   refine on HT_ 8 67 (h := fun K hK => ?_)
   refine goes_ Tryz.func51 kr rfl #[.string (rdOf ByteArray.empty y464 x44_1)] (by rfl) rfl rfl ar ?_
   with_reducible refine (ean_expanded.calls (rdOf ByteArray.empty y464 x44_1) t472 _ A46.out).mono ?_
   rintro e w' ⟨rfl, ⟨nd, rfl⟩⟩
   refine ⟨_, rfl, ?_⟩
   refine hK.out _ _ trivial (fun hHeld => ?_)
   clear hK K
   refine nm (h := ?_)
   refine pu HT_ 11 70 (h := ?_)
   refine pu HT_ 12 71 (h := ?_)
   refine done_ (done_of HT_.out kr) ?_
   try go_wp2
   try rw [← Nbq41.out]
   go_ret2
   exact ⟨es, bw⟩

end Go.Proofs.YtjmeekceecpemaaGreatDoor.Q

namespace Go.Proofs.YtjmeekceecpemaaGreatDoor.Q
open Go.RowKit Go.Proofs.YtjmeekceecpemaaGreatDoorW.PrintWords Go.Proofs.YtjmeekceecpemaaGreatDoorW.PrintLast Go.Proofs.YtjmeekceecpemaaGreatDoorW.PrintMore

set_option linter.unusedVariables false
set_option linter.unusedSimpArgs false

/-! ### ean_Expand: function 21 -/
def ean_Expand.f (k : Nat) (a0 : ByteArray) : Option (ByteArray × Int) := (ean_complete.f k 4 a0).bind fun t473 => (if t473 = 0 then ((ean_expanded.f a0).bind fun t474 => (if 7 ≤ (a0.size : Int) then (if t474.size + (a0.extract 7 a0.size).size ≤ 9223372036854775807 then (some (t474 ++ (a0.extract 7 a0.size), 0)) else (none)) else (none))) else (some ((⟨#[]⟩ : ByteArray), t473)))
theorem ean_Expand.mono : ∀ a0 k, LeO (ean_Expand.f k a0) (ean_Expand.f (k + 1) a0) := by
  intro a0 k
  unfold ean_Expand.f
  repeat' with_reducible first | exact ean_complete.mono _ _ _ | exact LeO.refl _ | exact LeO.none _ | refine LeO.ite ?_ ?_ | refine LeO.bind ?_ (fun _ => ?_)
set_option maxHeartbeats 8000000 in
set_option maxRecDepth 100000 in
theorem ean_Expand.calls (k : Nat) (a0 : ByteArray) (r1 : ByteArray) (r2 : Int) (w : World) (h : ean_Expand.f k a0 = some (r1, r2)) :
    Calls Tryz.prog 21 #[.string a0] w fun e w' => e = .returned (.tuple #[.string r1, .int .i64 r2]) ∧ Below w.heap.size w w' := by
 have HB := Aside0.mk (Below.refl w.heap.size w)
 have H := h
 clear h
 unfold ean_Expand.f at H
 replace H := bd H
 obtain ⟨t473, A2, H⟩ := H
 replace H := ifc H
 obtain ⟨c3, H⟩ | ⟨c3, H⟩ := H
 rotate_left
 ·have c3b0 : (t473 == 0) = false := beq_eq_false_iff_ne.mpr c3
  have c3b1 : (t473 != 0) = true := bne_iff_ne.mpr c3
  simp only [Option.some.injEq, Prod.mk.injEq] at H
  obtain ⟨rfl, rfl⟩ := H
  go_enter Tryz.func21, Tryz.ntmps21
  go_wp2_with (first | (go_at_call 26; (with_reducible refine (ean_complete.calls k 4 a0 t473 _ A2.out).mono ?_); rintro e w8 ⟨rfl, hb⟩; replace HB := Aside0.mk (below_step bw hb); clear hb))
  repeat (go_quiet (first | (go_at_call 26; (with_reducible refine (ean_complete.calls k 4 a0 t473 _ A2.out).mono ?_); rintro e w8 ⟨rfl, hb⟩; replace HB := Aside0.mk (below_step bw hb); clear hb)); try go_wp2_with (first | (go_at_call 26; (with_reducible refine (ean_complete.calls k 4 a0 t473 _ A2.out).mono ?_); rintro e w8 ⟨rfl, hb⟩; replace HB := Aside0.mk (below_step bw hb); clear hb)))
  go_ret2
  exact ⟨es, bw⟩
 have c3b0 : (t473 == 0) = true := beq_iff_eq.mpr c3
 have c3b1 : (t473 != 0) = false := bne_eq_false_iff_eq.mpr c3
 clear c3
 replace H := bd H
 obtain ⟨t474, A4, H⟩ := H
 replace H := ifn H
 obtain ⟨c5, H⟩ := H
 have c5b0 := eq_true c5
 try have c5b0s := s1 c5b0
 have c5b1 : decide (7 ≤ (a0.size : Int)) = true := decide_eq_true c5
 clear c5
 by_cases c6 : t474.size + (a0.extract 7 a0.size).size ≤ 9223372036854775807
 rotate_left
 ·rw [if_neg c6] at H
  exact absurd H (by simp)
 rw [if_pos c6] at H
 have c6b0 := eq_true c6
 try have c6b0s := s1 c6b0
 have c6b1 : decide (t474.size + (a0.extract 7 a0.size).size ≤ 9223372036854775807) = true := decide_eq_true c6
 try have c6b1s := s4 c6b1
 try have c6b1t := s3 c6b1
 try have c6b2 : (9223372036854775807 < t474.size + (a0.extract 7 a0.size).size) = False := eq_false (Nat.not_lt.2 c6)
 try have c6b2s := s2 c6b2
 simp only [Option.some.injEq, Prod.mk.injEq] at H
 obtain ⟨rfl, rfl⟩ := H
 go_enter Tryz.func21, Tryz.ntmps21
 go_wp2_with (first | (go_at_call 26; (with_reducible refine (ean_complete.calls k 4 a0 t473 _ A2.out).mono ?_); rintro e w7 ⟨rfl, hb⟩; replace HB := Aside0.mk (below_step bw hb); clear hb) | (go_at_call 51; (with_reducible refine (ean_expanded.calls a0 t474 _ A4.out).mono ?_); rintro e w' ⟨rfl, ⟨nd, rfl⟩⟩; (try first | exact ⟨rfl, _, World.drewN_drewN _ _ _⟩ | exact ⟨rfl, _, Eq.trans (World.drewN_drewN _ _ _) (congrArg (World.drewN _) (Nat.add_assoc _ _ _))⟩)))
 repeat (go_quiet (first | (go_at_call 26; (with_reducible refine (ean_complete.calls k 4 a0 t473 _ A2.out).mono ?_); rintro e w7 ⟨rfl, hb⟩; replace HB := Aside0.mk (below_step bw hb); clear hb) | (go_at_call 51; (with_reducible refine (ean_expanded.calls a0 t474 _ A4.out).mono ?_); rintro e w' ⟨rfl, ⟨nd, rfl⟩⟩; (try first | exact ⟨rfl, _, World.drewN_drewN _ _ _⟩ | exact ⟨rfl, _, Eq.trans (World.drewN_drewN _ _ _) (congrArg (World.drewN _) (Nat.add_assoc _ _ _))⟩))); try go_wp2_with (first | (go_at_call 26; (with_reducible refine (ean_complete.calls k 4 a0 t473 _ A2.out).mono ?_); rintro e w7 ⟨rfl, hb⟩; replace HB := Aside0.mk (below_step bw hb); clear hb) | (go_at_call 51; (with_reducible refine (ean_expanded.calls a0 t474 _ A4.out).mono ?_); rintro e w' ⟨rfl, ⟨nd, rfl⟩⟩; (try first | exact ⟨rfl, _, World.drewN_drewN _ _ _⟩ | exact ⟨rfl, _, Eq.trans (World.drewN_drewN _ _ _) (congrArg (World.drewN _) (Nat.add_assoc _ _ _))⟩))))
 go_ret2
 exact ⟨es, bw⟩

end Go.Proofs.YtjmeekceecpemaaGreatDoor.Q

namespace Go.Proofs.YtjmeekceecpemaaGreatDoor.Q
open Go.RowKit Go.Proofs.YtjmeekceecpemaaGreatDoorW.PrintWords Go.Proofs.YtjmeekceecpemaaGreatDoorW.PrintLast Go.Proofs.YtjmeekceecpemaaGreatDoorW.PrintMore

set_option linter.unusedVariables false
set_option linter.unusedSimpArgs false

attribute [local go_sem high] eqA31
/-! ### barscanlaw11_examples: function 14 -/
def barscanlaw11_examples.f (k : Nat)  : Option (Bool) := (ean_Encode.f k 1 (⟨#[53, 57, 48, 49, 50, 51, 52, 49, 50, 51, 52, 53, 55]⟩ : ByteArray) (⟨#[]⟩ : ByteArray)).bind fun bt475 => ((ean_Decode.f k bt475.1).bind fun bt479 => ((ean_Complete.f k 2 (⟨#[57, 54, 51, 56, 53, 48, 55]⟩ : ByteArray)).bind fun bt484 => ((ean_Expand.f k (⟨#[48, 52, 50, 53, 50, 54, 49, 52]⟩ : ByteArray)).bind fun bt486 => ((ean_Compress.f k (⟨#[48, 52, 50, 49, 48, 48, 48, 48, 53, 50, 54, 52]⟩ : ByteArray)).bind fun bt488 => ((ean_Encode.f k 1 (⟨#[53, 57, 48, 49, 50, 51, 52, 49, 50, 51, 52, 53, 56]⟩ : ByteArray) (⟨#[]⟩ : ByteArray)).bind fun bt490 => (if bt475.2 = 0 then (if (bt475.1.length : Int) = 113 then (if bt479.2.2.2 = 0 then (if (bt479.1 == 1 && (bt479.2.1.toList == ([53, 57, 48, 49, 50, 51, 52, 49, 50, 51, 52, 53, 55] : List UInt8) && (bt479.2.2.1.toList == ([] : List UInt8)))) = true then (if bt484.1.toList = ([57, 54, 51, 56, 53, 48, 55, 52] : List UInt8) then (if bt484.2 = 0 then (if bt486.1.toList = ([48, 52, 50, 49, 48, 48, 48, 48, 53, 50, 54, 52] : List UInt8) then (if bt486.2 = 0 then (if bt488.1.toList = ([48, 52, 50, 53, 50, 54, 49, 52] : List UInt8) then (if bt488.2 = 0 then (some (bt490.2 == 8)) else (some false)) else (some false)) else (some false)) else (some false)) else (some false)) else (some false)) else (some false)) else (some false)) else (some false)) else (some false)))))))
theorem barscanlaw11_examples.mono : ∀ k, LeO (barscanlaw11_examples.f k ) (barscanlaw11_examples.f (k + 1) ) := by
  intro  k
  unfold barscanlaw11_examples.f
  repeat' with_reducible first | exact ean_Complete.mono _ _ _ | exact ean_Compress.mono _ _ | exact ean_Decode.mono _ _ | exact ean_Encode.mono _ _ _ _ | exact ean_Expand.mono _ _ | exact LeO.refl _ | exact LeO.none _ | refine LeO.ite ?_ ?_ | refine LeO.bind ?_ (fun _ => ?_)
set_option maxHeartbeats 8000000 in
set_option maxRecDepth 100000 in
theorem barscanlaw11_examples.calls (k : Nat)  (r : Bool) (w : World) (h : barscanlaw11_examples.f k  = some r) (hr : r = true) :
    Calls Tryz.prog 14 #[] w fun e w' => e = .returned (.bool r) ∧ Below w.heap.size w w' := by
 have hu31 := Tryz.underlying31
 have HB := Aside0.mk (Below.refl w.heap.size w)
 have H := h
 clear h
 unfold barscanlaw11_examples.f at H
 replace H := bd H
 obtain ⟨⟨t475, t476⟩, A1, H⟩ := H
 replace H := bd H
 obtain ⟨⟨t479, t480, t481, t482⟩, A2, H⟩ := H
 replace H := bd H
 obtain ⟨⟨t484, t485⟩, A3, H⟩ := H
 replace H := bd H
 obtain ⟨⟨t486, t487⟩, A4, H⟩ := H
 replace H := bd H
 obtain ⟨⟨t488, t489⟩, A5, H⟩ := H
 replace H := bd H
 obtain ⟨⟨t490, t491⟩, A6, H⟩ := H
 replace H := ifc H
 obtain ⟨c7, H⟩ | ⟨c7, H⟩ := H
 rotate_left
 ·have c7b0 : (t476 == 0) = false := beq_eq_false_iff_ne.mpr c7
  have c7b1 : (t476 != 0) = true := bne_iff_ne.mpr c7
  exact absurd ((Option.some.inj H).trans hr) Bool.false_ne_true
 have c7b0 : (t476 == 0) = true := beq_iff_eq.mpr c7
 have c7b1 : (t476 != 0) = false := bne_eq_false_iff_eq.mpr c7
 clear c7
 replace H := ifc H
 obtain ⟨c8, H⟩ | ⟨c8, H⟩ := H
 rotate_left
 ·have c8b0 : ((t475.length : Int) == 113) = false := beq_eq_false_iff_ne.mpr c8
  have c8b1 : ((t475.length : Int) != 113) = true := bne_iff_ne.mpr c8
  exact absurd ((Option.some.inj H).trans hr) Bool.false_ne_true
 have c8b0 : ((t475.length : Int) == 113) = true := beq_iff_eq.mpr c8
 have c8b1 : ((t475.length : Int) != 113) = false := bne_eq_false_iff_eq.mpr c8
 clear c8
 replace H := ifc H
 obtain ⟨c9, H⟩ | ⟨c9, H⟩ := H
 rotate_left
 ·have c9b0 : (t482 == 0) = false := beq_eq_false_iff_ne.mpr c9
  have c9b1 : (t482 != 0) = true := bne_iff_ne.mpr c9
  exact absurd ((Option.some.inj H).trans hr) Bool.false_ne_true
 have c9b0 : (t482 == 0) = true := beq_iff_eq.mpr c9
 have c9b1 : (t482 != 0) = false := bne_eq_false_iff_eq.mpr c9
 clear c9
 replace H := ifc H
 obtain ⟨c10, H⟩ | ⟨c10, H⟩ := H
 rotate_left
 ·have c10b0 : (t479 == 1 && (t480.toList == ([53, 57, 48, 49, 50, 51, 52, 49, 50, 51, 52, 53, 55] : List UInt8) && (t481.toList == ([] : List UInt8)))) = false := by simpa using c10
  have c10z : (t479 = 1 ∧ t480.toList = ([53, 57, 48, 49, 50, 51, 52, 49, 50, 51, 52, 53, 55] : List UInt8) ∧ t481.toList = ([] : List UInt8)) = False := eq_false (by simpa using c10)
  clear c10
  exact absurd ((Option.some.inj H).trans hr) Bool.false_ne_true
 have c10b0 : (t479 == 1 && (t480.toList == ([53, 57, 48, 49, 50, 51, 52, 49, 50, 51, 52, 53, 55] : List UInt8) && (t481.toList == ([] : List UInt8)))) = true := c10
 have c10z : (t479 = 1 ∧ t480.toList = ([53, 57, 48, 49, 50, 51, 52, 49, 50, 51, 52, 53, 55] : List UInt8) ∧ t481.toList = ([] : List UInt8)) = True := eq_true (by simpa using c10)
 clear c10
 replace H := ifc H
 obtain ⟨c11, H⟩ | ⟨c11, H⟩ := H
 rotate_left
 ·have c11b0 : (t484.toList == ([57, 54, 51, 56, 53, 48, 55, 52] : List UInt8)) = false := beq_eq_false_iff_ne.mpr c11
  have c11b1 : (t484.toList != ([57, 54, 51, 56, 53, 48, 55, 52] : List UInt8)) = true := bne_iff_ne.mpr c11
  exact absurd ((Option.some.inj H).trans hr) Bool.false_ne_true
 have c11b0 : (t484.toList == ([57, 54, 51, 56, 53, 48, 55, 52] : List UInt8)) = true := beq_iff_eq.mpr c11
 have c11b1 : (t484.toList != ([57, 54, 51, 56, 53, 48, 55, 52] : List UInt8)) = false := bne_eq_false_iff_eq.mpr c11
 clear c11
 replace H := ifc H
 obtain ⟨c12, H⟩ | ⟨c12, H⟩ := H
 rotate_left
 ·have c12b0 : (t485 == 0) = false := beq_eq_false_iff_ne.mpr c12
  have c12b1 : (t485 != 0) = true := bne_iff_ne.mpr c12
  exact absurd ((Option.some.inj H).trans hr) Bool.false_ne_true
 have c12b0 : (t485 == 0) = true := beq_iff_eq.mpr c12
 have c12b1 : (t485 != 0) = false := bne_eq_false_iff_eq.mpr c12
 clear c12
 replace H := ifc H
 obtain ⟨c13, H⟩ | ⟨c13, H⟩ := H
 rotate_left
 ·have c13b0 : (t486.toList == ([48, 52, 50, 49, 48, 48, 48, 48, 53, 50, 54, 52] : List UInt8)) = false := beq_eq_false_iff_ne.mpr c13
  have c13b1 : (t486.toList != ([48, 52, 50, 49, 48, 48, 48, 48, 53, 50, 54, 52] : List UInt8)) = true := bne_iff_ne.mpr c13
  exact absurd ((Option.some.inj H).trans hr) Bool.false_ne_true
 have c13b0 : (t486.toList == ([48, 52, 50, 49, 48, 48, 48, 48, 53, 50, 54, 52] : List UInt8)) = true := beq_iff_eq.mpr c13
 have c13b1 : (t486.toList != ([48, 52, 50, 49, 48, 48, 48, 48, 53, 50, 54, 52] : List UInt8)) = false := bne_eq_false_iff_eq.mpr c13
 clear c13
 replace H := ifc H
 obtain ⟨c14, H⟩ | ⟨c14, H⟩ := H
 rotate_left
 ·have c14b0 : (t487 == 0) = false := beq_eq_false_iff_ne.mpr c14
  have c14b1 : (t487 != 0) = true := bne_iff_ne.mpr c14
  exact absurd ((Option.some.inj H).trans hr) Bool.false_ne_true
 have c14b0 : (t487 == 0) = true := beq_iff_eq.mpr c14
 have c14b1 : (t487 != 0) = false := bne_eq_false_iff_eq.mpr c14
 clear c14
 replace H := ifc H
 obtain ⟨c15, H⟩ | ⟨c15, H⟩ := H
 rotate_left
 ·have c15b0 : (t488.toList == ([48, 52, 50, 53, 50, 54, 49, 52] : List UInt8)) = false := beq_eq_false_iff_ne.mpr c15
  have c15b1 : (t488.toList != ([48, 52, 50, 53, 50, 54, 49, 52] : List UInt8)) = true := bne_iff_ne.mpr c15
  exact absurd ((Option.some.inj H).trans hr) Bool.false_ne_true
 have c15b0 : (t488.toList == ([48, 52, 50, 53, 50, 54, 49, 52] : List UInt8)) = true := beq_iff_eq.mpr c15
 have c15b1 : (t488.toList != ([48, 52, 50, 53, 50, 54, 49, 52] : List UInt8)) = false := bne_eq_false_iff_eq.mpr c15
 clear c15
 replace H := ifc H
 obtain ⟨c16, H⟩ | ⟨c16, H⟩ := H
 rotate_left
 ·have c16b0 : (t489 == 0) = false := beq_eq_false_iff_ne.mpr c16
  have c16b1 : (t489 != 0) = true := bne_iff_ne.mpr c16
  exact absurd ((Option.some.inj H).trans hr) Bool.false_ne_true
 have c16b0 : (t489 == 0) = true := beq_iff_eq.mpr c16
 have c16b1 : (t489 != 0) = false := bne_eq_false_iff_eq.mpr c16
 clear c16
 obtain rfl := Option.some.inj H
 go_enter Tryz.func14, Tryz.ntmps14
 go_wp2_with (first | ((with_reducible refine gate_callee (f := 11) rfl ?_); refine goesL_ (some 14) rfl rfl Tryz.func11 kr rfl #[.int .i64 1, .string (⟨#[53, 57, 48, 49, 50, 51, 52, 49, 50, 51, 52, 53, 55]⟩ : ByteArray), .string (⟨#[]⟩ : ByteArray)] rfl ar ?_; (with_reducible refine (ean_Encode.calls k 1 (⟨#[53, 57, 48, 49, 50, 51, 52, 49, 50, 51, 52, 53, 55]⟩ : ByteArray) (⟨#[]⟩ : ByteArray) t475 t476 _ A1.out).mono ?_); rintro e w17 ⟨v477, rfl, ho0, hb⟩; refine ⟨_, rfl, ?_⟩; have n0_ := Aside0.mk (Kd.R_lower ho0 (below_size bw)); have n1_ := Aside0.mk (below_step bw hb); clear HB; have HO478 := n0_; have HB := n1_; clear n0_ n1_; clear hb; (try clear ho0); obtain ⟨Ao18, co18, eo18⟩ := Kd.R_slice HO478.out; subst eo18) | ((with_reducible refine gate_callee (f := 15) rfl ?_); refine goesL_ (some 19) rfl rfl Tryz.func15 kr rfl #[.slice Ao18 t475.length co18] rfl ar ?_; (with_reducible refine (ean_Decode.calls k _ _ t475 t479 t480 t481 t482 _ ?side1 ?side2 A2.out).mono ?_); (case side1 => repeat (first | exact (Kd.R_reads' HO478.out).2.2 | (with_reducible refine Kd.C_alloc ?_ _) | (with_reducible refine Kd.C_drewN ?_ _) | (with_reducible refine Kd.C_drew ?_))); (case side2 => exact (Kd.R_reads' HO478.out).2.1); rintro e w19 ⟨rfl, hb⟩; refine ⟨_, rfl, ?_⟩; replace HO478 := Aside0.mk (Kd.R_below (kd HO478) hb); replace HB := Aside0.mk (below_step bw hb); clear hb) | ((with_reducible refine gate_dst (N := 3) rfl ?_); (try (refine gate_guard (by rfl) ?_; dsimp only)); refine box_event ?hg (N := 3) ?hd (cs := #[.int .i64 0, .string (⟨#[]⟩ : ByteArray), .string (⟨#[]⟩ : ByteArray)]) (t := 31) ?hr ?_; (case hd => rfl); (case hg => rfl); (case hr => first | (go_simp; done) | (go_simp; rfl)); intro gb483 hg w20 hbox hb; have n0_ := Aside0.mk (Kd.R_below (kd HO478) hb); have n1_ := Aside0.mk (below_step bw hb); have n2_ := Aside0.mk (hbox); have n3_ := Aside0.mk ((by rw [hg]; exact (below_size bw) : w.heap.size ≤ gb483)); have n4_ := Aside0.mk ((by rw [hg]; exact (below_size bw) : w.heap.size ≤ gb483)); clear HO478; clear HB; have HO478 := n0_; have HB := n1_; have BK483 := n2_; have GW483 := n3_; have GE483 := n4_; clear n0_ n1_ n2_ n3_ n4_; clear hb hbox hg; have hcz21_0 : w20.cell? ⟨gb483, 0, none⟩ = some (.int .i64 0) := (blk_cell BK483.out 0).trans rfl; have hcz21_1 : w20.cell? ⟨gb483, 1, none⟩ = some (.string (⟨#[]⟩ : ByteArray)) := (blk_cell BK483.out 1).trans rfl; have hcz21_2 : w20.cell? ⟨gb483, 2, none⟩ = some (.string (⟨#[]⟩ : ByteArray)) := (blk_cell BK483.out 2).trans rfl; have hfz21_0 := blk_frozen BK483.out 0; have hfz21_1 := blk_frozen BK483.out 1; have hfz21_2 := blk_frozen BK483.out 2) | ((with_reducible refine gate_callee (f := 17) rfl ?_); refine goesL_ (some 23) rfl rfl Tryz.func17 kr rfl #[.int .i64 2, .string (⟨#[57, 54, 51, 56, 53, 48, 55]⟩ : ByteArray)] rfl ar ?_; (with_reducible refine (ean_Complete.calls k 2 (⟨#[57, 54, 51, 56, 53, 48, 55]⟩ : ByteArray) t484 t485 _ A3.out).mono ?_); rintro e w22 ⟨rfl, hb⟩; refine ⟨_, rfl, ?_⟩; have n0_ := Aside0.mk (Kd.R_below (by (with_reducible repeat (first | apply Kd.R_alloc | apply Kd.R_drewN | apply Kd.R_drew)); exact (Kd.R_mono (Kd.R_far (p := ⟨gb483, 2, none⟩) (Kd.R_far (p := ⟨gb483, 1, none⟩) (Kd.R_far (p := ⟨gb483, 0, none⟩) (Kd.R_types HO478.out BK483.out (by decide)) (fun _ hk => hk.2) (.int .i64 t479)) (fun _ hk => hk.2) (.string t480)) (fun _ hk => hk.2) (.string t481)) (fun _ h_ => h_.1))) hb); have n1_ := Aside0.mk (blk_below (g := gb483) (o := .cells #[.int .i64 t479, .string t480, .string t481] 31 (0, 0)) (by (with_reducible repeat (first | refine blk_drewN ?_ _ | refine blk_drew ?_ | refine blk_alloc ?_ _)); refine blk_put (cs := #[.int .i64 t479, .string t480, .string (⟨#[]⟩ : ByteArray)]) ?_ 2 _ rfl; (with_reducible repeat (first | refine blk_drewN ?_ _ | refine blk_drew ?_ | refine blk_alloc ?_ _)); refine blk_put (cs := #[.int .i64 t479, .string (⟨#[]⟩ : ByteArray), .string (⟨#[]⟩ : ByteArray)]) ?_ 1 _ rfl; (with_reducible repeat (first | refine blk_drewN ?_ _ | refine blk_drew ?_ | refine blk_alloc ?_ _)); refine blk_put (cs := #[.int .i64 0, .string (⟨#[]⟩ : ByteArray), .string (⟨#[]⟩ : ByteArray)]) ?_ 0 _ rfl; (with_reducible repeat (first | refine blk_drewN ?_ _ | refine blk_drew ?_ | refine blk_alloc ?_ _)); exact BK483.out) hb); have n2_ := Aside0.mk (below_step bw hb); clear HO478; clear BK483; clear HB; have HO478 := n0_; have BK483 := n1_; have HB := n2_; clear n0_ n1_ n2_; clear hb) | ((with_reducible refine gate_callee (f := 21) rfl ?_); refine goesL_ (some 27) rfl rfl Tryz.func21 kr rfl #[.string (⟨#[48, 52, 50, 53, 50, 54, 49, 52]⟩ : ByteArray)] rfl ar ?_; (with_reducible refine (ean_Expand.calls k (⟨#[48, 52, 50, 53, 50, 54, 49, 52]⟩ : ByteArray) t486 t487 _ A4.out).mono ?_); rintro e w23 ⟨rfl, hb⟩; refine ⟨_, rfl, ?_⟩; have n0_ := Aside0.mk (Kd.R_below (kd HO478) hb); have n1_ := Aside0.mk (blk_below (g := gb483) (o := .cells #[.int .i64 t479, .string t480, .string t481] 31 (0, 0)) (bk BK483) hb); have n2_ := Aside0.mk (below_step bw hb); clear HO478; clear BK483; clear HB; have HO478 := n0_; have BK483 := n1_; have HB := n2_; clear n0_ n1_ n2_; clear hb) | ((with_reducible refine gate_callee (f := 19) rfl ?_); refine goesL_ (some 31) rfl rfl Tryz.func19 kr rfl #[.string (⟨#[48, 52, 50, 49, 48, 48, 48, 48, 53, 50, 54, 52]⟩ : ByteArray)] rfl ar ?_; (with_reducible refine (ean_Compress.calls k (⟨#[48, 52, 50, 49, 48, 48, 48, 48, 53, 50, 54, 52]⟩ : ByteArray) t488 t489 _ A5.out).mono ?_); rintro e w24 ⟨rfl, hb⟩; refine ⟨_, rfl, ?_⟩; have n0_ := Aside0.mk (Kd.R_below (kd HO478) hb); have n1_ := Aside0.mk (blk_below (g := gb483) (o := .cells #[.int .i64 t479, .string t480, .string t481] 31 (0, 0)) (bk BK483) hb); have n2_ := Aside0.mk (below_step bw hb); clear HO478; clear BK483; clear HB; have HO478 := n0_; have BK483 := n1_; have HB := n2_; clear n0_ n1_ n2_; clear hb) | ((with_reducible refine gate_callee (f := 11) rfl ?_); refine goesL_ (some 35) rfl rfl Tryz.func11 kr rfl #[.int .i64 1, .string (⟨#[53, 57, 48, 49, 50, 51, 52, 49, 50, 51, 52, 53, 56]⟩ : ByteArray), .string (⟨#[]⟩ : ByteArray)] rfl ar ?_; (with_reducible refine (ean_Encode.calls k 1 (⟨#[53, 57, 48, 49, 50, 51, 52, 49, 50, 51, 52, 53, 56]⟩ : ByteArray) (⟨#[]⟩ : ByteArray) t490 t491 _ A6.out).mono ?_); rintro e w25 ⟨v492, rfl, ho0, hb⟩; refine ⟨_, rfl, ?_⟩; have n0_ := Aside0.mk (Kd.R_elder' (kd HO478) (Kd.R_base ho0) hb); have n1_ := Aside0.mk (Kd.R_lower (Kd.R_new' ho0 (Kd.R_lt (kd HO478))) (below_size bw)); have n2_ := Aside0.mk (blk_below (g := gb483) (o := .cells #[.int .i64 t479, .string t480, .string t481] 31 (0, 0)) (bk BK483) hb); have n3_ := Aside0.mk (below_step bw hb); clear HO478; clear BK483; clear HB; have HO478 := n0_; have HO493 := n1_; have BK483 := n2_; have HB := n3_; clear n0_ n1_ n2_ n3_; clear hb; (try clear ho0); have hcz26_0 : w25.cell? ⟨gb483, 0, none⟩ = some (.int .i64 t479) := (blk_cell BK483.out 0).trans rfl; have hcz26_1 : w25.cell? ⟨gb483, 1, none⟩ = some (.string t480) := (blk_cell BK483.out 1).trans rfl; have hcz26_2 : w25.cell? ⟨gb483, 2, none⟩ = some (.string t481) := (blk_cell BK483.out 2).trans rfl; have hfz26_0 := blk_frozen BK483.out 0; have hfz26_1 := blk_frozen BK483.out 1; have hfz26_2 := blk_frozen BK483.out 2))
 go_ret
 exact ⟨es, bw⟩
end Go.Proofs.YtjmeekceecpemaaGreatDoor.Q

/- The chapter's examples hold. -/
namespace Go.Proofs.YtjmeekceecpemaaGreatDoor.Q
open Go.RowKit Go.Proofs.YtjmeekceecpemaaGreatDoorW.PrintWords Go.Proofs.YtjmeekceecpemaaGreatDoorW.PrintLast Go.Proofs.YtjmeekceecpemaaGreatDoorW.PrintMore
theorem up_of {α : Type} {F : Nat → Option α} {r : α} (hm : ∀ k, LeO (F k) (F (k + 1))) {k0 : Nat} (h : F k0 = some r) : ∀ k, k0 ≤ k → F k = some r := by
  intro k hk
  induction k with
  | zero => obtain rfl : k0 = 0 := by omega
            exact h
  | succ k ih =>
    by_cases he : k0 = k + 1
    · rw [← he]; exact h
    · exact hm k r (ih (by omega))
abbrev exK : Nat := 200
set_option maxRecDepth 1000000 in
theorem examples_at : barscanlaw11_examples.f exK = some true := by decide +kernel
end Go.Proofs.YtjmeekceecpemaaGreatDoor.Q
