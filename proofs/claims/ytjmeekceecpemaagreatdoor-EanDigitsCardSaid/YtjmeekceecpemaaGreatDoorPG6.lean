/- Joined by a program of this work (pack.py) out of the texts QeanCompress of this seat, in build order. -/
import Derived.Test.YtjmeekceecpemaaGreatDoorPG5
namespace Go.Proofs.YtjmeekceecpemaaGreatDoor.Q
open Go.RowKit Go.Proofs.YtjmeekceecpemaaGreatDoorW.PrintWords Go.Proofs.YtjmeekceecpemaaGreatDoorW.PrintLast Go.Proofs.YtjmeekceecpemaaGreatDoorW.PrintMore

set_option linter.unusedVariables false
set_option linter.unusedSimpArgs false

/-! ### ean_Compress: function 19 -/
def ean_Compress.l0 : Nat → ByteArray → List ByteArray → Int → Int → Option (ByteArray × Int)
 | 0, _, _, _, _ => none
 | k + 1, x5, x42, x43, x44 => if x44 < x43 then (if 0 ≤ x44 then (if x44 < (x42.length : Int) then (if 6 < ((rdOf ByteArray.empty x42 x44).size : Int) then ((some (([decide ((bt (rdOf ByteArray.empty x42 x44) 6) ≤ 50), true, true, decide ((bt (rdOf ByteArray.empty x42 x44) 6) ≥ 53)] : List Bool) : List Bool)).bind fun y468 => (if x44 < (y468.length : Int) then (if rdOf false y468 x44 = true then (if 0 < ((rdOf ByteArray.empty x42 x44).size : Int) then (if (bt (rdOf ByteArray.empty x42 x44) 0) ≤ 49 then ((ean_expanded.f (rdOf ByteArray.empty x42 x44)).bind fun t472 => (if 0 ≤ 11 then (if 11 ≤ (x5.size : Int) then (if t472.toList = (x5.extract 0 11).toList then (if (rdOf ByteArray.empty x42 x44).size + (x5.extract 11 x5.size).size ≤ 9223372036854775807 then (some ((rdOf ByteArray.empty x42 x44) ++ (x5.extract 11 x5.size), 0)) else (none)) else (ean_Compress.l0 k x5 x42 x43 (wrap64 (x44 + 1)))) else (none)) else (none))) else (ean_Compress.l0 k x5 x42 x43 (wrap64 (x44 + 1)))) else (none)) else (ean_Compress.l0 k x5 x42 x43 (wrap64 (x44 + 1)))) else (none))) else (none)) else (none)) else (none)) else (some ((⟨#[]⟩ : ByteArray), 9))
def ean_Compress.f (k : Nat) (a0 : ByteArray) : Option (ByteArray × Int) := (ean_complete.f k 3 a0).bind fun t463 => (if t463 = 0 then (if 0 ≤ 3 then (if 3 ≤ (a0.size : Int) then (if 8 ≤ 11 then (if 11 ≤ (a0.size : Int) then (if (a0.extract 0 3).size + (a0.extract 8 11).size ≤ 9223372036854775807 then (if 3 ≤ 4 then (if 4 ≤ (a0.size : Int) then (if ((a0.extract 0 3) ++ (a0.extract 8 11)).size + (a0.extract 3 4).size ≤ 9223372036854775807 then (if 0 ≤ 4 then (if 9 ≤ 11 then (if (a0.extract 0 4).size + (a0.extract 9 11).size ≤ 9223372036854775807 then (if ((a0.extract 0 4) ++ (a0.extract 9 11)).size + 1 ≤ 9223372036854775807 then (if 0 ≤ 5 then (if 5 ≤ (a0.size : Int) then (if 10 ≤ 11 then (if (a0.extract 0 5).size + (a0.extract 10 11).size ≤ 9223372036854775807 then (if ((a0.extract 0 5) ++ (a0.extract 10 11)).size + 1 ≤ 9223372036854775807 then (if 0 ≤ 6 then (if 6 ≤ (a0.size : Int) then (if (a0.extract 0 6).size + (a0.extract 10 11).size ≤ 9223372036854775807 then ((some (([((a0.extract 0 3) ++ (a0.extract 8 11)) ++ (a0.extract 3 4), ((a0.extract 0 4) ++ (a0.extract 9 11)) ++ (⟨#[51]⟩ : ByteArray), ((a0.extract 0 5) ++ (a0.extract 10 11)) ++ (⟨#[52]⟩ : ByteArray), (a0.extract 0 6) ++ (a0.extract 10 11)] : List ByteArray) : List ByteArray)).bind fun y464 => (ean_Compress.l0 k a0 y464 (y464.length : Int) 0)) else (none)) else (none)) else (none)) else (none)) else (none)) else (none)) else (none)) else (none)) else (none)) else (none)) else (none)) else (none)) else (none)) else (none)) else (none)) else (none)) else (none)) else (none)) else (none)) else (none)) else (some ((⟨#[]⟩ : ByteArray), t463)))
theorem ean_Compress.mono_l : ∀ k, (∀ y0 y1 y2 y3, LeO (ean_Compress.l0 k y0 y1 y2 y3) (ean_Compress.l0 (k + 1) y0 y1 y2 y3))
 | 0 => fun _ _ _ _ r h => by simp [ean_Compress.l0] at h
 | k + 1 => by
  have ih0 := ean_Compress.mono_l k
  ·intro y0 y1 y2 y3
   unfold ean_Compress.l0
   repeat' first
   | (with_reducible exact ih0 _ _ _ _)
   | (with_reducible exact ean_complete.mono _ _ _)
   | (with_reducible exact LeO.refl _)
   | (with_reducible exact LeO.none _)
   | (with_reducible refine LeO.ite ?_ ?_)
   | (with_reducible refine LeO.bind ?_ (fun _ => ?_))
   | exact ih0 _ _ _ _
   | exact ean_complete.mono _ _ _
   | exact LeO.none _
   | refine LeO.ite ?_ ?_
   | refine LeO.bind ?_ (fun _ => ?_)
theorem ean_Compress.mono : ∀ a0 k, LeO (ean_Compress.f k a0) (ean_Compress.f (k + 1) a0) := by
 intro a0 k
 have ih0 := ean_Compress.mono_l k
 unfold ean_Compress.f
 repeat' first
   | (with_reducible exact ih0 _ _ _ _)
   | (with_reducible exact ean_complete.mono _ _ _)
   | (with_reducible exact LeO.refl _)
   | (with_reducible exact LeO.none _)
   | (with_reducible refine LeO.ite ?_ ?_)
   | (with_reducible refine LeO.bind ?_ (fun _ => ?_))
   | exact ih0 _ _ _ _
   | exact ean_complete.mono _ _ _
   | exact LeO.none _
   | refine LeO.ite ?_ ?_
   | refine LeO.bind ?_ (fun _ => ?_)
def ean_Compress.T5 : Bool × List (List Nat × List Nat) := (true, [([], []), ([0], [0]), ([], []), ([2], [2]), ([1, 3], [1, 3]), ([], []), ([5], [5]), ([4, 6], [4, 6]), ([], []), ([8], [8]), ([], []), ([10], [10]), ([9, 11], [9, 11]), ([12], [12]), ([], []), ([14], [14]), ([], []), ([16], [16]), ([15, 17], [15, 17]), ([18], [18]), ([], []), ([20], [20]), ([], []), ([22], [22]), ([21, 23], [21, 23]), ([7, 13, 19, 24], [7, 13, 19, 24]), ([25, 0, 1, 2, 3, 4, 5, 6, 7, 8, 9, 10, 11, 12, 13, 14, 15, 16, 17, 18, 19, 20, 21, 22, 23, 24, 25], [25])])
def ean_Compress.B5 : List Nat := [0, 1, 0, 4, 15, 0, 32, 127, 0, 256, 0, 1024, 3840, 7936, 0, 16384, 0, 65536, 245760, 507904, 0, 1048576, 0, 4194304, 15728640, 33554431, 67108863]
theorem ean_Compress.tab5 : rtab .any (opsOf Tryz.f19 5) = ean_Compress.T5 := by kernel_rfl
theorem ean_Compress.bits5 : waitsOk ean_Compress.T5.2 ean_Compress.B5 = true := by kernel_rfl
def ean_Compress.T9 : Bool × List (List Nat × List Nat) := (true, [([], []), ([0], [0]), ([1], [1]), ([], []), ([3], [3]), ([4], [4]), ([2, 5], [2, 5]), ([], []), ([6, 7], [6, 7]), ([8], [8]), ([9, 0, 1, 2, 3, 4, 5, 6, 7, 8, 9], [9])])
def ean_Compress.B9 : List Nat := [0, 1, 3, 0, 8, 24, 63, 0, 255, 511, 1023]
theorem ean_Compress.tab9 : rtab .any (opsOf Tryz.f19 9) = ean_Compress.T9 := by kernel_rfl
theorem ean_Compress.bits9 : waitsOk ean_Compress.T9.2 ean_Compress.B9 = true := by kernel_rfl
def ean_Compress.T10 : Bool × List (List Nat × List Nat) := (true, [([], []), ([0], [0]), ([1], [1]), ([2, 1], [1, 2]), ([3, 1], [1, 3]), ([1, 4], [1, 4]), ([5, 1], [5]), ([6], [6]), ([7, 6, 6], [6, 7]), ([6], [6]), ([9, 6], [6, 9]), ([8, 10, 6], [6, 8, 10]), ([6, 11], [6, 11])])
def ean_Compress.B10 : List Nat := [0, 1, 3, 7, 15, 31, 63, 127, 255, 127, 639, 2047, 4095]
theorem ean_Compress.tab10 : rtab .any (opsOf Tryz.f19 10) = ean_Compress.T10 := by kernel_rfl
theorem ean_Compress.bits10 : waitsOk ean_Compress.T10.2 ean_Compress.B10 = true := by kernel_rfl
set_option maxHeartbeats 8000000 in
set_option maxRecDepth 100000 in
theorem ean_Compress.calls (k : Nat) (a0 : ByteArray) (r1 : ByteArray) (r2 : Int) (w : World) (h : ean_Compress.f k a0 = some (r1, r2)) :
  Calls Tryz.prog 19 #[.string a0] w fun e w' => e = .returned (.tuple #[.string r1, .int .i64 r2]) ∧ Below w.heap.size w w' := by
 have HB := Aside0.mk (Below.refl w.heap.size w)
 have H : ((ean_complete.f k 3 a0).bind fun t463 => (if t463 = 0 then (if 0 ≤ 3 then (if 3 ≤ (a0.size : Int) then (if 8 ≤ 11 then (if 11 ≤ (a0.size : Int) then (if (a0.extract 0 3).size + (a0.extract 8 11).size ≤ 9223372036854775807 then (if 3 ≤ 4 then (if 4 ≤ (a0.size : Int) then (if ((a0.extract 0 3) ++ (a0.extract 8 11)).size + (a0.extract 3 4).size ≤ 9223372036854775807 then (if 0 ≤ 4 then (if 9 ≤ 11 then (if (a0.extract 0 4).size + (a0.extract 9 11).size ≤ 9223372036854775807 then (if ((a0.extract 0 4) ++ (a0.extract 9 11)).size + 1 ≤ 9223372036854775807 then (if 0 ≤ 5 then (if 5 ≤ (a0.size : Int) then (if 10 ≤ 11 then (if (a0.extract 0 5).size + (a0.extract 10 11).size ≤ 9223372036854775807 then (if ((a0.extract 0 5) ++ (a0.extract 10 11)).size + 1 ≤ 9223372036854775807 then (if 0 ≤ 6 then (if 6 ≤ (a0.size : Int) then (if (a0.extract 0 6).size + (a0.extract 10 11).size ≤ 9223372036854775807 then ((some (([((a0.extract 0 3) ++ (a0.extract 8 11)) ++ (a0.extract 3 4), ((a0.extract 0 4) ++ (a0.extract 9 11)) ++ (⟨#[51]⟩ : ByteArray), ((a0.extract 0 5) ++ (a0.extract 10 11)) ++ (⟨#[52]⟩ : ByteArray), (a0.extract 0 6) ++ (a0.extract 10 11)] : List ByteArray) : List ByteArray)).bind fun y464 => (ean_Compress.l0 k a0 y464 (y464.length : Int) 0)) else (none)) else (none)) else (none)) else (none)) else (none)) else (none)) else (none)) else (none)) else (none)) else (none)) else (none)) else (none)) else (none)) else (none)) else (none)) else (none)) else (none)) else (none)) else (none)) else (none)) else (some ((⟨#[]⟩ : ByteArray), t463)))) = some (r1, r2) := h
 clear h
 replace H := Option.bind_eq_some_iff.mp H
 obtain ⟨t463, A20, H⟩ := H
 replace H : (if t463 = 0 then (if 0 ≤ 3 then (if 3 ≤ (a0.size : Int) then (if 8 ≤ 11 then (if 11 ≤ (a0.size : Int) then (if (a0.extract 0 3).size + (a0.extract 8 11).size ≤ 9223372036854775807 then (if 3 ≤ 4 then (if 4 ≤ (a0.size : Int) then (if ((a0.extract 0 3) ++ (a0.extract 8 11)).size + (a0.extract 3 4).size ≤ 9223372036854775807 then (if 0 ≤ 4 then (if 9 ≤ 11 then (if (a0.extract 0 4).size + (a0.extract 9 11).size ≤ 9223372036854775807 then (if ((a0.extract 0 4) ++ (a0.extract 9 11)).size + 1 ≤ 9223372036854775807 then (if 0 ≤ 5 then (if 5 ≤ (a0.size : Int) then (if 10 ≤ 11 then (if (a0.extract 0 5).size + (a0.extract 10 11).size ≤ 9223372036854775807 then (if ((a0.extract 0 5) ++ (a0.extract 10 11)).size + 1 ≤ 9223372036854775807 then (if 0 ≤ 6 then (if 6 ≤ (a0.size : Int) then (if (a0.extract 0 6).size + (a0.extract 10 11).size ≤ 9223372036854775807 then ((some (([((a0.extract 0 3) ++ (a0.extract 8 11)) ++ (a0.extract 3 4), ((a0.extract 0 4) ++ (a0.extract 9 11)) ++ (⟨#[51]⟩ : ByteArray), ((a0.extract 0 5) ++ (a0.extract 10 11)) ++ (⟨#[52]⟩ : ByteArray), (a0.extract 0 6) ++ (a0.extract 10 11)] : List ByteArray) : List ByteArray)).bind fun y464 => (ean_Compress.l0 k a0 y464 (y464.length : Int) 0)) else (none)) else (none)) else (none)) else (none)) else (none)) else (none)) else (none)) else (none)) else (none)) else (none)) else (none)) else (none)) else (none)) else (none)) else (none)) else (none)) else (none)) else (none)) else (none)) else (none)) else (some ((⟨#[]⟩ : ByteArray), t463))) = some (r1, r2) := H
 have A2 := Aside0.mk A20
 clear A20
 by_cases c3 : t463 = 0
 ·rw [if_pos c3] at H
  have c3b0 : (t463 == 0) = true := beq_iff_eq.mpr c3
  have c3b1 : (t463 != 0) = false := bne_eq_false_iff_eq.mpr c3
  clear c3
  by_cases c4 : 0 ≤ 3
  ·rw [if_pos c4] at H
   have c4b0 := eq_true c4
   (try (have h_ := of_eq_true c4b0; simp only [ByteArray.size_append, ByteArray.size_extract, Nat.min_self, Int.toNat_natCast, Nat.sub_zero, Int.natCast_add, size_lit, List.length_cons, List.length_nil, Nat.zero_add, Nat.reduceAdd, Int.natCast_one, Int.cast_ofNat_Int] at h_; have c4b0s := eq_true h_; clear h_))
   have c4b1 : decide (0 ≤ 3) = true := decide_eq_true c4
   clear c4
   by_cases c5 : 3 ≤ (a0.size : Int)
   ·rw [if_pos c5] at H
    have c5b0 := eq_true c5
    (try (have h_ := of_eq_true c5b0; simp only [ByteArray.size_append, ByteArray.size_extract, Nat.min_self, Int.toNat_natCast, Nat.sub_zero, Int.natCast_add, size_lit, List.length_cons, List.length_nil, Nat.zero_add, Nat.reduceAdd, Int.natCast_one, Int.cast_ofNat_Int] at h_; have c5b0s := eq_true h_; clear h_))
    have c5b1 : decide (3 ≤ (a0.size : Int)) = true := decide_eq_true c5
    clear c5
    by_cases c6 : 8 ≤ 11
    ·rw [if_pos c6] at H
     have c6b0 := eq_true c6
     (try (have h_ := of_eq_true c6b0; simp only [ByteArray.size_append, ByteArray.size_extract, Nat.min_self, Int.toNat_natCast, Nat.sub_zero, Int.natCast_add, size_lit, List.length_cons, List.length_nil, Nat.zero_add, Nat.reduceAdd, Int.natCast_one, Int.cast_ofNat_Int] at h_; have c6b0s := eq_true h_; clear h_))
     have c6b1 : decide (8 ≤ 11) = true := decide_eq_true c6
     clear c6
     by_cases c7 : 11 ≤ (a0.size : Int)
     ·rw [if_pos c7] at H
      have c7b0 := eq_true c7
      (try (have h_ := of_eq_true c7b0; simp only [ByteArray.size_append, ByteArray.size_extract, Nat.min_self, Int.toNat_natCast, Nat.sub_zero, Int.natCast_add, size_lit, List.length_cons, List.length_nil, Nat.zero_add, Nat.reduceAdd, Int.natCast_one, Int.cast_ofNat_Int] at h_; have c7b0s := eq_true h_; clear h_))
      have c7b1 : decide (11 ≤ (a0.size : Int)) = true := decide_eq_true c7
      clear c7
      by_cases c8 : (a0.extract 0 3).size + (a0.extract 8 11).size ≤ 9223372036854775807
      ·rw [if_pos c8] at H
       have c8b0 := eq_true c8
       (try (have h_ := of_eq_true c8b0; simp only [ByteArray.size_append, ByteArray.size_extract, Nat.min_self, Int.toNat_natCast, Nat.sub_zero, Int.natCast_add, size_lit, List.length_cons, List.length_nil, Nat.zero_add, Nat.reduceAdd, Int.natCast_one, Int.cast_ofNat_Int] at h_; have c8b0s := eq_true h_; clear h_))
       have c8b1 : decide ((a0.extract 0 3).size + (a0.extract 8 11).size ≤ 9223372036854775807) = true := decide_eq_true c8
       (try (have c8b1s := c8b1; simp only [ByteArray.size_append, ByteArray.size_extract, Nat.min_self, Int.toNat_natCast, Nat.sub_zero, Int.natCast_add, size_lit, List.length_cons, List.length_nil, Nat.zero_add, Nat.reduceAdd, Int.natCast_one, Int.cast_ofNat_Int] at c8b1s))
       (try (have h_ := of_decide_eq_true c8b1; simp only [ByteArray.size_append, ByteArray.size_extract, Nat.min_self, Int.toNat_natCast, Nat.sub_zero, Int.natCast_add, size_lit, List.length_cons, List.length_nil, Nat.zero_add, Nat.reduceAdd, Int.natCast_one, Int.cast_ofNat_Int] at h_; have c8b1t := eq_true h_; clear h_))
       try have c8b2 : (9223372036854775807 < (a0.extract 0 3).size + (a0.extract 8 11).size) = False := eq_false (Nat.not_lt.2 c8)
       (try (have h_ := of_eq_false c8b2; simp only [ByteArray.size_append, ByteArray.size_extract, Nat.min_self, Int.toNat_natCast, Nat.sub_zero, Int.natCast_add, size_lit, List.length_cons, List.length_nil, Nat.zero_add, Nat.reduceAdd, Int.natCast_one, Int.cast_ofNat_Int] at h_; have c8b2s := eq_false h_; clear h_))
       by_cases c9 : 3 ≤ 4
       ·rw [if_pos c9] at H
        have c9b0 := eq_true c9
        (try (have h_ := of_eq_true c9b0; simp only [ByteArray.size_append, ByteArray.size_extract, Nat.min_self, Int.toNat_natCast, Nat.sub_zero, Int.natCast_add, size_lit, List.length_cons, List.length_nil, Nat.zero_add, Nat.reduceAdd, Int.natCast_one, Int.cast_ofNat_Int] at h_; have c9b0s := eq_true h_; clear h_))
        have c9b1 : decide (3 ≤ 4) = true := decide_eq_true c9
        clear c9
        by_cases c10 : 4 ≤ (a0.size : Int)
        ·rw [if_pos c10] at H
         have c10b0 := eq_true c10
         (try (have h_ := of_eq_true c10b0; simp only [ByteArray.size_append, ByteArray.size_extract, Nat.min_self, Int.toNat_natCast, Nat.sub_zero, Int.natCast_add, size_lit, List.length_cons, List.length_nil, Nat.zero_add, Nat.reduceAdd, Int.natCast_one, Int.cast_ofNat_Int] at h_; have c10b0s := eq_true h_; clear h_))
         have c10b1 : decide (4 ≤ (a0.size : Int)) = true := decide_eq_true c10
         clear c10
         by_cases c11 : ((a0.extract 0 3) ++ (a0.extract 8 11)).size + (a0.extract 3 4).size ≤ 9223372036854775807
         ·rw [if_pos c11] at H
          have c11b0 := eq_true c11
          (try (have h_ := of_eq_true c11b0; simp only [ByteArray.size_append, ByteArray.size_extract, Nat.min_self, Int.toNat_natCast, Nat.sub_zero, Int.natCast_add, size_lit, List.length_cons, List.length_nil, Nat.zero_add, Nat.reduceAdd, Int.natCast_one, Int.cast_ofNat_Int] at h_; have c11b0s := eq_true h_; clear h_))
          have c11b1 : decide (((a0.extract 0 3) ++ (a0.extract 8 11)).size + (a0.extract 3 4).size ≤ 9223372036854775807) = true := decide_eq_true c11
          (try (have c11b1s := c11b1; simp only [ByteArray.size_append, ByteArray.size_extract, Nat.min_self, Int.toNat_natCast, Nat.sub_zero, Int.natCast_add, size_lit, List.length_cons, List.length_nil, Nat.zero_add, Nat.reduceAdd, Int.natCast_one, Int.cast_ofNat_Int] at c11b1s))
          (try (have h_ := of_decide_eq_true c11b1; simp only [ByteArray.size_append, ByteArray.size_extract, Nat.min_self, Int.toNat_natCast, Nat.sub_zero, Int.natCast_add, size_lit, List.length_cons, List.length_nil, Nat.zero_add, Nat.reduceAdd, Int.natCast_one, Int.cast_ofNat_Int] at h_; have c11b1t := eq_true h_; clear h_))
          try have c11b2 : (9223372036854775807 < ((a0.extract 0 3) ++ (a0.extract 8 11)).size + (a0.extract 3 4).size) = False := eq_false (Nat.not_lt.2 c11)
          (try (have h_ := of_eq_false c11b2; simp only [ByteArray.size_append, ByteArray.size_extract, Nat.min_self, Int.toNat_natCast, Nat.sub_zero, Int.natCast_add, size_lit, List.length_cons, List.length_nil, Nat.zero_add, Nat.reduceAdd, Int.natCast_one, Int.cast_ofNat_Int] at h_; have c11b2s := eq_false h_; clear h_))
          by_cases c12 : 0 ≤ 4
          ·rw [if_pos c12] at H
           have c12b0 := eq_true c12
           (try (have h_ := of_eq_true c12b0; simp only [ByteArray.size_append, ByteArray.size_extract, Nat.min_self, Int.toNat_natCast, Nat.sub_zero, Int.natCast_add, size_lit, List.length_cons, List.length_nil, Nat.zero_add, Nat.reduceAdd, Int.natCast_one, Int.cast_ofNat_Int] at h_; have c12b0s := eq_true h_; clear h_))
           have c12b1 : decide (0 ≤ 4) = true := decide_eq_true c12
           clear c12
           have c13b0 := eq_true (of_decide_eq_true (by first | (with_reducible assumption) | assumption) : 4 ≤ (a0.size : Int))
           (try (have h_ := of_eq_true c13b0; simp only [ByteArray.size_append, ByteArray.size_extract, Nat.min_self, Int.toNat_natCast, Nat.sub_zero, Int.natCast_add, size_lit, List.length_cons, List.length_nil, Nat.zero_add, Nat.reduceAdd, Int.natCast_one, Int.cast_ofNat_Int] at h_; have c13b0s := eq_true h_; clear h_))
           by_cases c14 : 9 ≤ 11
           ·rw [if_pos c14] at H
            have c14b0 := eq_true c14
            (try (have h_ := of_eq_true c14b0; simp only [ByteArray.size_append, ByteArray.size_extract, Nat.min_self, Int.toNat_natCast, Nat.sub_zero, Int.natCast_add, size_lit, List.length_cons, List.length_nil, Nat.zero_add, Nat.reduceAdd, Int.natCast_one, Int.cast_ofNat_Int] at h_; have c14b0s := eq_true h_; clear h_))
            have c14b1 : decide (9 ≤ 11) = true := decide_eq_true c14
            clear c14
            have c15b0 := eq_true (of_decide_eq_true (by first | (with_reducible assumption) | assumption) : 11 ≤ (a0.size : Int))
            (try (have h_ := of_eq_true c15b0; simp only [ByteArray.size_append, ByteArray.size_extract, Nat.min_self, Int.toNat_natCast, Nat.sub_zero, Int.natCast_add, size_lit, List.length_cons, List.length_nil, Nat.zero_add, Nat.reduceAdd, Int.natCast_one, Int.cast_ofNat_Int] at h_; have c15b0s := eq_true h_; clear h_))
            by_cases c16 : (a0.extract 0 4).size + (a0.extract 9 11).size ≤ 9223372036854775807
            ·rw [if_pos c16] at H
             have c16b0 := eq_true c16
             (try (have h_ := of_eq_true c16b0; simp only [ByteArray.size_append, ByteArray.size_extract, Nat.min_self, Int.toNat_natCast, Nat.sub_zero, Int.natCast_add, size_lit, List.length_cons, List.length_nil, Nat.zero_add, Nat.reduceAdd, Int.natCast_one, Int.cast_ofNat_Int] at h_; have c16b0s := eq_true h_; clear h_))
             have c16b1 : decide ((a0.extract 0 4).size + (a0.extract 9 11).size ≤ 9223372036854775807) = true := decide_eq_true c16
             (try (have c16b1s := c16b1; simp only [ByteArray.size_append, ByteArray.size_extract, Nat.min_self, Int.toNat_natCast, Nat.sub_zero, Int.natCast_add, size_lit, List.length_cons, List.length_nil, Nat.zero_add, Nat.reduceAdd, Int.natCast_one, Int.cast_ofNat_Int] at c16b1s))
             (try (have h_ := of_decide_eq_true c16b1; simp only [ByteArray.size_append, ByteArray.size_extract, Nat.min_self, Int.toNat_natCast, Nat.sub_zero, Int.natCast_add, size_lit, List.length_cons, List.length_nil, Nat.zero_add, Nat.reduceAdd, Int.natCast_one, Int.cast_ofNat_Int] at h_; have c16b1t := eq_true h_; clear h_))
             try have c16b2 : (9223372036854775807 < (a0.extract 0 4).size + (a0.extract 9 11).size) = False := eq_false (Nat.not_lt.2 c16)
             (try (have h_ := of_eq_false c16b2; simp only [ByteArray.size_append, ByteArray.size_extract, Nat.min_self, Int.toNat_natCast, Nat.sub_zero, Int.natCast_add, size_lit, List.length_cons, List.length_nil, Nat.zero_add, Nat.reduceAdd, Int.natCast_one, Int.cast_ofNat_Int] at h_; have c16b2s := eq_false h_; clear h_))
             by_cases c17 : ((a0.extract 0 4) ++ (a0.extract 9 11)).size + 1 ≤ 9223372036854775807
             ·rw [if_pos c17] at H
              have c17b0 := eq_true c17
              (try (have h_ := of_eq_true c17b0; simp only [ByteArray.size_append, ByteArray.size_extract, Nat.min_self, Int.toNat_natCast, Nat.sub_zero, Int.natCast_add, size_lit, List.length_cons, List.length_nil, Nat.zero_add, Nat.reduceAdd, Int.natCast_one, Int.cast_ofNat_Int] at h_; have c17b0s := eq_true h_; clear h_))
              have c17b1 : decide (((a0.extract 0 4) ++ (a0.extract 9 11)).size + 1 ≤ 9223372036854775807) = true := decide_eq_true c17
              (try (have c17b1s := c17b1; simp only [ByteArray.size_append, ByteArray.size_extract, Nat.min_self, Int.toNat_natCast, Nat.sub_zero, Int.natCast_add, size_lit, List.length_cons, List.length_nil, Nat.zero_add, Nat.reduceAdd, Int.natCast_one, Int.cast_ofNat_Int] at c17b1s))
              (try (have h_ := of_decide_eq_true c17b1; simp only [ByteArray.size_append, ByteArray.size_extract, Nat.min_self, Int.toNat_natCast, Nat.sub_zero, Int.natCast_add, size_lit, List.length_cons, List.length_nil, Nat.zero_add, Nat.reduceAdd, Int.natCast_one, Int.cast_ofNat_Int] at h_; have c17b1t := eq_true h_; clear h_))
              try have c17b2 : (9223372036854775807 < ((a0.extract 0 4) ++ (a0.extract 9 11)).size + 1) = False := eq_false (Nat.not_lt.2 c17)
              (try (have h_ := of_eq_false c17b2; simp only [ByteArray.size_append, ByteArray.size_extract, Nat.min_self, Int.toNat_natCast, Nat.sub_zero, Int.natCast_add, size_lit, List.length_cons, List.length_nil, Nat.zero_add, Nat.reduceAdd, Int.natCast_one, Int.cast_ofNat_Int] at h_; have c17b2s := eq_false h_; clear h_))
              by_cases c18 : 0 ≤ 5
              ·rw [if_pos c18] at H
               have c18b0 := eq_true c18
               (try (have h_ := of_eq_true c18b0; simp only [ByteArray.size_append, ByteArray.size_extract, Nat.min_self, Int.toNat_natCast, Nat.sub_zero, Int.natCast_add, size_lit, List.length_cons, List.length_nil, Nat.zero_add, Nat.reduceAdd, Int.natCast_one, Int.cast_ofNat_Int] at h_; have c18b0s := eq_true h_; clear h_))
               have c18b1 : decide (0 ≤ 5) = true := decide_eq_true c18
               clear c18
               by_cases c19 : 5 ≤ (a0.size : Int)
               ·rw [if_pos c19] at H
                have c19b0 := eq_true c19
                (try (have h_ := of_eq_true c19b0; simp only [ByteArray.size_append, ByteArray.size_extract, Nat.min_self, Int.toNat_natCast, Nat.sub_zero, Int.natCast_add, size_lit, List.length_cons, List.length_nil, Nat.zero_add, Nat.reduceAdd, Int.natCast_one, Int.cast_ofNat_Int] at h_; have c19b0s := eq_true h_; clear h_))
                have c19b1 : decide (5 ≤ (a0.size : Int)) = true := decide_eq_true c19
                clear c19
                by_cases c20 : 10 ≤ 11
                ·rw [if_pos c20] at H
                 have c20b0 := eq_true c20
                 (try (have h_ := of_eq_true c20b0; simp only [ByteArray.size_append, ByteArray.size_extract, Nat.min_self, Int.toNat_natCast, Nat.sub_zero, Int.natCast_add, size_lit, List.length_cons, List.length_nil, Nat.zero_add, Nat.reduceAdd, Int.natCast_one, Int.cast_ofNat_Int] at h_; have c20b0s := eq_true h_; clear h_))
                 have c20b1 : decide (10 ≤ 11) = true := decide_eq_true c20
                 clear c20
                 have c21b0 := eq_true (of_decide_eq_true (by first | (with_reducible assumption) | assumption) : 11 ≤ (a0.size : Int))
                 (try (have h_ := of_eq_true c21b0; simp only [ByteArray.size_append, ByteArray.size_extract, Nat.min_self, Int.toNat_natCast, Nat.sub_zero, Int.natCast_add, size_lit, List.length_cons, List.length_nil, Nat.zero_add, Nat.reduceAdd, Int.natCast_one, Int.cast_ofNat_Int] at h_; have c21b0s := eq_true h_; clear h_))
                 by_cases c22 : (a0.extract 0 5).size + (a0.extract 10 11).size ≤ 9223372036854775807
                 ·rw [if_pos c22] at H
                  have c22b0 := eq_true c22
                  (try (have h_ := of_eq_true c22b0; simp only [ByteArray.size_append, ByteArray.size_extract, Nat.min_self, Int.toNat_natCast, Nat.sub_zero, Int.natCast_add, size_lit, List.length_cons, List.length_nil, Nat.zero_add, Nat.reduceAdd, Int.natCast_one, Int.cast_ofNat_Int] at h_; have c22b0s := eq_true h_; clear h_))
                  have c22b1 : decide ((a0.extract 0 5).size + (a0.extract 10 11).size ≤ 9223372036854775807) = true := decide_eq_true c22
                  (try (have c22b1s := c22b1; simp only [ByteArray.size_append, ByteArray.size_extract, Nat.min_self, Int.toNat_natCast, Nat.sub_zero, Int.natCast_add, size_lit, List.length_cons, List.length_nil, Nat.zero_add, Nat.reduceAdd, Int.natCast_one, Int.cast_ofNat_Int] at c22b1s))
                  (try (have h_ := of_decide_eq_true c22b1; simp only [ByteArray.size_append, ByteArray.size_extract, Nat.min_self, Int.toNat_natCast, Nat.sub_zero, Int.natCast_add, size_lit, List.length_cons, List.length_nil, Nat.zero_add, Nat.reduceAdd, Int.natCast_one, Int.cast_ofNat_Int] at h_; have c22b1t := eq_true h_; clear h_))
                  try have c22b2 : (9223372036854775807 < (a0.extract 0 5).size + (a0.extract 10 11).size) = False := eq_false (Nat.not_lt.2 c22)
                  (try (have h_ := of_eq_false c22b2; simp only [ByteArray.size_append, ByteArray.size_extract, Nat.min_self, Int.toNat_natCast, Nat.sub_zero, Int.natCast_add, size_lit, List.length_cons, List.length_nil, Nat.zero_add, Nat.reduceAdd, Int.natCast_one, Int.cast_ofNat_Int] at h_; have c22b2s := eq_false h_; clear h_))
                  by_cases c23 : ((a0.extract 0 5) ++ (a0.extract 10 11)).size + 1 ≤ 9223372036854775807
                  ·rw [if_pos c23] at H
                   have c23b0 := eq_true c23
                   (try (have h_ := of_eq_true c23b0; simp only [ByteArray.size_append, ByteArray.size_extract, Nat.min_self, Int.toNat_natCast, Nat.sub_zero, Int.natCast_add, size_lit, List.length_cons, List.length_nil, Nat.zero_add, Nat.reduceAdd, Int.natCast_one, Int.cast_ofNat_Int] at h_; have c23b0s := eq_true h_; clear h_))
                   have c23b1 : decide (((a0.extract 0 5) ++ (a0.extract 10 11)).size + 1 ≤ 9223372036854775807) = true := decide_eq_true c23
                   (try (have c23b1s := c23b1; simp only [ByteArray.size_append, ByteArray.size_extract, Nat.min_self, Int.toNat_natCast, Nat.sub_zero, Int.natCast_add, size_lit, List.length_cons, List.length_nil, Nat.zero_add, Nat.reduceAdd, Int.natCast_one, Int.cast_ofNat_Int] at c23b1s))
                   (try (have h_ := of_decide_eq_true c23b1; simp only [ByteArray.size_append, ByteArray.size_extract, Nat.min_self, Int.toNat_natCast, Nat.sub_zero, Int.natCast_add, size_lit, List.length_cons, List.length_nil, Nat.zero_add, Nat.reduceAdd, Int.natCast_one, Int.cast_ofNat_Int] at h_; have c23b1t := eq_true h_; clear h_))
                   try have c23b2 : (9223372036854775807 < ((a0.extract 0 5) ++ (a0.extract 10 11)).size + 1) = False := eq_false (Nat.not_lt.2 c23)
                   (try (have h_ := of_eq_false c23b2; simp only [ByteArray.size_append, ByteArray.size_extract, Nat.min_self, Int.toNat_natCast, Nat.sub_zero, Int.natCast_add, size_lit, List.length_cons, List.length_nil, Nat.zero_add, Nat.reduceAdd, Int.natCast_one, Int.cast_ofNat_Int] at h_; have c23b2s := eq_false h_; clear h_))
                   by_cases c24 : 0 ≤ 6
                   ·rw [if_pos c24] at H
                    have c24b0 := eq_true c24
                    (try (have h_ := of_eq_true c24b0; simp only [ByteArray.size_append, ByteArray.size_extract, Nat.min_self, Int.toNat_natCast, Nat.sub_zero, Int.natCast_add, size_lit, List.length_cons, List.length_nil, Nat.zero_add, Nat.reduceAdd, Int.natCast_one, Int.cast_ofNat_Int] at h_; have c24b0s := eq_true h_; clear h_))
                    have c24b1 : decide (0 ≤ 6) = true := decide_eq_true c24
                    clear c24
                    by_cases c25 : 6 ≤ (a0.size : Int)
                    ·rw [if_pos c25] at H
                     have c25b0 := eq_true c25
                     (try (have h_ := of_eq_true c25b0; simp only [ByteArray.size_append, ByteArray.size_extract, Nat.min_self, Int.toNat_natCast, Nat.sub_zero, Int.natCast_add, size_lit, List.length_cons, List.length_nil, Nat.zero_add, Nat.reduceAdd, Int.natCast_one, Int.cast_ofNat_Int] at h_; have c25b0s := eq_true h_; clear h_))
                     have c25b1 : decide (6 ≤ (a0.size : Int)) = true := decide_eq_true c25
                     clear c25
                     have c26b0 := eq_true (of_decide_eq_true (by first | (with_reducible assumption) | assumption) : 10 ≤ 11)
                     (try (have h_ := of_eq_true c26b0; simp only [ByteArray.size_append, ByteArray.size_extract, Nat.min_self, Int.toNat_natCast, Nat.sub_zero, Int.natCast_add, size_lit, List.length_cons, List.length_nil, Nat.zero_add, Nat.reduceAdd, Int.natCast_one, Int.cast_ofNat_Int] at h_; have c26b0s := eq_true h_; clear h_))
                     have c27b0 := eq_true (of_decide_eq_true (by first | (with_reducible assumption) | assumption) : 11 ≤ (a0.size : Int))
                     (try (have h_ := of_eq_true c27b0; simp only [ByteArray.size_append, ByteArray.size_extract, Nat.min_self, Int.toNat_natCast, Nat.sub_zero, Int.natCast_add, size_lit, List.length_cons, List.length_nil, Nat.zero_add, Nat.reduceAdd, Int.natCast_one, Int.cast_ofNat_Int] at h_; have c27b0s := eq_true h_; clear h_))
                     by_cases c28 : (a0.extract 0 6).size + (a0.extract 10 11).size ≤ 9223372036854775807
                     ·rw [if_pos c28] at H
                      have c28b0 := eq_true c28
                      (try (have h_ := of_eq_true c28b0; simp only [ByteArray.size_append, ByteArray.size_extract, Nat.min_self, Int.toNat_natCast, Nat.sub_zero, Int.natCast_add, size_lit, List.length_cons, List.length_nil, Nat.zero_add, Nat.reduceAdd, Int.natCast_one, Int.cast_ofNat_Int] at h_; have c28b0s := eq_true h_; clear h_))
                      have c28b1 : decide ((a0.extract 0 6).size + (a0.extract 10 11).size ≤ 9223372036854775807) = true := decide_eq_true c28
                      (try (have c28b1s := c28b1; simp only [ByteArray.size_append, ByteArray.size_extract, Nat.min_self, Int.toNat_natCast, Nat.sub_zero, Int.natCast_add, size_lit, List.length_cons, List.length_nil, Nat.zero_add, Nat.reduceAdd, Int.natCast_one, Int.cast_ofNat_Int] at c28b1s))
                      (try (have h_ := of_decide_eq_true c28b1; simp only [ByteArray.size_append, ByteArray.size_extract, Nat.min_self, Int.toNat_natCast, Nat.sub_zero, Int.natCast_add, size_lit, List.length_cons, List.length_nil, Nat.zero_add, Nat.reduceAdd, Int.natCast_one, Int.cast_ofNat_Int] at h_; have c28b1t := eq_true h_; clear h_))
                      try have c28b2 : (9223372036854775807 < (a0.extract 0 6).size + (a0.extract 10 11).size) = False := eq_false (Nat.not_lt.2 c28)
                      (try (have h_ := of_eq_false c28b2; simp only [ByteArray.size_append, ByteArray.size_extract, Nat.min_self, Int.toNat_natCast, Nat.sub_zero, Int.natCast_add, size_lit, List.length_cons, List.length_nil, Nat.zero_add, Nat.reduceAdd, Int.natCast_one, Int.cast_ofNat_Int] at h_; have c28b2s := eq_false h_; clear h_))
                      obtain ⟨y464, hy464⟩ : ∃ y_ : List ByteArray, y_ = (([((a0.extract 0 3) ++ (a0.extract 8 11)) ++ (a0.extract 3 4), ((a0.extract 0 4) ++ (a0.extract 9 11)) ++ (⟨#[51]⟩ : ByteArray), ((a0.extract 0 5) ++ (a0.extract 10 11)) ++ (⟨#[52]⟩ : ByteArray), (a0.extract 0 6) ++ (a0.extract 10 11)] : List ByteArray)) := ⟨_, rfl⟩
                      replace H : (ean_Compress.l0 k a0 y464 (y464.length : Int) 0) = some (r1, r2) := by first | (rw [hy464]; with_reducible exact H) | (have H2_ := (Option.bind_some _ _).symm.trans H; rw [hy464]; with_reducible exact H2_) | (have H2_ := (Option.bind_some _ _).symm.trans H; with_reducible exact H2_) | with_reducible exact H | (rw [hy464]; exact H) | exact H
                      have Ny464 := Aside0.mk hy464
                      clear hy464
                      have H' := Aside0.mk H
                      clear H
                      go_enter Tryz.func19, Tryz.ntmps19
                      try go_wp2_with (first | ((with_reducible refine gate_callee (f := 26) rfl ?_); refine goesL_ (some 11) rfl rfl Tryz.func26 (by kernel_rfl) rfl #[.int .i64 3, .string a0] rfl (by (try simp only [List.map_toArray, List.map_cons, List.map_nil]); first | done | rfl | (simp only [List.length_drop, List.length_take]; rfl)) ?_; (with_reducible refine (ean_complete.calls k 3 a0 t463 _ A2.out).mono ?_); rintro e w29 ⟨rfl, hb⟩; refine ⟨_, rfl, ?_⟩; have n0_ := Aside0.mk (below_step (by repeat (first | (with_reducible first | exact HB.out | apply below_alloc | apply pw_below_drewN | apply below_drew1) | exact HB.out)) hb); clear HB; have HB := n0_; clear n0_; (try clear hb); (try clear hb2); (try clear hk); (try clear hi)))
                      have n0_ := Aside0.mk (below_drew1 HB.out)
                      clear HB
                      have HB := n0_
                      clear n0_
                      refine start_ (n := 27) (S := fun w' => True) (ds := []) #[false, false, false, false, false, false, false, false, false, false, false, false, false, false, false, false, false, false, false, false, false, false, false, false, false, false, false] (by kernel_rfl) rfl rfl trivial (fun hHeld => ?_); refine with_tabW ean_Compress.tab5 ean_Compress.bits5 (fun HT_ HW_ => ?_)
                      generalize w29.drew = w30 at HB hHeld ⊢
                      refine pure_ (i := 0) (N := some 16) (v := ?_) (a' := ?_) #[true, false, false, false, false, false, false, false, false, false, false, false, false, false, false, false, false, false, false, false, false, false, false, false, false, false, false] rfl rfl (any_of HT_.out (by kernel_rfl)) (fun _ _ _ h => h) (Or.inl ⟨by rfl, ?_⟩) ?_ ?_
                      rotate_left
                      ·intro w'
                       go_simp
                       try go_bits
                       with_reducible rfl
                      rotate_left
                      ·simp only [Act.put, List.setIfInBounds_toArray, List.set_cons_zero, List.set_cons_succ, i64_w]
                       rfl
                      refine pure_ (i := 1) (N := some 17) (v := ?_) (a' := ?_) #[true, true, false, false, false, false, false, false, false, false, false, false, false, false, false, false, false, false, false, false, false, false, false, false, false, false, false] rfl rfl (any_of HT_.out (by kernel_rfl)) (fun _ _ _ h => h) (Or.inl ⟨by rfl, ?_⟩) ?_ ?_
                      rotate_left
                      ·intro w'
                       go_simp
                       try go_bits
                       with_reducible rfl
                      rotate_left
                      ·simp only [Act.put, List.setIfInBounds_toArray, List.set_cons_zero, List.set_cons_succ, i64_w]
                       rfl
                      refine pure_ (i := 2) (N := some 18) (v := ?_) (a' := ?_) #[true, true, true, false, false, false, false, false, false, false, false, false, false, false, false, false, false, false, false, false, false, false, false, false, false, false, false] rfl rfl (any_of HT_.out (by kernel_rfl)) (fun _ _ _ h => h) (Or.inl ⟨by rfl, ?_⟩) ?_ ?_
                      rotate_left
                      ·intro w'
                       go_simp
                       try go_bits
                       with_reducible rfl
                      rotate_left
                      ·simp only [Act.put, List.setIfInBounds_toArray, List.set_cons_zero, List.set_cons_succ, i64_w]
                       rfl
                      refine pure_ (i := 3) (N := some 19) (v := ?_) (a' := ?_) #[true, true, true, true, false, false, false, false, false, false, false, false, false, false, false, false, false, false, false, false, false, false, false, false, false, false, false] rfl rfl (any_of HT_.out (by kernel_rfl)) (fun _ _ _ h => h) (Or.inl ⟨by rfl, ?_⟩) ?_ ?_
                      rotate_left
                      ·intro w'
                       go_simp
                       try go_bits
                       with_reducible rfl
                      rotate_left
                      ·simp only [Act.put, List.setIfInBounds_toArray, List.set_cons_zero, List.set_cons_succ, i64_w]
                       rfl
                      refine pure_ (i := 4) (N := some 20) (v := ?_) (a' := ?_) #[true, true, true, true, true, false, false, false, false, false, false, false, false, false, false, false, false, false, false, false, false, false, false, false, false, false, false] rfl rfl (any_of HT_.out (by kernel_rfl)) (fun _ _ _ h => h) (Or.inl ⟨by rfl, ?_⟩) ?_ ?_
                      rotate_left
                      ·intro w'
                       go_simp
                       try go_bits
                       with_reducible rfl
                      rotate_left
                      ·simp only [Act.put, List.setIfInBounds_toArray, List.set_cons_zero, List.set_cons_succ, i64_w]
                       rfl
                      refine pure_ (i := 5) (N := some 21) (v := ?_) (a' := ?_) #[true, true, true, true, true, true, false, false, false, false, false, false, false, false, false, false, false, false, false, false, false, false, false, false, false, false, false] rfl rfl (any_of HT_.out (by kernel_rfl)) (fun _ _ _ h => h) (Or.inl ⟨by rfl, ?_⟩) ?_ ?_
                      rotate_left
                      ·intro w'
                       go_simp
                       try go_bits
                       with_reducible rfl
                      rotate_left
                      ·simp only [Act.put, List.setIfInBounds_toArray, List.set_cons_zero, List.set_cons_succ, i64_w]
                       rfl
                      refine pure_ (i := 6) (N := some 22) (v := ?_) (a' := ?_) #[true, true, true, true, true, true, true, false, false, false, false, false, false, false, false, false, false, false, false, false, false, false, false, false, false, false, false] rfl rfl (any_of HT_.out (by kernel_rfl)) (fun _ _ _ h => h) (Or.inl ⟨by rfl, ?_⟩) ?_ ?_
                      rotate_left
                      ·intro w'
                       go_simp
                       try go_bits
                       with_reducible rfl
                      rotate_left
                      ·simp only [Act.put, List.setIfInBounds_toArray, List.set_cons_zero, List.set_cons_succ, i64_w]
                       rfl
                      refine pure_ (i := 7) (N := some 23) (v := ?_) (a' := ?_) #[true, true, true, true, true, true, true, true, false, false, false, false, false, false, false, false, false, false, false, false, false, false, false, false, false, false, false] rfl rfl (any_of HT_.out (by kernel_rfl)) (fun _ _ _ h => h) (Or.inl ⟨by rfl, ?_⟩) ?_ ?_
                      rotate_left
                      ·intro w'
                       go_simp
                       try go_bits
                       with_reducible rfl
                      rotate_left
                      ·simp only [Act.put, List.setIfInBounds_toArray, List.set_cons_zero, List.set_cons_succ, i64_w]
                       rfl
                      refine pure_ (i := 8) (N := some 24) (v := ?_) (a' := ?_) #[true, true, true, true, true, true, true, true, true, false, false, false, false, false, false, false, false, false, false, false, false, false, false, false, false, false, false] rfl rfl (any_of HT_.out (by kernel_rfl)) (fun _ _ _ h => h) (Or.inl ⟨by rfl, ?_⟩) ?_ ?_
                      rotate_left
                      ·intro w'
                       go_simp
                       try go_bits
                       with_reducible rfl
                      rotate_left
                      ·simp only [Act.put, List.setIfInBounds_toArray, List.set_cons_zero, List.set_cons_succ, i64_w]
                       rfl
                      refine pure_ (i := 9) (N := some 25) (v := ?_) (a' := ?_) #[true, true, true, true, true, true, true, true, true, true, false, false, false, false, false, false, false, false, false, false, false, false, false, false, false, false, false] rfl rfl (any_of HT_.out (by kernel_rfl)) (fun _ _ _ h => h) (Or.inl ⟨by rfl, ?_⟩) ?_ ?_
                      rotate_left
                      ·intro w'
                       go_simp
                       try go_bits
                       with_reducible rfl
                      rotate_left
                      ·simp only [Act.put, List.setIfInBounds_toArray, List.set_cons_zero, List.set_cons_succ, i64_w]
                       rfl
                      refine pure_ (i := 10) (N := some 26) (v := ?_) (a' := ?_) #[true, true, true, true, true, true, true, true, true, true, true, false, false, false, false, false, false, false, false, false, false, false, false, false, false, false, false] rfl rfl (any_of HT_.out (by kernel_rfl)) (fun _ _ _ h => h) (Or.inl ⟨by rfl, ?_⟩) ?_ ?_
                      rotate_left
                      ·intro w'
                       go_simp
                       try go_bits
                       with_reducible rfl
                      rotate_left
                      ·simp only [Act.put, List.setIfInBounds_toArray, List.set_cons_zero, List.set_cons_succ, i64_w]
                       rfl
                      refine pure_ (i := 11) (N := some 27) (v := ?_) (a' := ?_) #[true, true, true, true, true, true, true, true, true, true, true, true, false, false, false, false, false, false, false, false, false, false, false, false, false, false, false] rfl rfl (any_of HT_.out (by kernel_rfl)) (fun _ _ _ h => h) (Or.inl ⟨by rfl, ?_⟩) ?_ ?_
                      rotate_left
                      ·intro w'
                       go_simp
                       try go_bits
                       with_reducible rfl
                      rotate_left
                      ·simp only [Act.put, List.setIfInBounds_toArray, List.set_cons_zero, List.set_cons_succ, i64_w]
                       rfl
                      refine pure_ (i := 12) (N := some 28) (v := ?_) (a' := ?_) #[true, true, true, true, true, true, true, true, true, true, true, true, true, false, false, false, false, false, false, false, false, false, false, false, false, false, false] rfl rfl (any_of HT_.out (by kernel_rfl)) (fun _ _ _ h => h) (Or.inl ⟨by rfl, ?_⟩) ?_ ?_
                      rotate_left
                      ·intro w'
                       go_simp
                       try go_bits
                       with_reducible rfl
                      rotate_left
                      ·simp only [Act.put, List.setIfInBounds_toArray, List.set_cons_zero, List.set_cons_succ, i64_w]
                       rfl
                      refine pure_ (i := 13) (N := some 29) (v := ?_) (a' := ?_) #[true, true, true, true, true, true, true, true, true, true, true, true, true, true, false, false, false, false, false, false, false, false, false, false, false, false, false] rfl rfl (any_of HT_.out (by kernel_rfl)) (fun _ _ _ h => h) (Or.inl ⟨by rfl, ?_⟩) ?_ ?_
                      rotate_left
                      ·intro w'
                       go_simp
                       try go_bits
                       with_reducible rfl
                      rotate_left
                      ·simp only [Act.put, List.setIfInBounds_toArray, List.set_cons_zero, List.set_cons_succ, i64_w]
                       rfl
                      refine pure_ (i := 14) (N := some 30) (v := ?_) (a' := ?_) #[true, true, true, true, true, true, true, true, true, true, true, true, true, true, true, false, false, false, false, false, false, false, false, false, false, false, false] rfl rfl (any_of HT_.out (by kernel_rfl)) (fun _ _ _ h => h) (Or.inl ⟨by rfl, ?_⟩) ?_ ?_
                      rotate_left
                      ·intro w'
                       go_simp
                       try go_bits
                       with_reducible rfl
                      rotate_left
                      ·simp only [Act.put, List.setIfInBounds_toArray, List.set_cons_zero, List.set_cons_succ, i64_w]
                       rfl
                      refine pure_ (i := 15) (N := some 31) (v := ?_) (a' := ?_) #[true, true, true, true, true, true, true, true, true, true, true, true, true, true, true, true, false, false, false, false, false, false, false, false, false, false, false] rfl rfl (any_of HT_.out (by kernel_rfl)) (fun _ _ _ h => h) (Or.inl ⟨by rfl, ?_⟩) ?_ ?_
                      rotate_left
                      ·intro w'
                       go_simp
                       try go_bits
                       with_reducible rfl
                      rotate_left
                      ·simp only [Act.put, List.setIfInBounds_toArray, List.set_cons_zero, List.set_cons_succ, i64_w]
                       rfl
                      refine pure_ (i := 16) (N := some 32) (v := ?_) (a' := ?_) #[true, true, true, true, true, true, true, true, true, true, true, true, true, true, true, true, true, false, false, false, false, false, false, false, false, false, false] rfl rfl (any_of HT_.out (by kernel_rfl)) (fun _ _ _ h => h) (Or.inl ⟨by rfl, ?_⟩) ?_ ?_
                      rotate_left
                      ·intro w'
                       go_simp
                       try go_bits
                       with_reducible rfl
                      rotate_left
                      ·simp only [Act.put, List.setIfInBounds_toArray, List.set_cons_zero, List.set_cons_succ, i64_w]
                       rfl
                      refine pure_ (i := 17) (N := some 33) (v := ?_) (a' := ?_) #[true, true, true, true, true, true, true, true, true, true, true, true, true, true, true, true, true, true, false, false, false, false, false, false, false, false, false] rfl rfl (any_of HT_.out (by kernel_rfl)) (fun _ _ _ h => h) (Or.inl ⟨by rfl, ?_⟩) ?_ ?_
                      rotate_left
                      ·intro w'
                       go_simp
                       try go_bits
                       with_reducible rfl
                      rotate_left
                      ·simp only [Act.put, List.setIfInBounds_toArray, List.set_cons_zero, List.set_cons_succ, i64_w]
                       rfl
                      refine pure_ (i := 18) (N := some 34) (v := ?_) (a' := ?_) #[true, true, true, true, true, true, true, true, true, true, true, true, true, true, true, true, true, true, true, false, false, false, false, false, false, false, false] rfl rfl (any_of HT_.out (by kernel_rfl)) (fun _ _ _ h => h) (Or.inl ⟨by rfl, ?_⟩) ?_ ?_
                      rotate_left
                      ·intro w'
                       go_simp
                       try go_bits
                       with_reducible rfl
                      rotate_left
                      ·simp only [Act.put, List.setIfInBounds_toArray, List.set_cons_zero, List.set_cons_succ, i64_w]
                       rfl
                      refine pure_ (i := 19) (N := some 35) (v := ?_) (a' := ?_) #[true, true, true, true, true, true, true, true, true, true, true, true, true, true, true, true, true, true, true, true, false, false, false, false, false, false, false] rfl rfl (any_of HT_.out (by kernel_rfl)) (fun _ _ _ h => h) (Or.inl ⟨by rfl, ?_⟩) ?_ ?_
                      rotate_left
                      ·intro w'
                       go_simp
                       try go_bits
                       with_reducible rfl
                      rotate_left
                      ·simp only [Act.put, List.setIfInBounds_toArray, List.set_cons_zero, List.set_cons_succ, i64_w]
                       rfl
                      refine pure_ (i := 20) (N := some 36) (v := ?_) (a' := ?_) #[true, true, true, true, true, true, true, true, true, true, true, true, true, true, true, true, true, true, true, true, true, false, false, false, false, false, false] rfl rfl (any_of HT_.out (by kernel_rfl)) (fun _ _ _ h => h) (Or.inl ⟨by rfl, ?_⟩) ?_ ?_
                      rotate_left
                      ·intro w'
                       go_simp
                       try go_bits
                       with_reducible rfl
                      rotate_left
                      ·simp only [Act.put, List.setIfInBounds_toArray, List.set_cons_zero, List.set_cons_succ, i64_w]
                       rfl
                      refine pure_ (i := 21) (N := some 37) (v := ?_) (a' := ?_) #[true, true, true, true, true, true, true, true, true, true, true, true, true, true, true, true, true, true, true, true, true, true, false, false, false, false, false] rfl rfl (any_of HT_.out (by kernel_rfl)) (fun _ _ _ h => h) (Or.inl ⟨by rfl, ?_⟩) ?_ ?_
                      rotate_left
                      ·intro w'
                       go_simp
                       try go_bits
                       with_reducible rfl
                      rotate_left
                      ·simp only [Act.put, List.setIfInBounds_toArray, List.set_cons_zero, List.set_cons_succ, i64_w]
                       rfl
                      refine pure_ (i := 22) (N := some 38) (v := ?_) (a' := ?_) #[true, true, true, true, true, true, true, true, true, true, true, true, true, true, true, true, true, true, true, true, true, true, true, false, false, false, false] rfl rfl (any_of HT_.out (by kernel_rfl)) (fun _ _ _ h => h) (Or.inl ⟨by rfl, ?_⟩) ?_ ?_
                      rotate_left
                      ·intro w'
                       go_simp
                       try go_bits
                       with_reducible rfl
                      rotate_left
                      ·simp only [Act.put, List.setIfInBounds_toArray, List.set_cons_zero, List.set_cons_succ, i64_w]
                       rfl
                      refine pure_ (i := 23) (N := some 39) (v := ?_) (a' := ?_) #[true, true, true, true, true, true, true, true, true, true, true, true, true, true, true, true, true, true, true, true, true, true, true, true, false, false, false] rfl rfl (any_of HT_.out (by kernel_rfl)) (fun _ _ _ h => h) (Or.inl ⟨by rfl, ?_⟩) ?_ ?_
                      rotate_left
                      ·intro w'
                       go_simp
                       try go_bits
                       with_reducible rfl
                      rotate_left
                      ·simp only [Act.put, List.setIfInBounds_toArray, List.set_cons_zero, List.set_cons_succ, i64_w]
                       rfl
                      refine pure_ (i := 24) (N := some 40) (v := ?_) (a' := ?_) #[true, true, true, true, true, true, true, true, true, true, true, true, true, true, true, true, true, true, true, true, true, true, true, true, true, false, false] rfl rfl (any_of HT_.out (by kernel_rfl)) (fun _ _ _ h => h) (Or.inl ⟨by rfl, ?_⟩) ?_ ?_
                      rotate_left
                      ·intro w'
                       go_simp
                       try go_bits
                       with_reducible rfl
                      rotate_left
                      ·simp only [Act.put, List.setIfInBounds_toArray, List.set_cons_zero, List.set_cons_succ, i64_w]
                       rfl
                      refine one_ (i := 25) (N := some 41) #[true, true, true, true, true, true, true, true, true, true, true, true, true, true, true, true, true, true, true, true, true, true, true, true, true, true, false] rfl rfl (one_of HT_.out (by kernel_rfl)) (by decide) (fun K hK => ?_)
                      refine Kd.R_lit_step Kd.string _ 9 ?hg (N := 41) ?hd (xs := ([((a0.extract 0 3) ++ (a0.extract 8 11)) ++ (a0.extract 3 4), ((a0.extract 0 4) ++ (a0.extract 9 11)) ++ (⟨#[51]⟩ : ByteArray), ((a0.extract 0 5) ++ (a0.extract 10 11)) ++ (⟨#[52]⟩ : ByteArray), (a0.extract 0 6) ++ (a0.extract 10 11)] : List ByteArray)) (inner := [.string (((a0.extract 0 3) ++ (a0.extract 8 11)) ++ (a0.extract 3 4)), .string (((a0.extract 0 4) ++ (a0.extract 9 11)) ++ (⟨#[51]⟩ : ByteArray)), .string (((a0.extract 0 5) ++ (a0.extract 10 11)) ++ (⟨#[52]⟩ : ByteArray)), .string ((a0.extract 0 6) ++ (a0.extract 10 11))]) (ok := fun _ => True) (okp := fun _ => True) ?hr ?hp (fun _ hk => hk) trivial (Below.refl _ _) (Nat.le_refl _) (by simp) ?_; (case hd => rfl); (case hg => rfl); (case hr => first | (go_simp; done) | (go_simp; rfl)); (case hp => exact (Reps.one (show Kd.M Kd.string _ _ _ (((a0.extract 0 3) ++ (a0.extract 8 11)) ++ (a0.extract 3 4)) [.string (((a0.extract 0 3) ++ (a0.extract 8 11)) ++ (a0.extract 3 4))] from rfl) (Reps.one (show Kd.M Kd.string _ _ _ (((a0.extract 0 4) ++ (a0.extract 9 11)) ++ (⟨#[51]⟩ : ByteArray)) [.string (((a0.extract 0 4) ++ (a0.extract 9 11)) ++ (⟨#[51]⟩ : ByteArray))] from rfl) (Reps.one (show Kd.M Kd.string _ _ _ (((a0.extract 0 5) ++ (a0.extract 10 11)) ++ (⟨#[52]⟩ : ByteArray)) [.string (((a0.extract 0 5) ++ (a0.extract 10 11)) ++ (⟨#[52]⟩ : ByteArray))] from rfl) (Reps.one (show Kd.M Kd.string _ _ _ ((a0.extract 0 6) ++ (a0.extract 10 11)) [.string ((a0.extract 0 6) ++ (a0.extract 10 11))] from rfl) (Reps.none _ _))))))
                      intro v465 w31 ho32 hb hg_ hnew_
                      clear hg_ hnew_
                      (first | rw [← Ny464.out] at ho32 | (simp only [Int.reduceToNat] at ho32; rw [← Ny464.out] at ho32))
                      have n0_ := Aside0.mk (Kd.R_lower ho32 (below_size (by repeat (first | (with_reducible first | exact HB.out | apply below_alloc | apply pw_below_drewN | apply below_drew1) | exact HB.out))))
                      have n1_ := Aside0.mk (below_step (by repeat (first | (with_reducible first | exact HB.out | apply below_alloc | apply pw_below_drewN | apply below_drew1) | exact HB.out)) hb)
                      clear HB
                      have HO466 := n0_
                      have HB := n1_
                      clear n0_ n1_
                      clear hb ho32
                      refine hK.out _ _ trivial (fun hHeld => ?_)
                      clear hK K
                      refine norm_ (a' := ?_) ?_ ?_
                      rotate_left
                      ·show Act.put _ (some 41) _ = _
                       simp only [Act.put, List.setIfInBounds_toArray, List.set_cons_zero, List.set_cons_succ, i64_w]
                       rfl
                      refine pure_ (i := 26) (N := some 6) (v := ?_) (a' := ?_) #[true, true, true, true, true, true, true, true, true, true, true, true, true, true, true, true, true, true, true, true, true, true, true, true, true, true, true] rfl rfl (any_of HT_.out (by kernel_rfl)) (fun _ _ _ h => h) (Or.inl ⟨by rfl, ?_⟩) ?_ ?_
                      rotate_left
                      ·intro w'
                       go_simp
                       try go_bits
                       with_reducible rfl
                      rotate_left
                      ·simp only [Act.put, List.setIfInBounds_toArray, List.set_cons_zero, List.set_cons_succ, i64_w]
                       rfl
                      refine done_ (done_of HT_.out (by kernel_rfl)) ?_
                      obtain ⟨Ao33, co33, eo33⟩ := Kd.R_slice HO466.out
                      subst eo33
                      try go_wp2
                      go_loopg [44] k (fun kq v44 w' => ∃ (x44_1 : Int), v44 = .int .i64 x44_1 ∧ Aside0 (ean_Compress.l0 kq a0 y464 (y464.length : Int) x44_1 = some (r1, r2)) ∧ Aside0 (kq ≤ k) ∧ Aside0 (Kd.R Kd.string 9 w' w.heap.size (fun _ => True) (.slice Ao33 y464.length co33) y464) ∧ Aside0 (Below w.heap.size w w'))
                      case atStart => exact ⟨(0), (by first | rfl | (simp; done) | (simp [*]; done)), H', ⟨Nat.le_refl _⟩, ⟨by (with_reducible repeat (first | apply Kd.R_alloc | apply Kd.R_drewN | apply Kd.R_drew)); exact HO466.out⟩, ⟨by repeat (first | (with_reducible first | exact HB.out | apply below_alloc | apply pw_below_drewN | apply below_drew1) | exact HB.out)⟩⟩
                      case round =>
                       clear H'
                       obtain ⟨x44_1, rfl, HA, HK1, HO_42, HB⟩ := hrel
                       cases gk with
                       | zero => exact absurd HA.out (by simp [ean_Compress.l0])
                       | succ k1 =>
                        have H := HA.out
                        clear HA
                        simp only [ean_Compress.l0] at H
                        by_cases c34 : x44_1 < (y464.length : Int)
                        ·rw [if_pos c34] at H
                         have c34b0 : decide (x44_1 < (y464.length : Int)) = true := decide_eq_true c34
                         clear c34
                         by_cases c35 : 0 ≤ x44_1
                         ·rw [if_pos c35] at H
                          have c35b0 : decide (0 ≤ x44_1) = true := decide_eq_true c35
                          clear c35
                          by_cases c36 : x44_1 < (y464.length : Int)
                          ·rw [if_pos c36] at H
                           have c36b0 : decide (x44_1 < (y464.length : Int)) = true := decide_eq_true c36
                           clear c36
                           by_cases c37 : 6 < ((rdOf ByteArray.empty y464 x44_1).size : Int)
                           ·rw [if_pos c37] at H
                            have c37b0 : decide (6 < ((rdOf ByteArray.empty y464 x44_1).size : Int)) = true := decide_eq_true c37
                            have c37b1 : decide (6 < (rdOf ByteArray.empty y464 x44_1).size) = true := decide_eq_true (by omega)
                            clear c37
                            obtain ⟨y468, hy468⟩ : ∃ y_ : List Bool, y_ = (([decide ((bt (rdOf ByteArray.empty y464 x44_1) 6) ≤ 50), true, true, decide ((bt (rdOf ByteArray.empty y464 x44_1) 6) ≥ 53)] : List Bool)) := ⟨_, rfl⟩
                            replace H : (if x44_1 < (y468.length : Int) then (if rdOf false y468 x44_1 = true then (if 0 < ((rdOf ByteArray.empty y464 x44_1).size : Int) then (if (bt (rdOf ByteArray.empty y464 x44_1) 0) ≤ 49 then ((ean_expanded.f (rdOf ByteArray.empty y464 x44_1)).bind fun t472 => (if 0 ≤ 11 then (if 11 ≤ (a0.size : Int) then (if t472.toList = (a0.extract 0 11).toList then (if (rdOf ByteArray.empty y464 x44_1).size + (a0.extract 11 a0.size).size ≤ 9223372036854775807 then (some ((rdOf ByteArray.empty y464 x44_1) ++ (a0.extract 11 a0.size), 0)) else (none)) else (ean_Compress.l0 k1 a0 y464 (y464.length : Int) (wrap64 (x44_1 + 1)))) else (none)) else (none))) else (ean_Compress.l0 k1 a0 y464 (y464.length : Int) (wrap64 (x44_1 + 1)))) else (none)) else (ean_Compress.l0 k1 a0 y464 (y464.length : Int) (wrap64 (x44_1 + 1)))) else (none)) = some (r1, r2) := by first | (rw [hy468]; with_reducible exact H) | (have H2_ := (Option.bind_some _ _).symm.trans H; rw [hy468]; with_reducible exact H2_) | (have H2_ := (Option.bind_some _ _).symm.trans H; with_reducible exact H2_) | with_reducible exact H | (rw [hy468]; exact H) | exact H
                            have Ny468 := Aside0.mk hy468
                            clear hy468
                            by_cases c40 : x44_1 < (y468.length : Int)
                            ·rw [if_pos c40] at H
                             have c40b0 : decide (x44_1 < (y468.length : Int)) = true := decide_eq_true c40
                             clear c40
                             obtain ⟨bq41, hbq41⟩ : ∃ b_ : Bool, b_ = (rdOf false y468 x44_1) := ⟨_, rfl⟩
                             replace H : (if bq41 = true then (if 0 < ((rdOf ByteArray.empty y464 x44_1).size : Int) then (if (bt (rdOf ByteArray.empty y464 x44_1) 0) ≤ 49 then ((ean_expanded.f (rdOf ByteArray.empty y464 x44_1)).bind fun t472 => (if 0 ≤ 11 then (if 11 ≤ (a0.size : Int) then (if t472.toList = (a0.extract 0 11).toList then (if (rdOf ByteArray.empty y464 x44_1).size + (a0.extract 11 a0.size).size ≤ 9223372036854775807 then (some ((rdOf ByteArray.empty y464 x44_1) ++ (a0.extract 11 a0.size), 0)) else (none)) else (ean_Compress.l0 k1 a0 y464 (y464.length : Int) (wrap64 (x44_1 + 1)))) else (none)) else (none))) else (ean_Compress.l0 k1 a0 y464 (y464.length : Int) (wrap64 (x44_1 + 1)))) else (none)) else (ean_Compress.l0 k1 a0 y464 (y464.length : Int) (wrap64 (x44_1 + 1)))) = some (r1, r2) := by rw [← hbq41] at H; exact H
                             have Nbq41 := Aside0.mk hbq41
                             clear hbq41
                             by_cases c42 : bq41 = true
                             ·subst c42
                              have H1 : (if 0 < ((rdOf ByteArray.empty y464 x44_1).size : Int) then (if (bt (rdOf ByteArray.empty y464 x44_1) 0) ≤ 49 then ((ean_expanded.f (rdOf ByteArray.empty y464 x44_1)).bind fun t472 => (if 0 ≤ 11 then (if 11 ≤ (a0.size : Int) then (if t472.toList = (a0.extract 0 11).toList then (if (rdOf ByteArray.empty y464 x44_1).size + (a0.extract 11 a0.size).size ≤ 9223372036854775807 then (some ((rdOf ByteArray.empty y464 x44_1) ++ (a0.extract 11 a0.size), 0)) else (none)) else (ean_Compress.l0 k1 a0 y464 (y464.length : Int) (wrap64 (x44_1 + 1)))) else (none)) else (none))) else (ean_Compress.l0 k1 a0 y464 (y464.length : Int) (wrap64 (x44_1 + 1)))) else (none)) = some (r1, r2) := by rw [if_pos rfl] at H; exact H
                              clear H
                              have H := H1
                              clear H1
                              by_cases c43 : 0 < ((rdOf ByteArray.empty y464 x44_1).size : Int)
                              ·rw [if_pos c43] at H
                               have c43b0 : decide (0 < ((rdOf ByteArray.empty y464 x44_1).size : Int)) = true := decide_eq_true c43
                               have c43b1 : decide (0 < (rdOf ByteArray.empty y464 x44_1).size) = true := decide_eq_true (by omega)
                               clear c43
                               by_cases c45 : (bt (rdOf ByteArray.empty y464 x44_1) 0) ≤ 49
                               ·rw [if_pos c45] at H
                                have c45b0 : decide ((bt (rdOf ByteArray.empty y464 x44_1) 0) ≤ 49) = true := decide_eq_true c45
                                clear c45
                                replace H := Option.bind_eq_some_iff.mp H
                                obtain ⟨t472, A460, H⟩ := H
                                replace H : (if 0 ≤ 11 then (if 11 ≤ (a0.size : Int) then (if t472.toList = (a0.extract 0 11).toList then (if (rdOf ByteArray.empty y464 x44_1).size + (a0.extract 11 a0.size).size ≤ 9223372036854775807 then (some ((rdOf ByteArray.empty y464 x44_1) ++ (a0.extract 11 a0.size), 0)) else (none)) else (ean_Compress.l0 k1 a0 y464 (y464.length : Int) (wrap64 (x44_1 + 1)))) else (none)) else (none)) = some (r1, r2) := H
                                have A46 := Aside0.mk A460
                                clear A460
                                by_cases c47 : 0 ≤ 11
                                ·rw [if_pos c47] at H
                                 have c47b0 := eq_true c47
                                 (try (have h_ := of_eq_true c47b0; simp only [ByteArray.size_append, ByteArray.size_extract, Nat.min_self, Int.toNat_natCast, Nat.sub_zero, Int.natCast_add, size_lit, List.length_cons, List.length_nil, Nat.zero_add, Nat.reduceAdd, Int.natCast_one, Int.cast_ofNat_Int] at h_; have c47b0s := eq_true h_; clear h_))
                                 have c47b1 : decide (0 ≤ 11) = true := decide_eq_true c47
                                 clear c47
                                 by_cases c48 : 11 ≤ (a0.size : Int)
                                 ·rw [if_pos c48] at H
                                  have c48b0 := eq_true c48
                                  (try (have h_ := of_eq_true c48b0; simp only [ByteArray.size_append, ByteArray.size_extract, Nat.min_self, Int.toNat_natCast, Nat.sub_zero, Int.natCast_add, size_lit, List.length_cons, List.length_nil, Nat.zero_add, Nat.reduceAdd, Int.natCast_one, Int.cast_ofNat_Int] at h_; have c48b0s := eq_true h_; clear h_))
                                  have c48b1 : decide (11 ≤ (a0.size : Int)) = true := decide_eq_true c48
                                  clear c48
                                  by_cases c49 : t472.toList = (a0.extract 0 11).toList
                                  ·rw [if_pos c49] at H
                                   have c49b0 : (t472.toList == (a0.extract 0 11).toList) = true := beq_iff_eq.mpr c49
                                   have c49b1 : (t472.toList != (a0.extract 0 11).toList) = false := bne_eq_false_iff_eq.mpr c49
                                   clear c49
                                   have c50b0 := eq_true (of_decide_eq_true (by first | (with_reducible assumption) | assumption) : 11 ≤ (a0.size : Int))
                                   (try (have h_ := of_eq_true c50b0; simp only [ByteArray.size_append, ByteArray.size_extract, Nat.min_self, Int.toNat_natCast, Nat.sub_zero, Int.natCast_add, size_lit, List.length_cons, List.length_nil, Nat.zero_add, Nat.reduceAdd, Int.natCast_one, Int.cast_ofNat_Int] at h_; have c50b0s := eq_true h_; clear h_))
                                   by_cases c51 : (rdOf ByteArray.empty y464 x44_1).size + (a0.extract 11 a0.size).size ≤ 9223372036854775807
                                   ·rw [if_pos c51] at H
                                    have c51b0 := eq_true c51
                                    (try (have h_ := of_eq_true c51b0; simp only [ByteArray.size_append, ByteArray.size_extract, Nat.min_self, Int.toNat_natCast, Nat.sub_zero, Int.natCast_add, size_lit, List.length_cons, List.length_nil, Nat.zero_add, Nat.reduceAdd, Int.natCast_one, Int.cast_ofNat_Int] at h_; have c51b0s := eq_true h_; clear h_))
                                    have c51b1 : decide ((rdOf ByteArray.empty y464 x44_1).size + (a0.extract 11 a0.size).size ≤ 9223372036854775807) = true := decide_eq_true c51
                                    (try (have c51b1s := c51b1; simp only [ByteArray.size_append, ByteArray.size_extract, Nat.min_self, Int.toNat_natCast, Nat.sub_zero, Int.natCast_add, size_lit, List.length_cons, List.length_nil, Nat.zero_add, Nat.reduceAdd, Int.natCast_one, Int.cast_ofNat_Int] at c51b1s))
                                    (try (have h_ := of_decide_eq_true c51b1; simp only [ByteArray.size_append, ByteArray.size_extract, Nat.min_self, Int.toNat_natCast, Nat.sub_zero, Int.natCast_add, size_lit, List.length_cons, List.length_nil, Nat.zero_add, Nat.reduceAdd, Int.natCast_one, Int.cast_ofNat_Int] at h_; have c51b1t := eq_true h_; clear h_))
                                    try have c51b2 : (9223372036854775807 < (rdOf ByteArray.empty y464 x44_1).size + (a0.extract 11 a0.size).size) = False := eq_false (Nat.not_lt.2 c51)
                                    (try (have h_ := of_eq_false c51b2; simp only [ByteArray.size_append, ByteArray.size_extract, Nat.min_self, Int.toNat_natCast, Nat.sub_zero, Int.natCast_add, size_lit, List.length_cons, List.length_nil, Nat.zero_add, Nat.reduceAdd, Int.natCast_one, Int.cast_ofNat_Int] at h_; have c51b2s := eq_false h_; clear h_))
                                    simp only [Option.some.injEq, Prod.mk.injEq] at H
                                    obtain ⟨rfl, rfl⟩ := H
                                    have p467 : 0 ≤ (x44_1 : Int) := of_decide_eq_true (by first | (with_reducible assumption) | assumption)
                                    have q467 : x44_1 < (y464.length : Int) := of_decide_eq_true (by first | (with_reducible assumption) | assumption)
                                    obtain ⟨ad467, e467, hx467_0⟩ := Kd.at_string (Kd.R_reads' HO_42.out).2.2 x44_1 p467 q467
                                    cases e467
                                    replace p467 := eq_true p467
                                    replace q467 := eq_true q467
                                    (try (have h_ := of_eq_true q467; simp only [ByteArray.size_append, ByteArray.size_extract, Nat.min_self, Int.toNat_natCast, Nat.sub_zero, Int.natCast_add, size_lit, List.length_cons, List.length_nil, Nat.zero_add, Nat.reduceAdd, Int.natCast_one, Int.cast_ofNat_Int] at h_; have q467s := eq_true h_; clear h_))
                                    try go_wp2
                                    have pi471 : (0 ≤ (x44_1 : Int)) = True := eq_true (of_decide_eq_true (by first | (with_reducible assumption) | assumption))
                                    have qi471 : (x44_1 < (y468.length : Int)) = True := eq_true (of_decide_eq_true (by first | (with_reducible assumption) | assumption))
                                    have n0_ := Aside0.mk (Kd.R_drew HO_42.out)
                                    have n1_ := Aside0.mk (below_drew1 HB.out)
                                    clear HO_42
                                    clear HB
                                    have HO_42 := n0_
                                    have HB := n1_
                                    clear n0_ n1_
                                    have p38 : 0 ≤ (6 : Int) := (by omega)
                                    have q38 : 6 < (rdOf ByteArray.empty y464 x44_1).size := (by have : (6 : Int) < ((rdOf ByteArray.empty y464 x44_1).size : Int) := of_decide_eq_true (by first | (with_reducible assumption) | assumption); omega)
                                    have hx38 : ∀ h : 6 < (rdOf ByteArray.empty y464 x44_1).size, (((rdOf ByteArray.empty y464 x44_1)[6]'h).toNat : Int) = bt (rdOf ByteArray.empty y464 x44_1) 6 := bt_at (rdOf ByteArray.empty y464 x44_1) 6
                                    clear p38
                                    have qi38 : (6 < ((rdOf ByteArray.empty y464 x44_1).size : Int)) = True := eq_true (of_decide_eq_true (by first | (with_reducible assumption) | assumption))
                                    replace q38 := eq_true q38
                                    (try (have h_ := of_eq_true q38; simp only [ByteArray.size_append, ByteArray.size_extract, Nat.min_self, Int.toNat_natCast, Nat.sub_zero, Int.natCast_add, size_lit, List.length_cons, List.length_nil, Nat.zero_add, Nat.reduceAdd, Int.natCast_one, Int.cast_ofNat_Int] at h_; have q38s := eq_true h_; clear h_))
                                    have p39 : 0 ≤ (6 : Int) := (by omega)
                                    have q39 : 6 < (rdOf ByteArray.empty y464 x44_1).size := (by have : (6 : Int) < ((rdOf ByteArray.empty y464 x44_1).size : Int) := of_decide_eq_true (by first | (with_reducible assumption) | assumption); omega)
                                    have hx39 : ∀ h : 6 < (rdOf ByteArray.empty y464 x44_1).size, (((rdOf ByteArray.empty y464 x44_1)[6]'h).toNat : Int) = bt (rdOf ByteArray.empty y464 x44_1) 6 := bt_at (rdOf ByteArray.empty y464 x44_1) 6
                                    clear p39
                                    have qi39 : (6 < ((rdOf ByteArray.empty y464 x44_1).size : Int)) = True := eq_true (of_decide_eq_true (by first | (with_reducible assumption) | assumption))
                                    replace q39 := eq_true q39
                                    (try (have h_ := of_eq_true q39; simp only [ByteArray.size_append, ByteArray.size_extract, Nat.min_self, Int.toNat_natCast, Nat.sub_zero, Int.natCast_add, size_lit, List.length_cons, List.length_nil, Nat.zero_add, Nat.reduceAdd, Int.natCast_one, Int.cast_ofNat_Int] at h_; have q39s := eq_true h_; clear h_))
                                    refine start_ (n := 11) (S := fun w' => True) (ds := []) #[false, false, false, false, false, false, false, false, false, false, false] (by kernel_rfl) rfl rfl trivial (fun hHeld => ?_); refine with_tabW ean_Compress.tab9 ean_Compress.bits9 (fun HT_ HW_ => ?_)
                                    generalize wr.drew = w52 at HO_42 HB hHeld ⊢
                                    refine pure_ (i := 0) (N := some 49) (v := ?_) (a' := ?_) #[true, false, false, false, false, false, false, false, false, false, false] rfl rfl (any_of HT_.out (by kernel_rfl)) (fun _ _ _ h => h) (Or.inl ⟨by rfl, ?_⟩) ?_ ?_
                                    rotate_left
                                    ·intro w'
                                     go_simp
                                     try go_bits
                                     with_reducible rfl
                                    rotate_left
                                    ·simp only [Act.put, List.setIfInBounds_toArray, List.set_cons_zero, List.set_cons_succ, i64_w]
                                     rfl
                                    refine pure_ (i := 3) (N := some 52) (v := ?_) (a' := ?_) #[true, false, false, true, false, false, false, false, false, false, false] rfl rfl (any_of HT_.out (by kernel_rfl)) (fun _ _ _ h => h) (Or.inl ⟨by rfl, ?_⟩) ?_ ?_
                                    rotate_left
                                    ·intro w'
                                     go_simp
                                     try go_bits
                                     with_reducible rfl
                                    rotate_left
                                    ·simp only [Act.put, List.setIfInBounds_toArray, List.set_cons_zero, List.set_cons_succ, i64_w]
                                     rfl
                                    refine pure_ (i := 7) (N := some 56) (v := ?_) (a' := ?_) #[true, false, false, true, false, false, false, true, false, false, false] rfl rfl (any_of HT_.out (by kernel_rfl)) (fun _ _ _ h => h) (Or.inl ⟨by rfl, ?_⟩) ?_ ?_
                                    rotate_left
                                    ·intro w'
                                     go_simp
                                     try go_bits
                                     with_reducible rfl
                                    rotate_left
                                    ·simp only [Act.put, List.setIfInBounds_toArray, List.set_cons_zero, List.set_cons_succ, i64_w]
                                     rfl
                                    refine take_ (i := 1) (N := some 50) (v := ?_) (a' := ?_) #[true, true, false, true, false, false, false, true, false, false, false] rfl rfl (take_ofW HT_.out HW_.out (by kernel_rfl)) (fun _ _ _ h => h) (Or.inl ⟨by rfl, ?_⟩) hHeld ?_ ?_
                                    rotate_left
                                    ·intro w' _
                                     go_simp
                                     try go_bits
                                     with_reducible rfl
                                    rotate_left
                                    ·simp only [Act.put, List.setIfInBounds_toArray, List.set_cons_zero, List.set_cons_succ, i64_w]
                                     rfl
                                    refine pure_ (i := 2) (N := some 51) (v := ?_) (a' := ?_) #[true, true, true, true, false, false, false, true, false, false, false] rfl rfl (any_of HT_.out (by kernel_rfl)) (fun _ _ _ h => h) (Or.inl ⟨by rfl, ?_⟩) ?_ ?_
                                    rotate_left
                                    ·intro w'
                                     go_simp
                                     try go_bits
                                     with_reducible rfl
                                    rotate_left
                                    ·simp only [Act.put, List.setIfInBounds_toArray, List.set_cons_zero, List.set_cons_succ, i64_w]
                                     rfl
                                    refine take_ (i := 4) (N := some 53) (v := ?_) (a' := ?_) #[true, true, true, true, true, false, false, true, false, false, false] rfl rfl (take_ofW HT_.out HW_.out (by kernel_rfl)) (fun _ _ _ h => h) (Or.inl ⟨by rfl, ?_⟩) hHeld ?_ ?_
                                    rotate_left
                                    ·intro w' _
                                     go_simp
                                     try go_bits
                                     with_reducible rfl
                                    rotate_left
                                    ·simp only [Act.put, List.setIfInBounds_toArray, List.set_cons_zero, List.set_cons_succ, i64_w]
                                     rfl
                                    refine pure_ (i := 5) (N := some 54) (v := ?_) (a' := ?_) #[true, true, true, true, true, true, false, true, false, false, false] rfl rfl (any_of HT_.out (by kernel_rfl)) (fun _ _ _ h => h) (Or.inl ⟨by rfl, ?_⟩) ?_ ?_
                                    rotate_left
                                    ·intro w'
                                     go_simp
                                     try go_bits
                                     with_reducible rfl
                                    rotate_left
                                    ·simp only [Act.put, List.setIfInBounds_toArray, List.set_cons_zero, List.set_cons_succ, i64_w]
                                     rfl
                                    refine one_ (i := 6) (N := some 55) #[true, true, true, true, true, true, true, true, false, false, false] rfl rfl (one_of HT_.out (by kernel_rfl)) (by decide) (fun K hK => ?_)
                                    refine Kd.R_lit_step Kd.bool _ 4 ?hg (N := 55) ?hd (xs := ([decide ((bt (rdOf ByteArray.empty y464 x44_1) 6) ≤ 50), true, true, decide ((bt (rdOf ByteArray.empty y464 x44_1) 6) ≥ 53)] : List Bool)) (inner := [.bool (decide ((bt (rdOf ByteArray.empty y464 x44_1) 6) ≤ 50)), .bool true, .bool true, .bool (decide ((bt (rdOf ByteArray.empty y464 x44_1) 6) ≥ 53))]) (ok := fun _ => True) (okp := fun _ => True) ?hr ?hp (fun _ hk => hk) trivial (Below.refl _ _) (Nat.le_refl _) (by simp) ?_; (case hd => rfl); (case hg => rfl); (case hr => first | (go_simp; done) | (go_simp; rfl)); (case hp => exact (Reps.one (show Kd.M Kd.bool _ _ _ (decide ((bt (rdOf ByteArray.empty y464 x44_1) 6) ≤ 50)) [.bool (decide ((bt (rdOf ByteArray.empty y464 x44_1) 6) ≤ 50))] from rfl) (Reps.one (show Kd.M Kd.bool _ _ _ true [.bool true] from rfl) (Reps.one (show Kd.M Kd.bool _ _ _ true [.bool true] from rfl) (Reps.one (show Kd.M Kd.bool _ _ _ (decide ((bt (rdOf ByteArray.empty y464 x44_1) 6) ≥ 53)) [.bool (decide ((bt (rdOf ByteArray.empty y464 x44_1) 6) ≥ 53))] from rfl) (Reps.none _ _))))))
                                    intro v469 w53 ho54 hb hg_ hnew_
                                    clear hg_ hnew_
                                    (first | rw [← Ny468.out] at ho54 | (simp only [Int.reduceToNat] at ho54; rw [← Ny468.out] at ho54))
                                    have n0_ := Aside0.mk (Kd.R_below (by (with_reducible repeat (first | apply Kd.R_alloc | apply Kd.R_drewN | apply Kd.R_drew)); exact HO_42.out) hb)
                                    have n1_ := Aside0.mk (Kd.R_lower ho54 (below_size (by repeat (first | (with_reducible first | exact HB.out | apply below_alloc | apply pw_below_drewN | apply below_drew1) | exact HB.out))))
                                    have n2_ := Aside0.mk (below_step (by repeat (first | (with_reducible first | exact HB.out | apply below_alloc | apply pw_below_drewN | apply below_drew1) | exact HB.out)) hb)
                                    clear HO_42
                                    clear HB
                                    have HO_42 := n0_
                                    have HO470 := n1_
                                    have HB := n2_
                                    clear n0_ n1_ n2_
                                    clear hb ho54
                                    obtain ⟨Ao55, co55, eo55⟩ := Kd.R_slice HO470.out
                                    subst eo55
                                    obtain ⟨ado55, fo55, _⟩ := Kd.at_bool (Kd.R_reads' HO470.out).2.2 0 (by decide) (by rw [Ny468.out]; simp)
                                    cases fo55
                                    refine hK.out _ _ trivial (fun hHeld => ?_)
                                    clear hK K
                                    refine norm_ (a' := ?_) ?_ ?_
                                    rotate_left
                                    ·show Act.put _ (some 55) _ = _
                                     simp only [Act.put, List.setIfInBounds_toArray, List.set_cons_zero, List.set_cons_succ, i64_w]
                                     rfl
                                    refine pure_ (i := 8) (N := some 57) (v := ?_) (a' := ?_) #[true, true, true, true, true, true, true, true, true, false, false] rfl rfl (any_of HT_.out (by kernel_rfl)) (fun _ _ _ h => h) (Or.inl ⟨by rfl, ?_⟩) ?_ ?_
                                    rotate_left
                                    ·intro w'
                                     go_simp
                                     try go_bits
                                     with_reducible rfl
                                    rotate_left
                                    ·simp only [Act.put, List.setIfInBounds_toArray, List.set_cons_zero, List.set_cons_succ, i64_w]
                                     rfl
                                    refine one_ (i := 9) (N := some 58) #[true, true, true, true, true, true, true, true, true, true, false] rfl rfl (one_of HT_.out (by kernel_rfl)) (by decide) (fun K hK => ?_)
                                    (have p471 : 0 ≤ (x44_1 : Int) := of_decide_eq_true (by first | (with_reducible assumption) | assumption); have q471 : x44_1 < (y468.length : Int) := of_decide_eq_true (by first | (with_reducible assumption) | assumption); obtain ⟨ad471, e471, hx471_0⟩ := Kd.at_bool (Kd.R_reads' HO470.out).2.2 x44_1 p471 q471; obtain rfl : ado55 = ad471 := (by injection e471))
                                    refine value_ (w1 := ?_) (v := ?_) (by rfl) rfl ?_ ?_
                                    rotate_left 2
                                    ·go_simp
                                     constructor
                                     ·rfl
                                     ·rfl
                                    clear hx471_0
                                    refine hK.out _ _ trivial (fun hHeld => ?_)
                                    clear hK K
                                    refine norm_ (a' := ?_) ?_ ?_
                                    rotate_left
                                    ·show Act.put _ (some 58) _ = _
                                     simp only [Act.put, List.setIfInBounds_toArray, List.set_cons_zero, List.set_cons_succ, i64_w]
                                     rfl
                                    refine pure_ (i := 10) (N := some 9) (v := ?_) (a' := ?_) #[true, true, true, true, true, true, true, true, true, true, true] rfl rfl (any_of HT_.out (by kernel_rfl)) (fun _ _ _ h => h) (Or.inl ⟨by rfl, ?_⟩) ?_ ?_
                                    rotate_left
                                    ·intro w'
                                     go_simp
                                     try go_bits
                                     with_reducible rfl
                                    rotate_left
                                    ·simp only [Act.put, List.setIfInBounds_toArray, List.set_cons_zero, List.set_cons_succ, i64_w]
                                     rfl
                                    refine done_ (done_of HT_.out (by kernel_rfl)) ?_
                                    try go_wp2
                                    try rw [← Nbq41.out]
                                    have n0_ := Aside0.mk (Kd.R_drew HO_42.out)
                                    have n1_ := Aside0.mk (Kd.R_drew HO470.out)
                                    have n2_ := Aside0.mk (below_drew1 HB.out)
                                    clear HO_42
                                    clear HO470
                                    clear HB
                                    have HO_42 := n0_
                                    have HO470 := n1_
                                    have HB := n2_
                                    clear n0_ n1_ n2_
                                    have p44 : 0 ≤ (0 : Int) := (by omega)
                                    have q44 : 0 < (rdOf ByteArray.empty y464 x44_1).size := (by have : (0 : Int) < ((rdOf ByteArray.empty y464 x44_1).size : Int) := of_decide_eq_true (by first | (with_reducible assumption) | assumption); omega)
                                    have hx44 : ∀ h : 0 < (rdOf ByteArray.empty y464 x44_1).size, (((rdOf ByteArray.empty y464 x44_1)[0]'h).toNat : Int) = bt (rdOf ByteArray.empty y464 x44_1) 0 := bt_at (rdOf ByteArray.empty y464 x44_1) 0
                                    clear p44
                                    have qi44 : (0 < ((rdOf ByteArray.empty y464 x44_1).size : Int)) = True := eq_true (of_decide_eq_true (by first | (with_reducible assumption) | assumption))
                                    replace q44 := eq_true q44
                                    (try (have h_ := of_eq_true q44; simp only [ByteArray.size_append, ByteArray.size_extract, Nat.min_self, Int.toNat_natCast, Nat.sub_zero, Int.natCast_add, size_lit, List.length_cons, List.length_nil, Nat.zero_add, Nat.reduceAdd, Int.natCast_one, Int.cast_ofNat_Int] at h_; have q44s := eq_true h_; clear h_))
                                    refine start_ (n := 13) (S := fun w' => True) (ds := []) #[false, false, false, false, false, false, false, false, false, false, false, false, false] (by kernel_rfl) rfl rfl trivial (fun hHeld => ?_); refine with_tabW ean_Compress.tab10 ean_Compress.bits10 (fun HT_ HW_ => ?_)
                                    generalize w53.drew = w56 at HO_42 HO470 HB hHeld ⊢
                                    refine pure_ (i := 0) (N := some 59) (v := ?_) (a' := ?_) #[true, false, false, false, false, false, false, false, false, false, false, false, false] rfl rfl (any_of HT_.out (by kernel_rfl)) (fun _ _ _ h => h) (Or.inl ⟨by rfl, ?_⟩) ?_ ?_
                                    rotate_left
                                    ·intro w'
                                     go_simp
                                     try go_bits
                                     with_reducible rfl
                                    rotate_left
                                    ·simp only [Act.put, List.setIfInBounds_toArray, List.set_cons_zero, List.set_cons_succ, i64_w]
                                     rfl
                                    refine pure_ (i := 1) (N := some 60) (v := ?_) (a' := ?_) #[true, true, false, false, false, false, false, false, false, false, false, false, false] rfl rfl (any_of HT_.out (by kernel_rfl)) (fun _ _ _ h => h) (Or.inl ⟨by rfl, ?_⟩) ?_ ?_
                                    rotate_left
                                    ·intro w'
                                     go_simp
                                     try go_bits
                                     with_reducible rfl
                                    rotate_left
                                    ·simp only [Act.put, List.setIfInBounds_toArray, List.set_cons_zero, List.set_cons_succ, i64_w]
                                     rfl
                                    refine pure_ (i := 2) (N := some 61) (v := ?_) (a' := ?_) #[true, true, true, false, false, false, false, false, false, false, false, false, false] rfl rfl (any_of HT_.out (by kernel_rfl)) (fun _ _ _ h => h) (Or.inl ⟨by rfl, ?_⟩) ?_ ?_
                                    rotate_left
                                    ·intro w'
                                     go_simp
                                     try go_bits
                                     with_reducible rfl
                                    rotate_left
                                    ·simp only [Act.put, List.setIfInBounds_toArray, List.set_cons_zero, List.set_cons_succ, i64_w]
                                     rfl
                                    refine take_ (i := 3) (N := some 62) (v := ?_) (a' := ?_) #[true, true, true, true, false, false, false, false, false, false, false, false, false] rfl rfl (take_ofW HT_.out HW_.out (by kernel_rfl)) (fun _ _ _ h => h) (Or.inl ⟨by rfl, ?_⟩) hHeld ?_ ?_
                                    rotate_left
                                    ·intro w' _
                                     go_simp
                                     try go_bits
                                     with_reducible rfl
                                    rotate_left
                                    ·simp only [Act.put, List.setIfInBounds_toArray, List.set_cons_zero, List.set_cons_succ, i64_w]
                                     rfl
                                    refine pure_ (i := 4) (N := some 63) (v := ?_) (a' := ?_) #[true, true, true, true, true, false, false, false, false, false, false, false, false] rfl rfl (any_of HT_.out (by kernel_rfl)) (fun _ _ _ h => h) (Or.inl ⟨by rfl, ?_⟩) ?_ ?_
                                    rotate_left
                                    ·intro w'
                                     go_simp
                                     try go_bits
                                     with_reducible rfl
                                    rotate_left
                                    ·simp only [Act.put, List.setIfInBounds_toArray, List.set_cons_zero, List.set_cons_succ, i64_w]
                                     rfl
                                    refine pure_ (i := 5) (N := some 64) (v := ?_) (a' := ?_) #[true, true, true, true, true, true, false, false, false, false, false, false, false] rfl rfl (any_of HT_.out (by kernel_rfl)) (fun _ _ _ h => h) (Or.inl ⟨by rfl, ?_⟩) ?_ ?_
                                    rotate_left
                                    ·intro w'
                                     go_simp
                                     try go_bits
                                     with_reducible rfl
                                    rotate_left
                                    ·simp only [Act.put, List.setIfInBounds_toArray, List.set_cons_zero, List.set_cons_succ, i64_w]
                                     rfl
                                    refine pure_ (i := 6) (N := some 65) (v := ?_) (a' := ?_) #[true, true, true, true, true, true, true, false, false, false, false, false, false] rfl rfl (any_of HT_.out (by kernel_rfl)) (fun _ _ _ h => h) (Or.inl ⟨by rfl, ?_⟩) ?_ ?_
                                    rotate_left
                                    ·intro w'
                                     go_simp
                                     try go_bits
                                     with_reducible rfl
                                    rotate_left
                                    ·simp only [Act.put, List.setIfInBounds_toArray, List.set_cons_zero, List.set_cons_succ, i64_w]
                                     rfl
                                    refine pure_ (i := 7) (N := some 66) (v := ?_) (a' := ?_) #[true, true, true, true, true, true, true, true, false, false, false, false, false] rfl rfl (any_of HT_.out (by kernel_rfl)) (fun _ _ _ h => h) (Or.inl ⟨by rfl, ?_⟩) ?_ ?_
                                    rotate_left
                                    ·intro w'
                                     go_simp
                                     try go_bits
                                     with_reducible rfl
                                    rotate_left
                                    ·simp only [Act.put, List.setIfInBounds_toArray, List.set_cons_zero, List.set_cons_succ, i64_w]
                                     rfl
                                    refine pure_ (i := 9) (N := some 68) (v := ?_) (a' := ?_) #[true, true, true, true, true, true, true, true, false, true, false, false, false] rfl rfl (any_of HT_.out (by kernel_rfl)) (fun _ _ _ h => h) (Or.inl ⟨by rfl, ?_⟩) ?_ ?_
                                    rotate_left
                                    ·intro w'
                                     go_simp
                                     try go_bits
                                     with_reducible rfl
                                    rotate_left
                                    ·simp only [Act.put, List.setIfInBounds_toArray, List.set_cons_zero, List.set_cons_succ, i64_w]
                                     rfl
                                    refine pure_ (i := 10) (N := some 69) (v := ?_) (a' := ?_) #[true, true, true, true, true, true, true, true, false, true, true, false, false] rfl rfl (any_of HT_.out (by kernel_rfl)) (fun _ _ _ h => h) (Or.inl ⟨by rfl, ?_⟩) ?_ ?_
                                    rotate_left
                                    ·intro w'
                                     go_simp
                                     try go_bits
                                     with_reducible rfl
                                    rotate_left
                                    ·simp only [Act.put, List.setIfInBounds_toArray, List.set_cons_zero, List.set_cons_succ, i64_w]
                                     rfl
                                    refine one_ (i := 8) (N := some 67) #[true, true, true, true, true, true, true, true, true, true, true, false, false] rfl rfl (one_of HT_.out (by kernel_rfl)) (by decide) (fun K hK => ?_)
                                    refine goes_ Tryz.func51 (by kernel_rfl) rfl #[.string (rdOf ByteArray.empty y464 x44_1)] (by rfl) rfl rfl (by (try simp only [List.map_toArray, List.map_cons, List.map_nil]); first | done | rfl | (simp only [List.length_drop, List.length_take]; rfl)) ?_
                                    with_reducible refine (ean_expanded.calls (rdOf ByteArray.empty y464 x44_1) t472 _ A46.out).mono ?_
                                    rintro e w' ⟨rfl, ⟨nd, rfl⟩⟩
                                    refine ⟨_, rfl, ?_⟩
                                    refine hK.out _ _ trivial (fun hHeld => ?_)
                                    clear hK K
                                    refine norm_ (a' := ?_) ?_ ?_
                                    rotate_left
                                    ·show Act.put _ (some 67) _ = _
                                     simp only [Act.put, List.setIfInBounds_toArray, List.set_cons_zero, List.set_cons_succ, i64_w]
                                     rfl
                                    refine pure_ (i := 11) (N := some 70) (v := ?_) (a' := ?_) #[true, true, true, true, true, true, true, true, true, true, true, true, false] rfl rfl (any_of HT_.out (by kernel_rfl)) (fun _ _ _ h => h) (Or.inl ⟨by rfl, ?_⟩) ?_ ?_
                                    rotate_left
                                    ·intro w'
                                     go_simp
                                     try go_bits
                                     with_reducible rfl
                                    rotate_left
                                    ·simp only [Act.put, List.setIfInBounds_toArray, List.set_cons_zero, List.set_cons_succ, i64_w]
                                     rfl
                                    refine pure_ (i := 12) (N := some 71) (v := ?_) (a' := ?_) #[true, true, true, true, true, true, true, true, true, true, true, true, true] rfl rfl (any_of HT_.out (by kernel_rfl)) (fun _ _ _ h => h) (Or.inl ⟨by rfl, ?_⟩) ?_ ?_
                                    rotate_left
                                    ·intro w'
                                     go_simp
                                     try go_bits
                                     with_reducible rfl
                                    rotate_left
                                    ·simp only [Act.put, List.setIfInBounds_toArray, List.set_cons_zero, List.set_cons_succ, i64_w]
                                     rfl
                                    refine done_ (done_of HT_.out (by kernel_rfl)) ?_
                                    try go_wp2
                                    try rw [← Nbq41.out]
                                    go_ret2
                                    exact ⟨by first | rfl | (simp [errW_none, errW_some] <;> rfl) | (simp [*, errW_none, errW_some] <;> rfl), by repeat (first | (with_reducible first | exact HB.out | apply below_alloc | apply pw_below_drewN | apply below_drew1) | exact HB.out)⟩
                                   ·rw [if_neg c51] at H
                                    exact absurd H (by simp)
                                  ·rw [if_neg c49] at H
                                   have c49b0 : (t472.toList == (a0.extract 0 11).toList) = false := beq_eq_false_iff_ne.mpr c49
                                   have c49b1 : (t472.toList != (a0.extract 0 11).toList) = true := bne_iff_ne.mpr c49
                                   have H' := Aside0.mk H
                                   clear H
                                   have p467 : 0 ≤ (x44_1 : Int) := of_decide_eq_true (by first | (with_reducible assumption) | assumption)
                                   have q467 : x44_1 < (y464.length : Int) := of_decide_eq_true (by first | (with_reducible assumption) | assumption)
                                   obtain ⟨ad467, e467, hx467_0⟩ := Kd.at_string (Kd.R_reads' HO_42.out).2.2 x44_1 p467 q467
                                   cases e467
                                   replace p467 := eq_true p467
                                   replace q467 := eq_true q467
                                   (try (have h_ := of_eq_true q467; simp only [ByteArray.size_append, ByteArray.size_extract, Nat.min_self, Int.toNat_natCast, Nat.sub_zero, Int.natCast_add, size_lit, List.length_cons, List.length_nil, Nat.zero_add, Nat.reduceAdd, Int.natCast_one, Int.cast_ofNat_Int] at h_; have q467s := eq_true h_; clear h_))
                                   try go_wp2
                                   have pi471 : (0 ≤ (x44_1 : Int)) = True := eq_true (of_decide_eq_true (by first | (with_reducible assumption) | assumption))
                                   have qi471 : (x44_1 < (y468.length : Int)) = True := eq_true (of_decide_eq_true (by first | (with_reducible assumption) | assumption))
                                   have n0_ := Aside0.mk (Kd.R_drew HO_42.out)
                                   have n1_ := Aside0.mk (below_drew1 HB.out)
                                   clear HO_42
                                   clear HB
                                   have HO_42 := n0_
                                   have HB := n1_
                                   clear n0_ n1_
                                   have p38 : 0 ≤ (6 : Int) := (by omega)
                                   have q38 : 6 < (rdOf ByteArray.empty y464 x44_1).size := (by have : (6 : Int) < ((rdOf ByteArray.empty y464 x44_1).size : Int) := of_decide_eq_true (by first | (with_reducible assumption) | assumption); omega)
                                   have hx38 : ∀ h : 6 < (rdOf ByteArray.empty y464 x44_1).size, (((rdOf ByteArray.empty y464 x44_1)[6]'h).toNat : Int) = bt (rdOf ByteArray.empty y464 x44_1) 6 := bt_at (rdOf ByteArray.empty y464 x44_1) 6
                                   clear p38
                                   have qi38 : (6 < ((rdOf ByteArray.empty y464 x44_1).size : Int)) = True := eq_true (of_decide_eq_true (by first | (with_reducible assumption) | assumption))
                                   replace q38 := eq_true q38
                                   (try (have h_ := of_eq_true q38; simp only [ByteArray.size_append, ByteArray.size_extract, Nat.min_self, Int.toNat_natCast, Nat.sub_zero, Int.natCast_add, size_lit, List.length_cons, List.length_nil, Nat.zero_add, Nat.reduceAdd, Int.natCast_one, Int.cast_ofNat_Int] at h_; have q38s := eq_true h_; clear h_))
                                   have p39 : 0 ≤ (6 : Int) := (by omega)
                                   have q39 : 6 < (rdOf ByteArray.empty y464 x44_1).size := (by have : (6 : Int) < ((rdOf ByteArray.empty y464 x44_1).size : Int) := of_decide_eq_true (by first | (with_reducible assumption) | assumption); omega)
                                   have hx39 : ∀ h : 6 < (rdOf ByteArray.empty y464 x44_1).size, (((rdOf ByteArray.empty y464 x44_1)[6]'h).toNat : Int) = bt (rdOf ByteArray.empty y464 x44_1) 6 := bt_at (rdOf ByteArray.empty y464 x44_1) 6
                                   clear p39
                                   have qi39 : (6 < ((rdOf ByteArray.empty y464 x44_1).size : Int)) = True := eq_true (of_decide_eq_true (by first | (with_reducible assumption) | assumption))
                                   replace q39 := eq_true q39
                                   (try (have h_ := of_eq_true q39; simp only [ByteArray.size_append, ByteArray.size_extract, Nat.min_self, Int.toNat_natCast, Nat.sub_zero, Int.natCast_add, size_lit, List.length_cons, List.length_nil, Nat.zero_add, Nat.reduceAdd, Int.natCast_one, Int.cast_ofNat_Int] at h_; have q39s := eq_true h_; clear h_))
                                   refine start_ (n := 11) (S := fun w' => True) (ds := []) #[false, false, false, false, false, false, false, false, false, false, false] (by kernel_rfl) rfl rfl trivial (fun hHeld => ?_); refine with_tabW ean_Compress.tab9 ean_Compress.bits9 (fun HT_ HW_ => ?_)
                                   generalize wr.drew = w57 at HO_42 HB hHeld ⊢
                                   refine pure_ (i := 0) (N := some 49) (v := ?_) (a' := ?_) #[true, false, false, false, false, false, false, false, false, false, false] rfl rfl (any_of HT_.out (by kernel_rfl)) (fun _ _ _ h => h) (Or.inl ⟨by rfl, ?_⟩) ?_ ?_
                                   rotate_left
                                   ·intro w'
                                    go_simp
                                    try go_bits
                                    with_reducible rfl
                                   rotate_left
                                   ·simp only [Act.put, List.setIfInBounds_toArray, List.set_cons_zero, List.set_cons_succ, i64_w]
                                    rfl
                                   refine pure_ (i := 3) (N := some 52) (v := ?_) (a' := ?_) #[true, false, false, true, false, false, false, false, false, false, false] rfl rfl (any_of HT_.out (by kernel_rfl)) (fun _ _ _ h => h) (Or.inl ⟨by rfl, ?_⟩) ?_ ?_
                                   rotate_left
                                   ·intro w'
                                    go_simp
                                    try go_bits
                                    with_reducible rfl
                                   rotate_left
                                   ·simp only [Act.put, List.setIfInBounds_toArray, List.set_cons_zero, List.set_cons_succ, i64_w]
                                    rfl
                                   refine pure_ (i := 7) (N := some 56) (v := ?_) (a' := ?_) #[true, false, false, true, false, false, false, true, false, false, false] rfl rfl (any_of HT_.out (by kernel_rfl)) (fun _ _ _ h => h) (Or.inl ⟨by rfl, ?_⟩) ?_ ?_
                                   rotate_left
                                   ·intro w'
                                    go_simp
                                    try go_bits
                                    with_reducible rfl
                                   rotate_left
                                   ·simp only [Act.put, List.setIfInBounds_toArray, List.set_cons_zero, List.set_cons_succ, i64_w]
                                    rfl
                                   refine take_ (i := 1) (N := some 50) (v := ?_) (a' := ?_) #[true, true, false, true, false, false, false, true, false, false, false] rfl rfl (take_ofW HT_.out HW_.out (by kernel_rfl)) (fun _ _ _ h => h) (Or.inl ⟨by rfl, ?_⟩) hHeld ?_ ?_
                                   rotate_left
                                   ·intro w' _
                                    go_simp
                                    try go_bits
                                    with_reducible rfl
                                   rotate_left
                                   ·simp only [Act.put, List.setIfInBounds_toArray, List.set_cons_zero, List.set_cons_succ, i64_w]
                                    rfl
                                   refine pure_ (i := 2) (N := some 51) (v := ?_) (a' := ?_) #[true, true, true, true, false, false, false, true, false, false, false] rfl rfl (any_of HT_.out (by kernel_rfl)) (fun _ _ _ h => h) (Or.inl ⟨by rfl, ?_⟩) ?_ ?_
                                   rotate_left
                                   ·intro w'
                                    go_simp
                                    try go_bits
                                    with_reducible rfl
                                   rotate_left
                                   ·simp only [Act.put, List.setIfInBounds_toArray, List.set_cons_zero, List.set_cons_succ, i64_w]
                                    rfl
                                   refine take_ (i := 4) (N := some 53) (v := ?_) (a' := ?_) #[true, true, true, true, true, false, false, true, false, false, false] rfl rfl (take_ofW HT_.out HW_.out (by kernel_rfl)) (fun _ _ _ h => h) (Or.inl ⟨by rfl, ?_⟩) hHeld ?_ ?_
                                   rotate_left
                                   ·intro w' _
                                    go_simp
                                    try go_bits
                                    with_reducible rfl
                                   rotate_left
                                   ·simp only [Act.put, List.setIfInBounds_toArray, List.set_cons_zero, List.set_cons_succ, i64_w]
                                    rfl
                                   refine pure_ (i := 5) (N := some 54) (v := ?_) (a' := ?_) #[true, true, true, true, true, true, false, true, false, false, false] rfl rfl (any_of HT_.out (by kernel_rfl)) (fun _ _ _ h => h) (Or.inl ⟨by rfl, ?_⟩) ?_ ?_
                                   rotate_left
                                   ·intro w'
                                    go_simp
                                    try go_bits
                                    with_reducible rfl
                                   rotate_left
                                   ·simp only [Act.put, List.setIfInBounds_toArray, List.set_cons_zero, List.set_cons_succ, i64_w]
                                    rfl
                                   refine one_ (i := 6) (N := some 55) #[true, true, true, true, true, true, true, true, false, false, false] rfl rfl (one_of HT_.out (by kernel_rfl)) (by decide) (fun K hK => ?_)
                                   refine Kd.R_lit_step Kd.bool _ 4 ?hg (N := 55) ?hd (xs := ([decide ((bt (rdOf ByteArray.empty y464 x44_1) 6) ≤ 50), true, true, decide ((bt (rdOf ByteArray.empty y464 x44_1) 6) ≥ 53)] : List Bool)) (inner := [.bool (decide ((bt (rdOf ByteArray.empty y464 x44_1) 6) ≤ 50)), .bool true, .bool true, .bool (decide ((bt (rdOf ByteArray.empty y464 x44_1) 6) ≥ 53))]) (ok := fun _ => True) (okp := fun _ => True) ?hr ?hp (fun _ hk => hk) trivial (Below.refl _ _) (Nat.le_refl _) (by simp) ?_; (case hd => rfl); (case hg => rfl); (case hr => first | (go_simp; done) | (go_simp; rfl)); (case hp => exact (Reps.one (show Kd.M Kd.bool _ _ _ (decide ((bt (rdOf ByteArray.empty y464 x44_1) 6) ≤ 50)) [.bool (decide ((bt (rdOf ByteArray.empty y464 x44_1) 6) ≤ 50))] from rfl) (Reps.one (show Kd.M Kd.bool _ _ _ true [.bool true] from rfl) (Reps.one (show Kd.M Kd.bool _ _ _ true [.bool true] from rfl) (Reps.one (show Kd.M Kd.bool _ _ _ (decide ((bt (rdOf ByteArray.empty y464 x44_1) 6) ≥ 53)) [.bool (decide ((bt (rdOf ByteArray.empty y464 x44_1) 6) ≥ 53))] from rfl) (Reps.none _ _))))))
                                   intro v469 w58 ho59 hb hg_ hnew_
                                   clear hg_ hnew_
                                   (first | rw [← Ny468.out] at ho59 | (simp only [Int.reduceToNat] at ho59; rw [← Ny468.out] at ho59))
                                   have n0_ := Aside0.mk (Kd.R_below (by (with_reducible repeat (first | apply Kd.R_alloc | apply Kd.R_drewN | apply Kd.R_drew)); exact HO_42.out) hb)
                                   have n1_ := Aside0.mk (Kd.R_lower ho59 (below_size (by repeat (first | (with_reducible first | exact HB.out | apply below_alloc | apply pw_below_drewN | apply below_drew1) | exact HB.out))))
                                   have n2_ := Aside0.mk (below_step (by repeat (first | (with_reducible first | exact HB.out | apply below_alloc | apply pw_below_drewN | apply below_drew1) | exact HB.out)) hb)
                                   clear HO_42
                                   clear HB
                                   have HO_42 := n0_
                                   have HO470 := n1_
                                   have HB := n2_
                                   clear n0_ n1_ n2_
                                   clear hb ho59
                                   obtain ⟨Ao60, co60, eo60⟩ := Kd.R_slice HO470.out
                                   subst eo60
                                   obtain ⟨ado60, fo60, _⟩ := Kd.at_bool (Kd.R_reads' HO470.out).2.2 0 (by decide) (by rw [Ny468.out]; simp)
                                   cases fo60
                                   refine hK.out _ _ trivial (fun hHeld => ?_)
                                   clear hK K
                                   refine norm_ (a' := ?_) ?_ ?_
                                   rotate_left
                                   ·show Act.put _ (some 55) _ = _
                                    simp only [Act.put, List.setIfInBounds_toArray, List.set_cons_zero, List.set_cons_succ, i64_w]
                                    rfl
                                   refine pure_ (i := 8) (N := some 57) (v := ?_) (a' := ?_) #[true, true, true, true, true, true, true, true, true, false, false] rfl rfl (any_of HT_.out (by kernel_rfl)) (fun _ _ _ h => h) (Or.inl ⟨by rfl, ?_⟩) ?_ ?_
                                   rotate_left
                                   ·intro w'
                                    go_simp
                                    try go_bits
                                    with_reducible rfl
                                   rotate_left
                                   ·simp only [Act.put, List.setIfInBounds_toArray, List.set_cons_zero, List.set_cons_succ, i64_w]
                                    rfl
                                   refine one_ (i := 9) (N := some 58) #[true, true, true, true, true, true, true, true, true, true, false] rfl rfl (one_of HT_.out (by kernel_rfl)) (by decide) (fun K hK => ?_)
                                   (have p471 : 0 ≤ (x44_1 : Int) := of_decide_eq_true (by first | (with_reducible assumption) | assumption); have q471 : x44_1 < (y468.length : Int) := of_decide_eq_true (by first | (with_reducible assumption) | assumption); obtain ⟨ad471, e471, hx471_0⟩ := Kd.at_bool (Kd.R_reads' HO470.out).2.2 x44_1 p471 q471; obtain rfl : ado60 = ad471 := (by injection e471))
                                   refine value_ (w1 := ?_) (v := ?_) (by rfl) rfl ?_ ?_
                                   rotate_left 2
                                   ·go_simp
                                    constructor
                                    ·rfl
                                    ·rfl
                                   clear hx471_0
                                   refine hK.out _ _ trivial (fun hHeld => ?_)
                                   clear hK K
                                   refine norm_ (a' := ?_) ?_ ?_
                                   rotate_left
                                   ·show Act.put _ (some 58) _ = _
                                    simp only [Act.put, List.setIfInBounds_toArray, List.set_cons_zero, List.set_cons_succ, i64_w]
                                    rfl
                                   refine pure_ (i := 10) (N := some 9) (v := ?_) (a' := ?_) #[true, true, true, true, true, true, true, true, true, true, true] rfl rfl (any_of HT_.out (by kernel_rfl)) (fun _ _ _ h => h) (Or.inl ⟨by rfl, ?_⟩) ?_ ?_
                                   rotate_left
                                   ·intro w'
                                    go_simp
                                    try go_bits
                                    with_reducible rfl
                                   rotate_left
                                   ·simp only [Act.put, List.setIfInBounds_toArray, List.set_cons_zero, List.set_cons_succ, i64_w]
                                    rfl
                                   refine done_ (done_of HT_.out (by kernel_rfl)) ?_
                                   try go_wp2
                                   try rw [← Nbq41.out]
                                   have n0_ := Aside0.mk (Kd.R_drew HO_42.out)
                                   have n1_ := Aside0.mk (Kd.R_drew HO470.out)
                                   have n2_ := Aside0.mk (below_drew1 HB.out)
                                   clear HO_42
                                   clear HO470
                                   clear HB
                                   have HO_42 := n0_
                                   have HO470 := n1_
                                   have HB := n2_
                                   clear n0_ n1_ n2_
                                   have p44 : 0 ≤ (0 : Int) := (by omega)
                                   have q44 : 0 < (rdOf ByteArray.empty y464 x44_1).size := (by have : (0 : Int) < ((rdOf ByteArray.empty y464 x44_1).size : Int) := of_decide_eq_true (by first | (with_reducible assumption) | assumption); omega)
                                   have hx44 : ∀ h : 0 < (rdOf ByteArray.empty y464 x44_1).size, (((rdOf ByteArray.empty y464 x44_1)[0]'h).toNat : Int) = bt (rdOf ByteArray.empty y464 x44_1) 0 := bt_at (rdOf ByteArray.empty y464 x44_1) 0
                                   clear p44
                                   have qi44 : (0 < ((rdOf ByteArray.empty y464 x44_1).size : Int)) = True := eq_true (of_decide_eq_true (by first | (with_reducible assumption) | assumption))
                                   replace q44 := eq_true q44
                                   (try (have h_ := of_eq_true q44; simp only [ByteArray.size_append, ByteArray.size_extract, Nat.min_self, Int.toNat_natCast, Nat.sub_zero, Int.natCast_add, size_lit, List.length_cons, List.length_nil, Nat.zero_add, Nat.reduceAdd, Int.natCast_one, Int.cast_ofNat_Int] at h_; have q44s := eq_true h_; clear h_))
                                   refine start_ (n := 13) (S := fun w' => True) (ds := []) #[false, false, false, false, false, false, false, false, false, false, false, false, false] (by kernel_rfl) rfl rfl trivial (fun hHeld => ?_); refine with_tabW ean_Compress.tab10 ean_Compress.bits10 (fun HT_ HW_ => ?_)
                                   generalize w58.drew = w61 at HO_42 HO470 HB hHeld ⊢
                                   refine pure_ (i := 0) (N := some 59) (v := ?_) (a' := ?_) #[true, false, false, false, false, false, false, false, false, false, false, false, false] rfl rfl (any_of HT_.out (by kernel_rfl)) (fun _ _ _ h => h) (Or.inl ⟨by rfl, ?_⟩) ?_ ?_
                                   rotate_left
                                   ·intro w'
                                    go_simp
                                    try go_bits
                                    with_reducible rfl
                                   rotate_left
                                   ·simp only [Act.put, List.setIfInBounds_toArray, List.set_cons_zero, List.set_cons_succ, i64_w]
                                    rfl
                                   refine pure_ (i := 1) (N := some 60) (v := ?_) (a' := ?_) #[true, true, false, false, false, false, false, false, false, false, false, false, false] rfl rfl (any_of HT_.out (by kernel_rfl)) (fun _ _ _ h => h) (Or.inl ⟨by rfl, ?_⟩) ?_ ?_
                                   rotate_left
                                   ·intro w'
                                    go_simp
                                    try go_bits
                                    with_reducible rfl
                                   rotate_left
                                   ·simp only [Act.put, List.setIfInBounds_toArray, List.set_cons_zero, List.set_cons_succ, i64_w]
                                    rfl
                                   refine pure_ (i := 2) (N := some 61) (v := ?_) (a' := ?_) #[true, true, true, false, false, false, false, false, false, false, false, false, false] rfl rfl (any_of HT_.out (by kernel_rfl)) (fun _ _ _ h => h) (Or.inl ⟨by rfl, ?_⟩) ?_ ?_
                                   rotate_left
                                   ·intro w'
                                    go_simp
                                    try go_bits
                                    with_reducible rfl
                                   rotate_left
                                   ·simp only [Act.put, List.setIfInBounds_toArray, List.set_cons_zero, List.set_cons_succ, i64_w]
                                    rfl
                                   refine take_ (i := 3) (N := some 62) (v := ?_) (a' := ?_) #[true, true, true, true, false, false, false, false, false, false, false, false, false] rfl rfl (take_ofW HT_.out HW_.out (by kernel_rfl)) (fun _ _ _ h => h) (Or.inl ⟨by rfl, ?_⟩) hHeld ?_ ?_
                                   rotate_left
                                   ·intro w' _
                                    go_simp
                                    try go_bits
                                    with_reducible rfl
                                   rotate_left
                                   ·simp only [Act.put, List.setIfInBounds_toArray, List.set_cons_zero, List.set_cons_succ, i64_w]
                                    rfl
                                   refine pure_ (i := 4) (N := some 63) (v := ?_) (a' := ?_) #[true, true, true, true, true, false, false, false, false, false, false, false, false] rfl rfl (any_of HT_.out (by kernel_rfl)) (fun _ _ _ h => h) (Or.inl ⟨by rfl, ?_⟩) ?_ ?_
                                   rotate_left
                                   ·intro w'
                                    go_simp
                                    try go_bits
                                    with_reducible rfl
                                   rotate_left
                                   ·simp only [Act.put, List.setIfInBounds_toArray, List.set_cons_zero, List.set_cons_succ, i64_w]
                                    rfl
                                   refine pure_ (i := 5) (N := some 64) (v := ?_) (a' := ?_) #[true, true, true, true, true, true, false, false, false, false, false, false, false] rfl rfl (any_of HT_.out (by kernel_rfl)) (fun _ _ _ h => h) (Or.inl ⟨by rfl, ?_⟩) ?_ ?_
                                   rotate_left
                                   ·intro w'
                                    go_simp
                                    try go_bits
                                    with_reducible rfl
                                   rotate_left
                                   ·simp only [Act.put, List.setIfInBounds_toArray, List.set_cons_zero, List.set_cons_succ, i64_w]
                                    rfl
                                   refine pure_ (i := 6) (N := some 65) (v := ?_) (a' := ?_) #[true, true, true, true, true, true, true, false, false, false, false, false, false] rfl rfl (any_of HT_.out (by kernel_rfl)) (fun _ _ _ h => h) (Or.inl ⟨by rfl, ?_⟩) ?_ ?_
                                   rotate_left
                                   ·intro w'
                                    go_simp
                                    try go_bits
                                    with_reducible rfl
                                   rotate_left
                                   ·simp only [Act.put, List.setIfInBounds_toArray, List.set_cons_zero, List.set_cons_succ, i64_w]
                                    rfl
                                   refine pure_ (i := 7) (N := some 66) (v := ?_) (a' := ?_) #[true, true, true, true, true, true, true, true, false, false, false, false, false] rfl rfl (any_of HT_.out (by kernel_rfl)) (fun _ _ _ h => h) (Or.inl ⟨by rfl, ?_⟩) ?_ ?_
                                   rotate_left
                                   ·intro w'
                                    go_simp
                                    try go_bits
                                    with_reducible rfl
                                   rotate_left
                                   ·simp only [Act.put, List.setIfInBounds_toArray, List.set_cons_zero, List.set_cons_succ, i64_w]
                                    rfl
                                   refine pure_ (i := 9) (N := some 68) (v := ?_) (a' := ?_) #[true, true, true, true, true, true, true, true, false, true, false, false, false] rfl rfl (any_of HT_.out (by kernel_rfl)) (fun _ _ _ h => h) (Or.inl ⟨by rfl, ?_⟩) ?_ ?_
                                   rotate_left
                                   ·intro w'
                                    go_simp
                                    try go_bits
                                    with_reducible rfl
                                   rotate_left
                                   ·simp only [Act.put, List.setIfInBounds_toArray, List.set_cons_zero, List.set_cons_succ, i64_w]
                                    rfl
                                   refine pure_ (i := 10) (N := some 69) (v := ?_) (a' := ?_) #[true, true, true, true, true, true, true, true, false, true, true, false, false] rfl rfl (any_of HT_.out (by kernel_rfl)) (fun _ _ _ h => h) (Or.inl ⟨by rfl, ?_⟩) ?_ ?_
                                   rotate_left
                                   ·intro w'
                                    go_simp
                                    try go_bits
                                    with_reducible rfl
                                   rotate_left
                                   ·simp only [Act.put, List.setIfInBounds_toArray, List.set_cons_zero, List.set_cons_succ, i64_w]
                                    rfl
                                   refine one_ (i := 8) (N := some 67) #[true, true, true, true, true, true, true, true, true, true, true, false, false] rfl rfl (one_of HT_.out (by kernel_rfl)) (by decide) (fun K hK => ?_)
                                   refine goes_ Tryz.func51 (by kernel_rfl) rfl #[.string (rdOf ByteArray.empty y464 x44_1)] (by rfl) rfl rfl (by (try simp only [List.map_toArray, List.map_cons, List.map_nil]); first | done | rfl | (simp only [List.length_drop, List.length_take]; rfl)) ?_
                                   with_reducible refine (ean_expanded.calls (rdOf ByteArray.empty y464 x44_1) t472 _ A46.out).mono ?_
                                   rintro e w' ⟨rfl, ⟨nd, rfl⟩⟩
                                   refine ⟨_, rfl, ?_⟩
                                   refine hK.out _ _ trivial (fun hHeld => ?_)
                                   clear hK K
                                   refine norm_ (a' := ?_) ?_ ?_
                                   rotate_left
                                   ·show Act.put _ (some 67) _ = _
                                    simp only [Act.put, List.setIfInBounds_toArray, List.set_cons_zero, List.set_cons_succ, i64_w]
                                    rfl
                                   refine pure_ (i := 11) (N := some 70) (v := ?_) (a' := ?_) #[true, true, true, true, true, true, true, true, true, true, true, true, false] rfl rfl (any_of HT_.out (by kernel_rfl)) (fun _ _ _ h => h) (Or.inl ⟨by rfl, ?_⟩) ?_ ?_
                                   rotate_left
                                   ·intro w'
                                    go_simp
                                    try go_bits
                                    with_reducible rfl
                                   rotate_left
                                   ·simp only [Act.put, List.setIfInBounds_toArray, List.set_cons_zero, List.set_cons_succ, i64_w]
                                    rfl
                                   refine pure_ (i := 12) (N := some 71) (v := ?_) (a' := ?_) #[true, true, true, true, true, true, true, true, true, true, true, true, true] rfl rfl (any_of HT_.out (by kernel_rfl)) (fun _ _ _ h => h) (Or.inl ⟨by rfl, ?_⟩) ?_ ?_
                                   rotate_left
                                   ·intro w'
                                    go_simp
                                    try go_bits
                                    with_reducible rfl
                                   rotate_left
                                   ·simp only [Act.put, List.setIfInBounds_toArray, List.set_cons_zero, List.set_cons_succ, i64_w]
                                    rfl
                                   refine done_ (done_of HT_.out (by kernel_rfl)) ?_
                                   try go_wp2
                                   try rw [← Nbq41.out]
                                   go_roundg k1
                                   case measure => have := HK1.out; omega
                                   case rel => exact ⟨(wrap64 (x44_1 + 1)), (by first | rfl | (simp; done) | (simp [*]; done)), H', ⟨by have := HK1.out; omega⟩, ⟨by (with_reducible repeat (first | apply Kd.R_alloc | apply Kd.R_drewN | apply Kd.R_drew)); exact HO_42.out⟩, ⟨by repeat (first | (with_reducible first | exact HB.out | apply below_alloc | apply pw_below_drewN | apply below_drew1) | exact HB.out)⟩⟩
                                 ·rw [if_neg c48] at H
                                  exact absurd H (by simp)
                                ·rw [if_neg c47] at H
                                 exact absurd H (by simp)
                               ·rw [if_neg c45] at H
                                have c45b0 : decide ((bt (rdOf ByteArray.empty y464 x44_1) 0) ≤ 49) = false := decide_eq_false c45
                                clear c45
                                have H' := Aside0.mk H
                                clear H
                                have p467 : 0 ≤ (x44_1 : Int) := of_decide_eq_true (by first | (with_reducible assumption) | assumption)
                                have q467 : x44_1 < (y464.length : Int) := of_decide_eq_true (by first | (with_reducible assumption) | assumption)
                                obtain ⟨ad467, e467, hx467_0⟩ := Kd.at_string (Kd.R_reads' HO_42.out).2.2 x44_1 p467 q467
                                cases e467
                                replace p467 := eq_true p467
                                replace q467 := eq_true q467
                                (try (have h_ := of_eq_true q467; simp only [ByteArray.size_append, ByteArray.size_extract, Nat.min_self, Int.toNat_natCast, Nat.sub_zero, Int.natCast_add, size_lit, List.length_cons, List.length_nil, Nat.zero_add, Nat.reduceAdd, Int.natCast_one, Int.cast_ofNat_Int] at h_; have q467s := eq_true h_; clear h_))
                                try go_wp2
                                have pi471 : (0 ≤ (x44_1 : Int)) = True := eq_true (of_decide_eq_true (by first | (with_reducible assumption) | assumption))
                                have qi471 : (x44_1 < (y468.length : Int)) = True := eq_true (of_decide_eq_true (by first | (with_reducible assumption) | assumption))
                                have n0_ := Aside0.mk (Kd.R_drew HO_42.out)
                                have n1_ := Aside0.mk (below_drew1 HB.out)
                                clear HO_42
                                clear HB
                                have HO_42 := n0_
                                have HB := n1_
                                clear n0_ n1_
                                have p38 : 0 ≤ (6 : Int) := (by omega)
                                have q38 : 6 < (rdOf ByteArray.empty y464 x44_1).size := (by have : (6 : Int) < ((rdOf ByteArray.empty y464 x44_1).size : Int) := of_decide_eq_true (by first | (with_reducible assumption) | assumption); omega)
                                have hx38 : ∀ h : 6 < (rdOf ByteArray.empty y464 x44_1).size, (((rdOf ByteArray.empty y464 x44_1)[6]'h).toNat : Int) = bt (rdOf ByteArray.empty y464 x44_1) 6 := bt_at (rdOf ByteArray.empty y464 x44_1) 6
                                clear p38
                                have qi38 : (6 < ((rdOf ByteArray.empty y464 x44_1).size : Int)) = True := eq_true (of_decide_eq_true (by first | (with_reducible assumption) | assumption))
                                replace q38 := eq_true q38
                                (try (have h_ := of_eq_true q38; simp only [ByteArray.size_append, ByteArray.size_extract, Nat.min_self, Int.toNat_natCast, Nat.sub_zero, Int.natCast_add, size_lit, List.length_cons, List.length_nil, Nat.zero_add, Nat.reduceAdd, Int.natCast_one, Int.cast_ofNat_Int] at h_; have q38s := eq_true h_; clear h_))
                                have p39 : 0 ≤ (6 : Int) := (by omega)
                                have q39 : 6 < (rdOf ByteArray.empty y464 x44_1).size := (by have : (6 : Int) < ((rdOf ByteArray.empty y464 x44_1).size : Int) := of_decide_eq_true (by first | (with_reducible assumption) | assumption); omega)
                                have hx39 : ∀ h : 6 < (rdOf ByteArray.empty y464 x44_1).size, (((rdOf ByteArray.empty y464 x44_1)[6]'h).toNat : Int) = bt (rdOf ByteArray.empty y464 x44_1) 6 := bt_at (rdOf ByteArray.empty y464 x44_1) 6
                                clear p39
                                have qi39 : (6 < ((rdOf ByteArray.empty y464 x44_1).size : Int)) = True := eq_true (of_decide_eq_true (by first | (with_reducible assumption) | assumption))
                                replace q39 := eq_true q39
                                (try (have h_ := of_eq_true q39; simp only [ByteArray.size_append, ByteArray.size_extract, Nat.min_self, Int.toNat_natCast, Nat.sub_zero, Int.natCast_add, size_lit, List.length_cons, List.length_nil, Nat.zero_add, Nat.reduceAdd, Int.natCast_one, Int.cast_ofNat_Int] at h_; have q39s := eq_true h_; clear h_))
                                refine start_ (n := 11) (S := fun w' => True) (ds := []) #[false, false, false, false, false, false, false, false, false, false, false] (by kernel_rfl) rfl rfl trivial (fun hHeld => ?_); refine with_tabW ean_Compress.tab9 ean_Compress.bits9 (fun HT_ HW_ => ?_)
                                generalize wr.drew = w62 at HO_42 HB hHeld ⊢
                                refine pure_ (i := 0) (N := some 49) (v := ?_) (a' := ?_) #[true, false, false, false, false, false, false, false, false, false, false] rfl rfl (any_of HT_.out (by kernel_rfl)) (fun _ _ _ h => h) (Or.inl ⟨by rfl, ?_⟩) ?_ ?_
                                rotate_left
                                ·intro w'
                                 go_simp
                                 try go_bits
                                 with_reducible rfl
                                rotate_left
                                ·simp only [Act.put, List.setIfInBounds_toArray, List.set_cons_zero, List.set_cons_succ, i64_w]
                                 rfl
                                refine pure_ (i := 3) (N := some 52) (v := ?_) (a' := ?_) #[true, false, false, true, false, false, false, false, false, false, false] rfl rfl (any_of HT_.out (by kernel_rfl)) (fun _ _ _ h => h) (Or.inl ⟨by rfl, ?_⟩) ?_ ?_
                                rotate_left
                                ·intro w'
                                 go_simp
                                 try go_bits
                                 with_reducible rfl
                                rotate_left
                                ·simp only [Act.put, List.setIfInBounds_toArray, List.set_cons_zero, List.set_cons_succ, i64_w]
                                 rfl
                                refine pure_ (i := 7) (N := some 56) (v := ?_) (a' := ?_) #[true, false, false, true, false, false, false, true, false, false, false] rfl rfl (any_of HT_.out (by kernel_rfl)) (fun _ _ _ h => h) (Or.inl ⟨by rfl, ?_⟩) ?_ ?_
                                rotate_left
                                ·intro w'
                                 go_simp
                                 try go_bits
                                 with_reducible rfl
                                rotate_left
                                ·simp only [Act.put, List.setIfInBounds_toArray, List.set_cons_zero, List.set_cons_succ, i64_w]
                                 rfl
                                refine take_ (i := 1) (N := some 50) (v := ?_) (a' := ?_) #[true, true, false, true, false, false, false, true, false, false, false] rfl rfl (take_ofW HT_.out HW_.out (by kernel_rfl)) (fun _ _ _ h => h) (Or.inl ⟨by rfl, ?_⟩) hHeld ?_ ?_
                                rotate_left
                                ·intro w' _
                                 go_simp
                                 try go_bits
                                 with_reducible rfl
                                rotate_left
                                ·simp only [Act.put, List.setIfInBounds_toArray, List.set_cons_zero, List.set_cons_succ, i64_w]
                                 rfl
                                refine pure_ (i := 2) (N := some 51) (v := ?_) (a' := ?_) #[true, true, true, true, false, false, false, true, false, false, false] rfl rfl (any_of HT_.out (by kernel_rfl)) (fun _ _ _ h => h) (Or.inl ⟨by rfl, ?_⟩) ?_ ?_
                                rotate_left
                                ·intro w'
                                 go_simp
                                 try go_bits
                                 with_reducible rfl
                                rotate_left
                                ·simp only [Act.put, List.setIfInBounds_toArray, List.set_cons_zero, List.set_cons_succ, i64_w]
                                 rfl
                                refine take_ (i := 4) (N := some 53) (v := ?_) (a' := ?_) #[true, true, true, true, true, false, false, true, false, false, false] rfl rfl (take_ofW HT_.out HW_.out (by kernel_rfl)) (fun _ _ _ h => h) (Or.inl ⟨by rfl, ?_⟩) hHeld ?_ ?_
                                rotate_left
                                ·intro w' _
                                 go_simp
                                 try go_bits
                                 with_reducible rfl
                                rotate_left
                                ·simp only [Act.put, List.setIfInBounds_toArray, List.set_cons_zero, List.set_cons_succ, i64_w]
                                 rfl
                                refine pure_ (i := 5) (N := some 54) (v := ?_) (a' := ?_) #[true, true, true, true, true, true, false, true, false, false, false] rfl rfl (any_of HT_.out (by kernel_rfl)) (fun _ _ _ h => h) (Or.inl ⟨by rfl, ?_⟩) ?_ ?_
                                rotate_left
                                ·intro w'
                                 go_simp
                                 try go_bits
                                 with_reducible rfl
                                rotate_left
                                ·simp only [Act.put, List.setIfInBounds_toArray, List.set_cons_zero, List.set_cons_succ, i64_w]
                                 rfl
                                refine one_ (i := 6) (N := some 55) #[true, true, true, true, true, true, true, true, false, false, false] rfl rfl (one_of HT_.out (by kernel_rfl)) (by decide) (fun K hK => ?_)
                                refine Kd.R_lit_step Kd.bool _ 4 ?hg (N := 55) ?hd (xs := ([decide ((bt (rdOf ByteArray.empty y464 x44_1) 6) ≤ 50), true, true, decide ((bt (rdOf ByteArray.empty y464 x44_1) 6) ≥ 53)] : List Bool)) (inner := [.bool (decide ((bt (rdOf ByteArray.empty y464 x44_1) 6) ≤ 50)), .bool true, .bool true, .bool (decide ((bt (rdOf ByteArray.empty y464 x44_1) 6) ≥ 53))]) (ok := fun _ => True) (okp := fun _ => True) ?hr ?hp (fun _ hk => hk) trivial (Below.refl _ _) (Nat.le_refl _) (by simp) ?_; (case hd => rfl); (case hg => rfl); (case hr => first | (go_simp; done) | (go_simp; rfl)); (case hp => exact (Reps.one (show Kd.M Kd.bool _ _ _ (decide ((bt (rdOf ByteArray.empty y464 x44_1) 6) ≤ 50)) [.bool (decide ((bt (rdOf ByteArray.empty y464 x44_1) 6) ≤ 50))] from rfl) (Reps.one (show Kd.M Kd.bool _ _ _ true [.bool true] from rfl) (Reps.one (show Kd.M Kd.bool _ _ _ true [.bool true] from rfl) (Reps.one (show Kd.M Kd.bool _ _ _ (decide ((bt (rdOf ByteArray.empty y464 x44_1) 6) ≥ 53)) [.bool (decide ((bt (rdOf ByteArray.empty y464 x44_1) 6) ≥ 53))] from rfl) (Reps.none _ _))))))
                                intro v469 w63 ho64 hb hg_ hnew_
                                clear hg_ hnew_
                                (first | rw [← Ny468.out] at ho64 | (simp only [Int.reduceToNat] at ho64; rw [← Ny468.out] at ho64))
                                have n0_ := Aside0.mk (Kd.R_below (by (with_reducible repeat (first | apply Kd.R_alloc | apply Kd.R_drewN | apply Kd.R_drew)); exact HO_42.out) hb)
                                have n1_ := Aside0.mk (Kd.R_lower ho64 (below_size (by repeat (first | (with_reducible first | exact HB.out | apply below_alloc | apply pw_below_drewN | apply below_drew1) | exact HB.out))))
                                have n2_ := Aside0.mk (below_step (by repeat (first | (with_reducible first | exact HB.out | apply below_alloc | apply pw_below_drewN | apply below_drew1) | exact HB.out)) hb)
                                clear HO_42
                                clear HB
                                have HO_42 := n0_
                                have HO470 := n1_
                                have HB := n2_
                                clear n0_ n1_ n2_
                                clear hb ho64
                                obtain ⟨Ao65, co65, eo65⟩ := Kd.R_slice HO470.out
                                subst eo65
                                obtain ⟨ado65, fo65, _⟩ := Kd.at_bool (Kd.R_reads' HO470.out).2.2 0 (by decide) (by rw [Ny468.out]; simp)
                                cases fo65
                                refine hK.out _ _ trivial (fun hHeld => ?_)
                                clear hK K
                                refine norm_ (a' := ?_) ?_ ?_
                                rotate_left
                                ·show Act.put _ (some 55) _ = _
                                 simp only [Act.put, List.setIfInBounds_toArray, List.set_cons_zero, List.set_cons_succ, i64_w]
                                 rfl
                                refine pure_ (i := 8) (N := some 57) (v := ?_) (a' := ?_) #[true, true, true, true, true, true, true, true, true, false, false] rfl rfl (any_of HT_.out (by kernel_rfl)) (fun _ _ _ h => h) (Or.inl ⟨by rfl, ?_⟩) ?_ ?_
                                rotate_left
                                ·intro w'
                                 go_simp
                                 try go_bits
                                 with_reducible rfl
                                rotate_left
                                ·simp only [Act.put, List.setIfInBounds_toArray, List.set_cons_zero, List.set_cons_succ, i64_w]
                                 rfl
                                refine one_ (i := 9) (N := some 58) #[true, true, true, true, true, true, true, true, true, true, false] rfl rfl (one_of HT_.out (by kernel_rfl)) (by decide) (fun K hK => ?_)
                                (have p471 : 0 ≤ (x44_1 : Int) := of_decide_eq_true (by first | (with_reducible assumption) | assumption); have q471 : x44_1 < (y468.length : Int) := of_decide_eq_true (by first | (with_reducible assumption) | assumption); obtain ⟨ad471, e471, hx471_0⟩ := Kd.at_bool (Kd.R_reads' HO470.out).2.2 x44_1 p471 q471; obtain rfl : ado65 = ad471 := (by injection e471))
                                refine value_ (w1 := ?_) (v := ?_) (by rfl) rfl ?_ ?_
                                rotate_left 2
                                ·go_simp
                                 constructor
                                 ·rfl
                                 ·rfl
                                clear hx471_0
                                refine hK.out _ _ trivial (fun hHeld => ?_)
                                clear hK K
                                refine norm_ (a' := ?_) ?_ ?_
                                rotate_left
                                ·show Act.put _ (some 58) _ = _
                                 simp only [Act.put, List.setIfInBounds_toArray, List.set_cons_zero, List.set_cons_succ, i64_w]
                                 rfl
                                refine pure_ (i := 10) (N := some 9) (v := ?_) (a' := ?_) #[true, true, true, true, true, true, true, true, true, true, true] rfl rfl (any_of HT_.out (by kernel_rfl)) (fun _ _ _ h => h) (Or.inl ⟨by rfl, ?_⟩) ?_ ?_
                                rotate_left
                                ·intro w'
                                 go_simp
                                 try go_bits
                                 with_reducible rfl
                                rotate_left
                                ·simp only [Act.put, List.setIfInBounds_toArray, List.set_cons_zero, List.set_cons_succ, i64_w]
                                 rfl
                                refine done_ (done_of HT_.out (by kernel_rfl)) ?_
                                try go_wp2
                                try rw [← Nbq41.out]
                                have n0_ := Aside0.mk (Kd.R_drew HO_42.out)
                                have n1_ := Aside0.mk (Kd.R_drew HO470.out)
                                have n2_ := Aside0.mk (below_drew1 HB.out)
                                clear HO_42
                                clear HO470
                                clear HB
                                have HO_42 := n0_
                                have HO470 := n1_
                                have HB := n2_
                                clear n0_ n1_ n2_
                                have p44 : 0 ≤ (0 : Int) := (by omega)
                                have q44 : 0 < (rdOf ByteArray.empty y464 x44_1).size := (by have : (0 : Int) < ((rdOf ByteArray.empty y464 x44_1).size : Int) := of_decide_eq_true (by first | (with_reducible assumption) | assumption); omega)
                                have hx44 : ∀ h : 0 < (rdOf ByteArray.empty y464 x44_1).size, (((rdOf ByteArray.empty y464 x44_1)[0]'h).toNat : Int) = bt (rdOf ByteArray.empty y464 x44_1) 0 := bt_at (rdOf ByteArray.empty y464 x44_1) 0
                                clear p44
                                have qi44 : (0 < ((rdOf ByteArray.empty y464 x44_1).size : Int)) = True := eq_true (of_decide_eq_true (by first | (with_reducible assumption) | assumption))
                                replace q44 := eq_true q44
                                (try (have h_ := of_eq_true q44; simp only [ByteArray.size_append, ByteArray.size_extract, Nat.min_self, Int.toNat_natCast, Nat.sub_zero, Int.natCast_add, size_lit, List.length_cons, List.length_nil, Nat.zero_add, Nat.reduceAdd, Int.natCast_one, Int.cast_ofNat_Int] at h_; have q44s := eq_true h_; clear h_))
                                refine start_ (n := 13) (S := fun w' => True) (ds := []) #[false, false, false, false, false, false, false, false, false, false, false, false, false] (by kernel_rfl) rfl rfl trivial (fun hHeld => ?_); refine with_tabW ean_Compress.tab10 ean_Compress.bits10 (fun HT_ HW_ => ?_)
                                generalize w63.drew = w66 at HO_42 HO470 HB hHeld ⊢
                                refine pure_ (i := 0) (N := some 59) (v := ?_) (a' := ?_) #[true, false, false, false, false, false, false, false, false, false, false, false, false] rfl rfl (any_of HT_.out (by kernel_rfl)) (fun _ _ _ h => h) (Or.inl ⟨by rfl, ?_⟩) ?_ ?_
                                rotate_left
                                ·intro w'
                                 go_simp
                                 try go_bits
                                 with_reducible rfl
                                rotate_left
                                ·simp only [Act.put, List.setIfInBounds_toArray, List.set_cons_zero, List.set_cons_succ, i64_w]
                                 rfl
                                refine pure_ (i := 1) (N := some 60) (v := ?_) (a' := ?_) #[true, true, false, false, false, false, false, false, false, false, false, false, false] rfl rfl (any_of HT_.out (by kernel_rfl)) (fun _ _ _ h => h) (Or.inl ⟨by rfl, ?_⟩) ?_ ?_
                                rotate_left
                                ·intro w'
                                 go_simp
                                 try go_bits
                                 with_reducible rfl
                                rotate_left
                                ·simp only [Act.put, List.setIfInBounds_toArray, List.set_cons_zero, List.set_cons_succ, i64_w]
                                 rfl
                                refine pure_ (i := 2) (N := some 61) (v := ?_) (a' := ?_) #[true, true, true, false, false, false, false, false, false, false, false, false, false] rfl rfl (any_of HT_.out (by kernel_rfl)) (fun _ _ _ h => h) (Or.inl ⟨by rfl, ?_⟩) ?_ ?_
                                rotate_left
                                ·intro w'
                                 go_simp
                                 try go_bits
                                 with_reducible rfl
                                rotate_left
                                ·simp only [Act.put, List.setIfInBounds_toArray, List.set_cons_zero, List.set_cons_succ, i64_w]
                                 rfl
                                refine take_ (i := 3) (N := some 62) (v := ?_) (a' := ?_) #[true, true, true, true, false, false, false, false, false, false, false, false, false] rfl rfl (take_ofW HT_.out HW_.out (by kernel_rfl)) (fun _ _ _ h => h) (Or.inl ⟨by rfl, ?_⟩) hHeld ?_ ?_
                                rotate_left
                                ·intro w' _
                                 go_simp
                                 try go_bits
                                 with_reducible rfl
                                rotate_left
                                ·simp only [Act.put, List.setIfInBounds_toArray, List.set_cons_zero, List.set_cons_succ, i64_w]
                                 rfl
                                refine pure_ (i := 4) (N := some 63) (v := ?_) (a' := ?_) #[true, true, true, true, true, false, false, false, false, false, false, false, false] rfl rfl (any_of HT_.out (by kernel_rfl)) (fun _ _ _ h => h) (Or.inl ⟨by rfl, ?_⟩) ?_ ?_
                                rotate_left
                                ·intro w'
                                 go_simp
                                 try go_bits
                                 with_reducible rfl
                                rotate_left
                                ·simp only [Act.put, List.setIfInBounds_toArray, List.set_cons_zero, List.set_cons_succ, i64_w]
                                 rfl
                                refine pure_ (i := 5) (N := some 64) (v := ?_) (a' := ?_) #[true, true, true, true, true, true, false, false, false, false, false, false, false] rfl rfl (any_of HT_.out (by kernel_rfl)) (fun _ _ _ h => h) (Or.inl ⟨by rfl, ?_⟩) ?_ ?_
                                rotate_left
                                ·intro w'
                                 go_simp
                                 try go_bits
                                 with_reducible rfl
                                rotate_left
                                ·simp only [Act.put, List.setIfInBounds_toArray, List.set_cons_zero, List.set_cons_succ, i64_w]
                                 rfl
                                refine pure_ (i := 6) (N := some 65) (v := ?_) (a' := ?_) #[true, true, true, true, true, true, true, false, false, false, false, false, false] rfl rfl (any_of HT_.out (by kernel_rfl)) (fun _ _ _ h => h) (Or.inl ⟨by rfl, ?_⟩) ?_ ?_
                                rotate_left
                                ·intro w'
                                 go_simp
                                 try go_bits
                                 with_reducible rfl
                                rotate_left
                                ·simp only [Act.put, List.setIfInBounds_toArray, List.set_cons_zero, List.set_cons_succ, i64_w]
                                 rfl
                                refine pure_ (i := 7) (N := some 66) (v := undef) (a' := ?_) #[true, true, true, true, true, true, true, true, false, false, false, false, false] rfl rfl (any_of HT_.out (by kernel_rfl)) (fun _ _ _ h => h) (Or.inr ⟨by rfl, rfl⟩) ?_ ?_
                                rotate_left
                                ·simp only [Act.put, List.setIfInBounds_toArray, List.set_cons_zero, List.set_cons_succ, i64_w]
                                 rfl
                                refine pure_ (i := 8) (N := some 67) (v := undef) (a' := ?_) #[true, true, true, true, true, true, true, true, true, false, false, false, false] rfl rfl (any_of HT_.out (by kernel_rfl)) (fun _ _ _ h => h) (Or.inr ⟨by rfl, rfl⟩) ?_ ?_
                                rotate_left
                                ·simp only [Act.put, List.setIfInBounds_toArray, List.set_cons_zero, List.set_cons_succ, i64_w]
                                 rfl
                                refine pure_ (i := 9) (N := some 68) (v := undef) (a' := ?_) #[true, true, true, true, true, true, true, true, true, true, false, false, false] rfl rfl (any_of HT_.out (by kernel_rfl)) (fun _ _ _ h => h) (Or.inr ⟨by rfl, rfl⟩) ?_ ?_
                                rotate_left
                                ·simp only [Act.put, List.setIfInBounds_toArray, List.set_cons_zero, List.set_cons_succ, i64_w]
                                 rfl
                                refine pure_ (i := 10) (N := some 69) (v := undef) (a' := ?_) #[true, true, true, true, true, true, true, true, true, true, true, false, false] rfl rfl (any_of HT_.out (by kernel_rfl)) (fun _ _ _ h => h) (Or.inr ⟨by rfl, rfl⟩) ?_ ?_
                                rotate_left
                                ·simp only [Act.put, List.setIfInBounds_toArray, List.set_cons_zero, List.set_cons_succ, i64_w]
                                 rfl
                                refine pure_ (i := 11) (N := some 70) (v := undef) (a' := ?_) #[true, true, true, true, true, true, true, true, true, true, true, true, false] rfl rfl (any_of HT_.out (by kernel_rfl)) (fun _ _ _ h => h) (Or.inr ⟨by rfl, rfl⟩) ?_ ?_
                                rotate_left
                                ·simp only [Act.put, List.setIfInBounds_toArray, List.set_cons_zero, List.set_cons_succ, i64_w]
                                 rfl
                                refine pure_ (i := 12) (N := some 71) (v := ?_) (a' := ?_) #[true, true, true, true, true, true, true, true, true, true, true, true, true] rfl rfl (any_of HT_.out (by kernel_rfl)) (fun _ _ _ h => h) (Or.inl ⟨by rfl, ?_⟩) ?_ ?_
                                rotate_left
                                ·intro w'
                                 go_simp
                                 try go_bits
                                 with_reducible rfl
                                rotate_left
                                ·simp only [Act.put, List.setIfInBounds_toArray, List.set_cons_zero, List.set_cons_succ, i64_w]
                                 rfl
                                refine done_ (done_of HT_.out (by kernel_rfl)) ?_
                                try go_wp2
                                try rw [← Nbq41.out]
                                go_roundg k1
                                case measure => have := HK1.out; omega
                                case rel => exact ⟨(wrap64 (x44_1 + 1)), (by first | rfl | (simp; done) | (simp [*]; done)), H', ⟨by have := HK1.out; omega⟩, ⟨by (with_reducible repeat (first | apply Kd.R_alloc | apply Kd.R_drewN | apply Kd.R_drew)); exact HO_42.out⟩, ⟨by repeat (first | (with_reducible first | exact HB.out | apply below_alloc | apply pw_below_drewN | apply below_drew1) | exact HB.out)⟩⟩
                              ·rw [if_neg c43] at H
                               exact absurd H (by simp)
                             ·replace c42 := Bool.eq_false_iff.mpr c42
                              subst c42
                              have H1 : (ean_Compress.l0 k1 a0 y464 (y464.length : Int) (wrap64 (x44_1 + 1))) = some (r1, r2) := by rw [if_neg (show ¬ (false = true) by decide)] at H; exact H
                              clear H
                              have H := H1
                              clear H1
                              have H' := Aside0.mk H
                              clear H
                              have p467 : 0 ≤ (x44_1 : Int) := of_decide_eq_true (by first | (with_reducible assumption) | assumption)
                              have q467 : x44_1 < (y464.length : Int) := of_decide_eq_true (by first | (with_reducible assumption) | assumption)
                              obtain ⟨ad467, e467, hx467_0⟩ := Kd.at_string (Kd.R_reads' HO_42.out).2.2 x44_1 p467 q467
                              cases e467
                              replace p467 := eq_true p467
                              replace q467 := eq_true q467
                              (try (have h_ := of_eq_true q467; simp only [ByteArray.size_append, ByteArray.size_extract, Nat.min_self, Int.toNat_natCast, Nat.sub_zero, Int.natCast_add, size_lit, List.length_cons, List.length_nil, Nat.zero_add, Nat.reduceAdd, Int.natCast_one, Int.cast_ofNat_Int] at h_; have q467s := eq_true h_; clear h_))
                              try go_wp2
                              have pi471 : (0 ≤ (x44_1 : Int)) = True := eq_true (of_decide_eq_true (by first | (with_reducible assumption) | assumption))
                              have qi471 : (x44_1 < (y468.length : Int)) = True := eq_true (of_decide_eq_true (by first | (with_reducible assumption) | assumption))
                              have n0_ := Aside0.mk (Kd.R_drew HO_42.out)
                              have n1_ := Aside0.mk (below_drew1 HB.out)
                              clear HO_42
                              clear HB
                              have HO_42 := n0_
                              have HB := n1_
                              clear n0_ n1_
                              have p38 : 0 ≤ (6 : Int) := (by omega)
                              have q38 : 6 < (rdOf ByteArray.empty y464 x44_1).size := (by have : (6 : Int) < ((rdOf ByteArray.empty y464 x44_1).size : Int) := of_decide_eq_true (by first | (with_reducible assumption) | assumption); omega)
                              have hx38 : ∀ h : 6 < (rdOf ByteArray.empty y464 x44_1).size, (((rdOf ByteArray.empty y464 x44_1)[6]'h).toNat : Int) = bt (rdOf ByteArray.empty y464 x44_1) 6 := bt_at (rdOf ByteArray.empty y464 x44_1) 6
                              clear p38
                              have qi38 : (6 < ((rdOf ByteArray.empty y464 x44_1).size : Int)) = True := eq_true (of_decide_eq_true (by first | (with_reducible assumption) | assumption))
                              replace q38 := eq_true q38
                              (try (have h_ := of_eq_true q38; simp only [ByteArray.size_append, ByteArray.size_extract, Nat.min_self, Int.toNat_natCast, Nat.sub_zero, Int.natCast_add, size_lit, List.length_cons, List.length_nil, Nat.zero_add, Nat.reduceAdd, Int.natCast_one, Int.cast_ofNat_Int] at h_; have q38s := eq_true h_; clear h_))
                              have p39 : 0 ≤ (6 : Int) := (by omega)
                              have q39 : 6 < (rdOf ByteArray.empty y464 x44_1).size := (by have : (6 : Int) < ((rdOf ByteArray.empty y464 x44_1).size : Int) := of_decide_eq_true (by first | (with_reducible assumption) | assumption); omega)
                              have hx39 : ∀ h : 6 < (rdOf ByteArray.empty y464 x44_1).size, (((rdOf ByteArray.empty y464 x44_1)[6]'h).toNat : Int) = bt (rdOf ByteArray.empty y464 x44_1) 6 := bt_at (rdOf ByteArray.empty y464 x44_1) 6
                              clear p39
                              have qi39 : (6 < ((rdOf ByteArray.empty y464 x44_1).size : Int)) = True := eq_true (of_decide_eq_true (by first | (with_reducible assumption) | assumption))
                              replace q39 := eq_true q39
                              (try (have h_ := of_eq_true q39; simp only [ByteArray.size_append, ByteArray.size_extract, Nat.min_self, Int.toNat_natCast, Nat.sub_zero, Int.natCast_add, size_lit, List.length_cons, List.length_nil, Nat.zero_add, Nat.reduceAdd, Int.natCast_one, Int.cast_ofNat_Int] at h_; have q39s := eq_true h_; clear h_))
                              refine start_ (n := 11) (S := fun w' => True) (ds := []) #[false, false, false, false, false, false, false, false, false, false, false] (by kernel_rfl) rfl rfl trivial (fun hHeld => ?_); refine with_tabW ean_Compress.tab9 ean_Compress.bits9 (fun HT_ HW_ => ?_)
                              generalize wr.drew = w67 at HO_42 HB hHeld ⊢
                              refine pure_ (i := 0) (N := some 49) (v := ?_) (a' := ?_) #[true, false, false, false, false, false, false, false, false, false, false] rfl rfl (any_of HT_.out (by kernel_rfl)) (fun _ _ _ h => h) (Or.inl ⟨by rfl, ?_⟩) ?_ ?_
                              rotate_left
                              ·intro w'
                               go_simp
                               try go_bits
                               with_reducible rfl
                              rotate_left
                              ·simp only [Act.put, List.setIfInBounds_toArray, List.set_cons_zero, List.set_cons_succ, i64_w]
                               rfl
                              refine pure_ (i := 3) (N := some 52) (v := ?_) (a' := ?_) #[true, false, false, true, false, false, false, false, false, false, false] rfl rfl (any_of HT_.out (by kernel_rfl)) (fun _ _ _ h => h) (Or.inl ⟨by rfl, ?_⟩) ?_ ?_
                              rotate_left
                              ·intro w'
                               go_simp
                               try go_bits
                               with_reducible rfl
                              rotate_left
                              ·simp only [Act.put, List.setIfInBounds_toArray, List.set_cons_zero, List.set_cons_succ, i64_w]
                               rfl
                              refine pure_ (i := 7) (N := some 56) (v := ?_) (a' := ?_) #[true, false, false, true, false, false, false, true, false, false, false] rfl rfl (any_of HT_.out (by kernel_rfl)) (fun _ _ _ h => h) (Or.inl ⟨by rfl, ?_⟩) ?_ ?_
                              rotate_left
                              ·intro w'
                               go_simp
                               try go_bits
                               with_reducible rfl
                              rotate_left
                              ·simp only [Act.put, List.setIfInBounds_toArray, List.set_cons_zero, List.set_cons_succ, i64_w]
                               rfl
                              refine take_ (i := 1) (N := some 50) (v := ?_) (a' := ?_) #[true, true, false, true, false, false, false, true, false, false, false] rfl rfl (take_ofW HT_.out HW_.out (by kernel_rfl)) (fun _ _ _ h => h) (Or.inl ⟨by rfl, ?_⟩) hHeld ?_ ?_
                              rotate_left
                              ·intro w' _
                               go_simp
                               try go_bits
                               with_reducible rfl
                              rotate_left
                              ·simp only [Act.put, List.setIfInBounds_toArray, List.set_cons_zero, List.set_cons_succ, i64_w]
                               rfl
                              refine pure_ (i := 2) (N := some 51) (v := ?_) (a' := ?_) #[true, true, true, true, false, false, false, true, false, false, false] rfl rfl (any_of HT_.out (by kernel_rfl)) (fun _ _ _ h => h) (Or.inl ⟨by rfl, ?_⟩) ?_ ?_
                              rotate_left
                              ·intro w'
                               go_simp
                               try go_bits
                               with_reducible rfl
                              rotate_left
                              ·simp only [Act.put, List.setIfInBounds_toArray, List.set_cons_zero, List.set_cons_succ, i64_w]
                               rfl
                              refine take_ (i := 4) (N := some 53) (v := ?_) (a' := ?_) #[true, true, true, true, true, false, false, true, false, false, false] rfl rfl (take_ofW HT_.out HW_.out (by kernel_rfl)) (fun _ _ _ h => h) (Or.inl ⟨by rfl, ?_⟩) hHeld ?_ ?_
                              rotate_left
                              ·intro w' _
                               go_simp
                               try go_bits
                               with_reducible rfl
                              rotate_left
                              ·simp only [Act.put, List.setIfInBounds_toArray, List.set_cons_zero, List.set_cons_succ, i64_w]
                               rfl
                              refine pure_ (i := 5) (N := some 54) (v := ?_) (a' := ?_) #[true, true, true, true, true, true, false, true, false, false, false] rfl rfl (any_of HT_.out (by kernel_rfl)) (fun _ _ _ h => h) (Or.inl ⟨by rfl, ?_⟩) ?_ ?_
                              rotate_left
                              ·intro w'
                               go_simp
                               try go_bits
                               with_reducible rfl
                              rotate_left
                              ·simp only [Act.put, List.setIfInBounds_toArray, List.set_cons_zero, List.set_cons_succ, i64_w]
                               rfl
                              refine one_ (i := 6) (N := some 55) #[true, true, true, true, true, true, true, true, false, false, false] rfl rfl (one_of HT_.out (by kernel_rfl)) (by decide) (fun K hK => ?_)
                              refine Kd.R_lit_step Kd.bool _ 4 ?hg (N := 55) ?hd (xs := ([decide ((bt (rdOf ByteArray.empty y464 x44_1) 6) ≤ 50), true, true, decide ((bt (rdOf ByteArray.empty y464 x44_1) 6) ≥ 53)] : List Bool)) (inner := [.bool (decide ((bt (rdOf ByteArray.empty y464 x44_1) 6) ≤ 50)), .bool true, .bool true, .bool (decide ((bt (rdOf ByteArray.empty y464 x44_1) 6) ≥ 53))]) (ok := fun _ => True) (okp := fun _ => True) ?hr ?hp (fun _ hk => hk) trivial (Below.refl _ _) (Nat.le_refl _) (by simp) ?_; (case hd => rfl); (case hg => rfl); (case hr => first | (go_simp; done) | (go_simp; rfl)); (case hp => exact (Reps.one (show Kd.M Kd.bool _ _ _ (decide ((bt (rdOf ByteArray.empty y464 x44_1) 6) ≤ 50)) [.bool (decide ((bt (rdOf ByteArray.empty y464 x44_1) 6) ≤ 50))] from rfl) (Reps.one (show Kd.M Kd.bool _ _ _ true [.bool true] from rfl) (Reps.one (show Kd.M Kd.bool _ _ _ true [.bool true] from rfl) (Reps.one (show Kd.M Kd.bool _ _ _ (decide ((bt (rdOf ByteArray.empty y464 x44_1) 6) ≥ 53)) [.bool (decide ((bt (rdOf ByteArray.empty y464 x44_1) 6) ≥ 53))] from rfl) (Reps.none _ _))))))
                              intro v469 w68 ho69 hb hg_ hnew_
                              clear hg_ hnew_
                              (first | rw [← Ny468.out] at ho69 | (simp only [Int.reduceToNat] at ho69; rw [← Ny468.out] at ho69))
                              have n0_ := Aside0.mk (Kd.R_below (by (with_reducible repeat (first | apply Kd.R_alloc | apply Kd.R_drewN | apply Kd.R_drew)); exact HO_42.out) hb)
                              have n1_ := Aside0.mk (Kd.R_lower ho69 (below_size (by repeat (first | (with_reducible first | exact HB.out | apply below_alloc | apply pw_below_drewN | apply below_drew1) | exact HB.out))))
                              have n2_ := Aside0.mk (below_step (by repeat (first | (with_reducible first | exact HB.out | apply below_alloc | apply pw_below_drewN | apply below_drew1) | exact HB.out)) hb)
                              clear HO_42
                              clear HB
                              have HO_42 := n0_
                              have HO470 := n1_
                              have HB := n2_
                              clear n0_ n1_ n2_
                              clear hb ho69
                              obtain ⟨Ao70, co70, eo70⟩ := Kd.R_slice HO470.out
                              subst eo70
                              obtain ⟨ado70, fo70, _⟩ := Kd.at_bool (Kd.R_reads' HO470.out).2.2 0 (by decide) (by rw [Ny468.out]; simp)
                              cases fo70
                              refine hK.out _ _ trivial (fun hHeld => ?_)
                              clear hK K
                              refine norm_ (a' := ?_) ?_ ?_
                              rotate_left
                              ·show Act.put _ (some 55) _ = _
                               simp only [Act.put, List.setIfInBounds_toArray, List.set_cons_zero, List.set_cons_succ, i64_w]
                               rfl
                              refine pure_ (i := 8) (N := some 57) (v := ?_) (a' := ?_) #[true, true, true, true, true, true, true, true, true, false, false] rfl rfl (any_of HT_.out (by kernel_rfl)) (fun _ _ _ h => h) (Or.inl ⟨by rfl, ?_⟩) ?_ ?_
                              rotate_left
                              ·intro w'
                               go_simp
                               try go_bits
                               with_reducible rfl
                              rotate_left
                              ·simp only [Act.put, List.setIfInBounds_toArray, List.set_cons_zero, List.set_cons_succ, i64_w]
                               rfl
                              refine one_ (i := 9) (N := some 58) #[true, true, true, true, true, true, true, true, true, true, false] rfl rfl (one_of HT_.out (by kernel_rfl)) (by decide) (fun K hK => ?_)
                              (have p471 : 0 ≤ (x44_1 : Int) := of_decide_eq_true (by first | (with_reducible assumption) | assumption); have q471 : x44_1 < (y468.length : Int) := of_decide_eq_true (by first | (with_reducible assumption) | assumption); obtain ⟨ad471, e471, hx471_0⟩ := Kd.at_bool (Kd.R_reads' HO470.out).2.2 x44_1 p471 q471; obtain rfl : ado70 = ad471 := (by injection e471))
                              refine value_ (w1 := ?_) (v := ?_) (by rfl) rfl ?_ ?_
                              rotate_left 2
                              ·go_simp
                               constructor
                               ·rfl
                               ·rfl
                              clear hx471_0
                              refine hK.out _ _ trivial (fun hHeld => ?_)
                              clear hK K
                              refine norm_ (a' := ?_) ?_ ?_
                              rotate_left
                              ·show Act.put _ (some 58) _ = _
                               simp only [Act.put, List.setIfInBounds_toArray, List.set_cons_zero, List.set_cons_succ, i64_w]
                               rfl
                              refine pure_ (i := 10) (N := some 9) (v := ?_) (a' := ?_) #[true, true, true, true, true, true, true, true, true, true, true] rfl rfl (any_of HT_.out (by kernel_rfl)) (fun _ _ _ h => h) (Or.inl ⟨by rfl, ?_⟩) ?_ ?_
                              rotate_left
                              ·intro w'
                               go_simp
                               try go_bits
                               with_reducible rfl
                              rotate_left
                              ·simp only [Act.put, List.setIfInBounds_toArray, List.set_cons_zero, List.set_cons_succ, i64_w]
                               rfl
                              refine done_ (done_of HT_.out (by kernel_rfl)) ?_
                              try go_wp2
                              try rw [← Nbq41.out]
                              have n0_ := Aside0.mk (Kd.R_drew HO_42.out)
                              have n1_ := Aside0.mk (Kd.R_drew HO470.out)
                              have n2_ := Aside0.mk (below_drew1 HB.out)
                              clear HO_42
                              clear HO470
                              clear HB
                              have HO_42 := n0_
                              have HO470 := n1_
                              have HB := n2_
                              clear n0_ n1_ n2_
                              refine start_ (n := 13) (S := fun w' => True) (ds := []) #[false, false, false, false, false, false, false, false, false, false, false, false, false] (by kernel_rfl) rfl rfl trivial (fun hHeld => ?_); refine with_tabW ean_Compress.tab10 ean_Compress.bits10 (fun HT_ HW_ => ?_)
                              generalize w68.drew = w71 at HO_42 HO470 HB hHeld ⊢
                              refine pure_ (i := 0) (N := some 59) (v := ?_) (a' := ?_) #[true, false, false, false, false, false, false, false, false, false, false, false, false] rfl rfl (any_of HT_.out (by kernel_rfl)) (fun _ _ _ h => h) (Or.inl ⟨by rfl, ?_⟩) ?_ ?_
                              rotate_left
                              ·intro w'
                               go_simp
                               try go_bits
                               with_reducible rfl
                              rotate_left
                              ·simp only [Act.put, List.setIfInBounds_toArray, List.set_cons_zero, List.set_cons_succ, i64_w]
                               rfl
                              refine pure_ (i := 1) (N := some 60) (v := ?_) (a' := ?_) #[true, true, false, false, false, false, false, false, false, false, false, false, false] rfl rfl (any_of HT_.out (by kernel_rfl)) (fun _ _ _ h => h) (Or.inl ⟨by rfl, ?_⟩) ?_ ?_
                              rotate_left
                              ·intro w'
                               go_simp
                               try go_bits
                               with_reducible rfl
                              rotate_left
                              ·simp only [Act.put, List.setIfInBounds_toArray, List.set_cons_zero, List.set_cons_succ, i64_w]
                               rfl
                              refine pure_ (i := 2) (N := some 61) (v := undef) (a' := ?_) #[true, true, true, false, false, false, false, false, false, false, false, false, false] rfl rfl (any_of HT_.out (by kernel_rfl)) (fun _ _ _ h => h) (Or.inr ⟨by rfl, rfl⟩) ?_ ?_
                              rotate_left
                              ·simp only [Act.put, List.setIfInBounds_toArray, List.set_cons_zero, List.set_cons_succ, i64_w]
                               rfl
                              refine pure_ (i := 3) (N := some 62) (v := undef) (a' := ?_) #[true, true, true, true, false, false, false, false, false, false, false, false, false] rfl rfl (any_of HT_.out (by kernel_rfl)) (fun _ _ _ h => h) (Or.inr ⟨by rfl, rfl⟩) ?_ ?_
                              rotate_left
                              ·simp only [Act.put, List.setIfInBounds_toArray, List.set_cons_zero, List.set_cons_succ, i64_w]
                               rfl
                              refine pure_ (i := 4) (N := some 63) (v := undef) (a' := ?_) #[true, true, true, true, true, false, false, false, false, false, false, false, false] rfl rfl (any_of HT_.out (by kernel_rfl)) (fun _ _ _ h => h) (Or.inr ⟨by rfl, rfl⟩) ?_ ?_
                              rotate_left
                              ·simp only [Act.put, List.setIfInBounds_toArray, List.set_cons_zero, List.set_cons_succ, i64_w]
                               rfl
                              refine pure_ (i := 5) (N := some 64) (v := ?_) (a' := ?_) #[true, true, true, true, true, true, false, false, false, false, false, false, false] rfl rfl (any_of HT_.out (by kernel_rfl)) (fun _ _ _ h => h) (Or.inl ⟨by rfl, ?_⟩) ?_ ?_
                              rotate_left
                              ·intro w'
                               go_simp
                               try go_bits
                               with_reducible rfl
                              rotate_left
                              ·simp only [Act.put, List.setIfInBounds_toArray, List.set_cons_zero, List.set_cons_succ, i64_w]
                               rfl
                              refine pure_ (i := 6) (N := some 65) (v := ?_) (a' := ?_) #[true, true, true, true, true, true, true, false, false, false, false, false, false] rfl rfl (any_of HT_.out (by kernel_rfl)) (fun _ _ _ h => h) (Or.inl ⟨by rfl, ?_⟩) ?_ ?_
                              rotate_left
                              ·intro w'
                               go_simp
                               try go_bits
                               with_reducible rfl
                              rotate_left
                              ·simp only [Act.put, List.setIfInBounds_toArray, List.set_cons_zero, List.set_cons_succ, i64_w]
                               rfl
                              refine pure_ (i := 7) (N := some 66) (v := undef) (a' := ?_) #[true, true, true, true, true, true, true, true, false, false, false, false, false] rfl rfl (any_of HT_.out (by kernel_rfl)) (fun _ _ _ h => h) (Or.inr ⟨by rfl, rfl⟩) ?_ ?_
                              rotate_left
                              ·simp only [Act.put, List.setIfInBounds_toArray, List.set_cons_zero, List.set_cons_succ, i64_w]
                               rfl
                              refine pure_ (i := 8) (N := some 67) (v := undef) (a' := ?_) #[true, true, true, true, true, true, true, true, true, false, false, false, false] rfl rfl (any_of HT_.out (by kernel_rfl)) (fun _ _ _ h => h) (Or.inr ⟨by rfl, rfl⟩) ?_ ?_
                              rotate_left
                              ·simp only [Act.put, List.setIfInBounds_toArray, List.set_cons_zero, List.set_cons_succ, i64_w]
                               rfl
                              refine pure_ (i := 9) (N := some 68) (v := undef) (a' := ?_) #[true, true, true, true, true, true, true, true, true, true, false, false, false] rfl rfl (any_of HT_.out (by kernel_rfl)) (fun _ _ _ h => h) (Or.inr ⟨by rfl, rfl⟩) ?_ ?_
                              rotate_left
                              ·simp only [Act.put, List.setIfInBounds_toArray, List.set_cons_zero, List.set_cons_succ, i64_w]
                               rfl
                              refine pure_ (i := 10) (N := some 69) (v := undef) (a' := ?_) #[true, true, true, true, true, true, true, true, true, true, true, false, false] rfl rfl (any_of HT_.out (by kernel_rfl)) (fun _ _ _ h => h) (Or.inr ⟨by rfl, rfl⟩) ?_ ?_
                              rotate_left
                              ·simp only [Act.put, List.setIfInBounds_toArray, List.set_cons_zero, List.set_cons_succ, i64_w]
                               rfl
                              refine pure_ (i := 11) (N := some 70) (v := undef) (a' := ?_) #[true, true, true, true, true, true, true, true, true, true, true, true, false] rfl rfl (any_of HT_.out (by kernel_rfl)) (fun _ _ _ h => h) (Or.inr ⟨by rfl, rfl⟩) ?_ ?_
                              rotate_left
                              ·simp only [Act.put, List.setIfInBounds_toArray, List.set_cons_zero, List.set_cons_succ, i64_w]
                               rfl
                              refine pure_ (i := 12) (N := some 71) (v := ?_) (a' := ?_) #[true, true, true, true, true, true, true, true, true, true, true, true, true] rfl rfl (any_of HT_.out (by kernel_rfl)) (fun _ _ _ h => h) (Or.inl ⟨by rfl, ?_⟩) ?_ ?_
                              rotate_left
                              ·intro w'
                               go_simp
                               try go_bits
                               with_reducible rfl
                              rotate_left
                              ·simp only [Act.put, List.setIfInBounds_toArray, List.set_cons_zero, List.set_cons_succ, i64_w]
                               rfl
                              refine done_ (done_of HT_.out (by kernel_rfl)) ?_
                              try go_wp2
                              try rw [← Nbq41.out]
                              go_roundg k1
                              case measure => have := HK1.out; omega
                              case rel => exact ⟨(wrap64 (x44_1 + 1)), (by first | rfl | (simp; done) | (simp [*]; done)), H', ⟨by have := HK1.out; omega⟩, ⟨by (with_reducible repeat (first | apply Kd.R_alloc | apply Kd.R_drewN | apply Kd.R_drew)); exact HO_42.out⟩, ⟨by repeat (first | (with_reducible first | exact HB.out | apply below_alloc | apply pw_below_drewN | apply below_drew1) | exact HB.out)⟩⟩
                            ·rw [if_neg c40] at H
                             exact absurd H (by simp)
                           ·rw [if_neg c37] at H
                            exact absurd H (by simp)
                          ·rw [if_neg c36] at H
                           exact absurd H (by simp)
                         ·rw [if_neg c35] at H
                          exact absurd H (by simp)
                        ·rw [if_neg c34] at H
                         have c34b0 : decide (x44_1 < (y464.length : Int)) = false := decide_eq_false c34
                         clear c34
                         simp only [Option.some.injEq, Prod.mk.injEq] at H
                         obtain ⟨rfl, rfl⟩ := H
                         go_wp2
                         go_ret2
                         exact ⟨by first | rfl | (simp [errW_none, errW_some] <;> rfl) | (simp [*, errW_none, errW_some] <;> rfl), by repeat (first | (with_reducible first | exact HB.out | apply below_alloc | apply pw_below_drewN | apply below_drew1) | exact HB.out)⟩
                     ·rw [if_neg c28] at H
                      exact absurd H (by simp)
                    ·rw [if_neg c25] at H
                     exact absurd H (by simp)
                   ·rw [if_neg c24] at H
                    exact absurd H (by simp)
                  ·rw [if_neg c23] at H
                   exact absurd H (by simp)
                 ·rw [if_neg c22] at H
                  exact absurd H (by simp)
                ·rw [if_neg c20] at H
                 exact absurd H (by simp)
               ·rw [if_neg c19] at H
                exact absurd H (by simp)
              ·rw [if_neg c18] at H
               exact absurd H (by simp)
             ·rw [if_neg c17] at H
              exact absurd H (by simp)
            ·rw [if_neg c16] at H
             exact absurd H (by simp)
           ·rw [if_neg c14] at H
            exact absurd H (by simp)
          ·rw [if_neg c12] at H
           exact absurd H (by simp)
         ·rw [if_neg c11] at H
          exact absurd H (by simp)
        ·rw [if_neg c10] at H
         exact absurd H (by simp)
       ·rw [if_neg c9] at H
        exact absurd H (by simp)
      ·rw [if_neg c8] at H
       exact absurd H (by simp)
     ·rw [if_neg c7] at H
      exact absurd H (by simp)
    ·rw [if_neg c6] at H
     exact absurd H (by simp)
   ·rw [if_neg c5] at H
    exact absurd H (by simp)
  ·rw [if_neg c4] at H
   exact absurd H (by simp)
 ·rw [if_neg c3] at H
  have c3b0 : (t463 == 0) = false := beq_eq_false_iff_ne.mpr c3
  have c3b1 : (t463 != 0) = true := bne_iff_ne.mpr c3
  simp only [Option.some.injEq, Prod.mk.injEq] at H
  obtain ⟨rfl, rfl⟩ := H
  go_enter Tryz.func19, Tryz.ntmps19
  go_wp2_with (first | ((with_reducible refine gate_callee (f := 26) rfl ?_); refine goesL_ (some 11) rfl rfl Tryz.func26 (by kernel_rfl) rfl #[.int .i64 3, .string a0] rfl (by (try simp only [List.map_toArray, List.map_cons, List.map_nil]); first | done | rfl | (simp only [List.length_drop, List.length_take]; rfl)) ?_; (with_reducible refine (ean_complete.calls k 3 a0 t463 _ A2.out).mono ?_); rintro e w72 ⟨rfl, hb⟩; refine ⟨_, rfl, ?_⟩; have n0_ := Aside0.mk (below_step (by repeat (first | (with_reducible first | exact HB.out | apply below_alloc | apply pw_below_drewN | apply below_drew1) | exact HB.out)) hb); clear HB; have HB := n0_; clear n0_; (try clear hb); (try clear hb2); (try clear hk); (try clear hi)))
  go_ret2
  exact ⟨by first | rfl | (simp [errW_none, errW_some] <;> rfl) | (simp [*, errW_none, errW_some] <;> rfl), by repeat (first | (with_reducible first | exact HB.out | apply below_alloc | apply pw_below_drewN | apply below_drew1) | exact HB.out)⟩

end Go.Proofs.YtjmeekceecpemaaGreatDoor.Q
