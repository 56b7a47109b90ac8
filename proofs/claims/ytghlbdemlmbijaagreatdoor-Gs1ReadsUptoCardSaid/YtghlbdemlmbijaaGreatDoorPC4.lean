/- Joined by a program of this work (pack.py) out of the texts Qbarscanref14date, Qbarscanref14checked, Qbarscanref14Verify, Th2, QE0 of this seat, in build order. -/
import Derived.Test.YtghlbdemlmbijaaGreatDoorPC3
namespace Go.Proofs.YtghlbdemlmbijaaGreatDoor.Q
open Go.RowKit Go.Proofs.YtghlbdemlmbijaaGreatDoorW.PrintWords Go.Proofs.YtghlbdemlmbijaaGreatDoorW.PrintLast Go.Proofs.YtghlbdemlmbijaaGreatDoorW.PrintMore

set_option linter.unusedVariables false
set_option linter.unusedSimpArgs false

/-! ### barscanref14_date: function 27 -/
def barscanref14_date.j0 : Nat → ByteArray → Int → Bool → Option (Bool)
 | 0, _, _, _ => none
 | k + 1, x0, x3, x13 => if x13 = true then (some false) else ((some (([31, 28, 31, 30, 31, 30, 31, 31, 30, 31, 30, 31] : List Int) : List Int)).bind fun y143 => (if 0 ≤ (wrap64 (x3 - 1)) then (if (wrap64 (x3 - 1)) < (y143.length : Int) then (if x3 = 2 then (if 0 ≤ 2 then (if 2 ≤ (x0.size : Int) then ((barscanref14_number.f (x0.extract 0 2)).bind fun t147 => (if (Int.tmod t147 4) = 0 then (if 4 ≤ (x0.size : Int) then ((barscanref14_number.f (x0.extract 4 x0.size)).bind fun t148 => (some (decide (t148 ≤ 29)))) else (none)) else (if 4 ≤ (x0.size : Int) then ((barscanref14_number.f (x0.extract 4 x0.size)).bind fun t149 => (some (decide (t149 ≤ (rd y143 (wrap64 (x3 - 1))))))) else (none)))) else (none)) else (none)) else (if 4 ≤ (x0.size : Int) then ((barscanref14_number.f (x0.extract 4 x0.size)).bind fun t150 => (some (decide (t150 ≤ (rd y143 (wrap64 (x3 - 1))))))) else (none))) else (none)) else (none)))
def barscanref14_date.f (k : Nat) (a0 : ByteArray) : Option (Bool) := if 2 ≤ 4 then (if 4 ≤ (a0.size : Int) then ((barscanref14_number.f (a0.extract 2 4)).bind fun t142 => (if t142 < 1 then (barscanref14_date.j0 k a0 t142 true) else (barscanref14_date.j0 k a0 t142 (decide (t142 > 12))))) else (none)) else (none)
theorem barscanref14_date.mono_l : ∀ k, (∀ y0 y1 y2, LeO (barscanref14_date.j0 k y0 y1 y2) (barscanref14_date.j0 (k + 1) y0 y1 y2))
 | 0 => fun _ _ _ r h => by simp [barscanref14_date.j0] at h
 | k + 1 => by
  have ih0 := barscanref14_date.mono_l k
  ·intro y0 y1 y2
   unfold barscanref14_date.j0
   repeat' first
   | (with_reducible exact ih0 _ _ _)
   | (with_reducible exact LeO.refl _)
   | (with_reducible exact LeO.none _)
   | (with_reducible refine LeO.ite ?_ ?_)
   | (with_reducible refine LeO.bind ?_ (fun _ => ?_))
   | exact ih0 _ _ _
   | exact LeO.none _
   | refine LeO.ite ?_ ?_
   | refine LeO.bind ?_ (fun _ => ?_)
theorem barscanref14_date.mono : ∀ a0 k, LeO (barscanref14_date.f k a0) (barscanref14_date.f (k + 1) a0) := by
 intro a0 k
 have ih0 := barscanref14_date.mono_l k
 unfold barscanref14_date.f
 repeat' first
   | (with_reducible exact ih0 _ _ _)
   | (with_reducible exact LeO.refl _)
   | (with_reducible exact LeO.none _)
   | (with_reducible refine LeO.ite ?_ ?_)
   | (with_reducible refine LeO.bind ?_ (fun _ => ?_))
   | exact ih0 _ _ _
   | exact LeO.none _
   | refine LeO.ite ?_ ?_
   | refine LeO.bind ?_ (fun _ => ?_)
set_option maxHeartbeats 8000000 in
set_option maxRecDepth 100000 in
theorem barscanref14_date.calls (k : Nat) (a0 : ByteArray) (r : Bool) (w : World) (h : barscanref14_date.f k a0 = some r) :
  Calls Tryz.prog 27 #[.string a0] w fun e w' => e = .returned (.bool r) ∧ Below w.heap.size w w' := by
 have HB := Aside0.mk (Below.refl w.heap.size w)
 have H : (if 2 ≤ 4 then (if 4 ≤ (a0.size : Int) then ((barscanref14_number.f (a0.extract 2 4)).bind fun t142 => (if t142 < 1 then (barscanref14_date.j0 k a0 t142 true) else (barscanref14_date.j0 k a0 t142 (decide (t142 > 12))))) else (none)) else (none)) = some r := h
 clear h
 by_cases c2 : 2 ≤ 4
 ·rw [if_pos c2] at H
  have c2b0 := eq_true c2
  have c2b1 : decide (2 ≤ 4) = true := decide_eq_true c2
  clear c2
  by_cases c3 : 4 ≤ (a0.size : Int)
  ·rw [if_pos c3] at H
   have c3b0 := eq_true c3
   have c3b1 : decide (4 ≤ (a0.size : Int)) = true := decide_eq_true c3
   clear c3
   replace H := Option.bind_eq_some_iff.mp H
   obtain ⟨t142, A40, H⟩ := H
   replace H : (if t142 < 1 then (barscanref14_date.j0 k a0 t142 true) else (barscanref14_date.j0 k a0 t142 (decide (t142 > 12)))) = some r := H
   have A4 := Aside0.mk A40
   clear A40
   have HC5 := Aside0.mk H
   clear H
   go_enter Tryz.func27, Tryz.ntmps27
   go_upto_region 2 with (first | ((with_reducible refine gate_callee (f := 51) rfl ?_); refine goesL_ (some 7) rfl rfl Tryz.func51 (by kernel_rfl) rfl #[.string (a0.extract 2 4)] rfl (by (try simp only [List.map_toArray, List.map_cons, List.map_nil]); first | done | rfl | (simp only [List.length_drop, List.length_take]; rfl)) ?_; (with_reducible refine (barscanref14_number.calls (a0.extract 2 4) t142 _ A4.out).mono ?_); rintro e w' ⟨rfl, ⟨nd, rfl⟩⟩; refine ⟨_, rfl, ?_⟩))
   (try simp only [Act.put, List.setIfInBounds_toArray, List.set_cons_zero, List.set_cons_succ])
   go_cut [13] (fun v13 wc => ∃ (kq : Nat) (x13_4 : Bool), v13 = .bool x13_4 ∧ Aside0 (barscanref14_date.j0 kq a0 t142 x13_4 = some r) ∧ Aside0 (kq ≤ k) ∧ Aside0 (Below w.heap.size w wc))
   case first =>
    have H := HC5.out
    clear HC5
    by_cases c6 : t142 < 1
    ·rw [if_pos c6] at H
     have c6b0 : decide (t142 < 1) = true := decide_eq_true c6
     clear c6
     (first | rw [c6b0] | (simp only [i64_w]; rw [c6b0]) | skip)
     have H' := Aside0.mk H
     clear H
     go_wp2
     go_meet
     case rel => exact ⟨_, (true), (by first | rfl | (simp; done) | (simp [*]; done)), H', ⟨by first | omega | exact Nat.le_refl _⟩, ⟨by repeat (first | (with_reducible first | exact HB.out | apply below_alloc | apply pw_below_drewN | apply below_drew1) | exact HB.out)⟩⟩
    ·rw [if_neg c6] at H
     have c6b0 : decide (t142 < 1) = false := decide_eq_false c6
     clear c6
     (first | rw [c6b0] | (simp only [i64_w]; rw [c6b0]) | skip)
     have H' := Aside0.mk H
     clear H
     go_wp2
     go_meet
     case rel => exact ⟨_, (decide (t142 > 12)), (by first | rfl | (simp; done) | (simp [*]; done)), H', ⟨by first | omega | exact Nat.le_refl _⟩, ⟨by repeat (first | (with_reducible first | exact HB.out | apply below_alloc | apply pw_below_drewN | apply below_drew1) | exact HB.out)⟩⟩
   case rest =>
    clear HC5
    obtain ⟨kq, x13_4, rfl, HA, HJ4, HB⟩ := hcut
    cases kq with
    | zero => exact absurd HA.out (by simp [barscanref14_date.j0])
    | succ kj4 =>
     have H := HA.out
     clear HA
     simp only [barscanref14_date.j0] at H
     by_cases c7 : x13_4 = true
     ·subst c7
      have H1 : (some false) = some r := by rw [if_pos rfl] at H; exact H
      clear H
      have H := H1
      clear H1
      obtain rfl := Option.some.inj H
      go_wp2
      go_ret
      exact ⟨by first | rfl | (simp [errW_none, errW_some] <;> rfl) | (simp [*, errW_none, errW_some] <;> rfl), by repeat (first | (with_reducible first | exact HB.out | apply below_alloc | apply pw_below_drewN | apply below_drew1) | exact HB.out)⟩
     ·replace c7 := Bool.eq_false_iff.mpr c7
      subst c7
      have H1 : ((some (([31, 28, 31, 30, 31, 30, 31, 31, 30, 31, 30, 31] : List Int) : List Int)).bind fun y143 => (if 0 ≤ (wrap64 (t142 - 1)) then (if (wrap64 (t142 - 1)) < (y143.length : Int) then (if t142 = 2 then (if 0 ≤ 2 then (if 2 ≤ (a0.size : Int) then ((barscanref14_number.f (a0.extract 0 2)).bind fun t147 => (if (Int.tmod t147 4) = 0 then (if 4 ≤ (a0.size : Int) then ((barscanref14_number.f (a0.extract 4 a0.size)).bind fun t148 => (some (decide (t148 ≤ 29)))) else (none)) else (if 4 ≤ (a0.size : Int) then ((barscanref14_number.f (a0.extract 4 a0.size)).bind fun t149 => (some (decide (t149 ≤ (rd y143 (wrap64 (t142 - 1))))))) else (none)))) else (none)) else (none)) else (if 4 ≤ (a0.size : Int) then ((barscanref14_number.f (a0.extract 4 a0.size)).bind fun t150 => (some (decide (t150 ≤ (rd y143 (wrap64 (t142 - 1))))))) else (none))) else (none)) else (none))) = some r := by rw [if_neg (show ¬ (false = true) by decide)] at H; exact H
      clear H
      have H := H1
      clear H1
      obtain ⟨y143, hy143⟩ : ∃ y_ : List Int, y_ = (([31, 28, 31, 30, 31, 30, 31, 31, 30, 31, 30, 31] : List Int)) := ⟨_, rfl⟩
      replace H : (if 0 ≤ (wrap64 (t142 - 1)) then (if (wrap64 (t142 - 1)) < (y143.length : Int) then (if t142 = 2 then (if 0 ≤ 2 then (if 2 ≤ (a0.size : Int) then ((barscanref14_number.f (a0.extract 0 2)).bind fun t147 => (if (Int.tmod t147 4) = 0 then (if 4 ≤ (a0.size : Int) then ((barscanref14_number.f (a0.extract 4 a0.size)).bind fun t148 => (some (decide (t148 ≤ 29)))) else (none)) else (if 4 ≤ (a0.size : Int) then ((barscanref14_number.f (a0.extract 4 a0.size)).bind fun t149 => (some (decide (t149 ≤ (rd y143 (wrap64 (t142 - 1))))))) else (none)))) else (none)) else (none)) else (if 4 ≤ (a0.size : Int) then ((barscanref14_number.f (a0.extract 4 a0.size)).bind fun t150 => (some (decide (t150 ≤ (rd y143 (wrap64 (t142 - 1))))))) else (none))) else (none)) else (none)) = some r := by first | (rw [hy143]; with_reducible exact H) | (have H2_ := (Option.bind_some _ _).symm.trans H; rw [hy143]; with_reducible exact H2_) | (have H2_ := (Option.bind_some _ _).symm.trans H; with_reducible exact H2_) | with_reducible exact H | (rw [hy143]; exact H) | exact H
      have Ny143 := Aside0.mk hy143
      clear hy143
      obtain ⟨ji8, hji8⟩ : ∃ j_ : Int, (wrap64 (t142 - 1)) = j_ := ⟨_, rfl⟩
      replace H : (if 0 ≤ (ji8) then (if (ji8) < (y143.length : Int) then (if t142 = 2 then (if 0 ≤ 2 then (if 2 ≤ (a0.size : Int) then ((barscanref14_number.f (a0.extract 0 2)).bind fun t147 => (if (Int.tmod t147 4) = 0 then (if 4 ≤ (a0.size : Int) then ((barscanref14_number.f (a0.extract 4 a0.size)).bind fun t148 => (some (decide (t148 ≤ 29)))) else (none)) else (if 4 ≤ (a0.size : Int) then ((barscanref14_number.f (a0.extract 4 a0.size)).bind fun t149 => (some (decide (t149 ≤ (rd y143 (ji8)))))) else (none)))) else (none)) else (none)) else (if 4 ≤ (a0.size : Int) then ((barscanref14_number.f (a0.extract 4 a0.size)).bind fun t150 => (some (decide (t150 ≤ (rd y143 (ji8)))))) else (none))) else (none)) else (none)) = some r := by first | (rw [hji8] at H; exact H) | (simp only [hji8] at H ⊢; exact H)
      have hji8w : (IntKind.i64.wrap (t142 - 1)) = ji8 := (i64_w _).trans hji8
      by_cases c9 : 0 ≤ (ji8)
      ·rw [if_pos c9] at H
       have c9b0 : decide (0 ≤ (ji8)) = true := decide_eq_true c9
       clear c9
       by_cases c10 : (ji8) < (y143.length : Int)
       ·rw [if_pos c10] at H
        have c10b0 : decide ((ji8) < (y143.length : Int)) = true := decide_eq_true c10
        clear c10
        by_cases c11 : t142 = 2
        ·rw [if_pos c11] at H
         have c11b0 : (t142 == 2) = true := beq_iff_eq.mpr c11
         have c11b1 : (t142 != 2) = false := bne_eq_false_iff_eq.mpr c11
         clear c11
         by_cases c12 : 0 ≤ 2
         ·rw [if_pos c12] at H
          have c12b0 := eq_true c12
          have c12b1 : decide (0 ≤ 2) = true := decide_eq_true c12
          clear c12
          by_cases c13 : 2 ≤ (a0.size : Int)
          ·rw [if_pos c13] at H
           have c13b0 := eq_true c13
           have c13b1 : decide (2 ≤ (a0.size : Int)) = true := decide_eq_true c13
           clear c13
           replace H := Option.bind_eq_some_iff.mp H
           obtain ⟨t147, A140, H⟩ := H
           replace H : (if (Int.tmod t147 4) = 0 then (if 4 ≤ (a0.size : Int) then ((barscanref14_number.f (a0.extract 4 a0.size)).bind fun t148 => (some (decide (t148 ≤ 29)))) else (none)) else (if 4 ≤ (a0.size : Int) then ((barscanref14_number.f (a0.extract 4 a0.size)).bind fun t149 => (some (decide (t149 ≤ (rd y143 (ji8)))))) else (none))) = some r := H
           have A14 := Aside0.mk A140
           clear A140
           by_cases c15 : (Int.tmod t147 4) = 0
           ·rw [if_pos c15] at H
            have c15b0 : ((Int.tmod t147 4) == 0) = true := beq_iff_eq.mpr c15
            have c15b1 : ((Int.tmod t147 4) != 0) = false := bne_eq_false_iff_eq.mpr c15
            clear c15
            by_cases c16 : 4 ≤ (a0.size : Int)
            ·rw [if_pos c16] at H
             have c16b0 := eq_true c16
             have c16b1 : decide (4 ≤ (a0.size : Int)) = true := decide_eq_true c16
             clear c16
             replace H := Option.bind_eq_some_iff.mp H
             obtain ⟨t148, A170, H⟩ := H
             replace H : (some (decide (t148 ≤ 29))) = some r := H
             have A17 := Aside0.mk A170
             clear A170
             obtain rfl := Option.some.inj H
             go_wp2_with (first | ((with_reducible refine gate_dst (N := 14) rfl ?_); refine Kd.R_lit (Kd.int .i64) _ 3 ?hg (N := 14) ?hd (xs := ([31, 28, 31, 30, 31, 30, 31, 31, 30, 31, 30, 31] : List Int)) (inner := [.int .i64 31, .int .i64 28, .int .i64 31, .int .i64 30, .int .i64 31, .int .i64 30, .int .i64 31, .int .i64 31, .int .i64 30, .int .i64 31, .int .i64 30, .int .i64 31]) (ok := fun _ => True) (okp := fun _ => True) ?hr ?hp (fun _ hk => hk) trivial (Below.refl _ _) (Nat.le_refl _) (by simp) ?_; (case hd => rfl); (case hg => rfl); (case hr => first | (go_simp; done) | (go_simp; rfl)); (case hp => exact (Reps.one (show Kd.M (Kd.int .i64) _ _ _ 31 [.int .i64 31] from rfl) (Reps.one (show Kd.M (Kd.int .i64) _ _ _ 28 [.int .i64 28] from rfl) (Reps.one (show Kd.M (Kd.int .i64) _ _ _ 31 [.int .i64 31] from rfl) (Reps.one (show Kd.M (Kd.int .i64) _ _ _ 30 [.int .i64 30] from rfl) (Reps.one (show Kd.M (Kd.int .i64) _ _ _ 31 [.int .i64 31] from rfl) (Reps.one (show Kd.M (Kd.int .i64) _ _ _ 30 [.int .i64 30] from rfl) (Reps.one (show Kd.M (Kd.int .i64) _ _ _ 31 [.int .i64 31] from rfl) (Reps.one (show Kd.M (Kd.int .i64) _ _ _ 31 [.int .i64 31] from rfl) (Reps.one (show Kd.M (Kd.int .i64) _ _ _ 30 [.int .i64 30] from rfl) (Reps.one (show Kd.M (Kd.int .i64) _ _ _ 31 [.int .i64 31] from rfl) (Reps.one (show Kd.M (Kd.int .i64) _ _ _ 30 [.int .i64 30] from rfl) (Reps.one (show Kd.M (Kd.int .i64) _ _ _ 31 [.int .i64 31] from rfl) (Reps.none _ _)))))))))))))); intro v144 w18 ho19 hb hg_ hnew_; clear hg_ hnew_; (first | rw [← Ny143.out] at ho19 | (simp only [Int.reduceToNat] at ho19; rw [← Ny143.out] at ho19)); have n0_ := Aside0.mk (Kd.R_lower ho19 (below_size (by repeat (first | (with_reducible first | exact HB.out | apply below_alloc | apply pw_below_drewN | apply below_drew1) | exact HB.out)))); have n1_ := Aside0.mk (below_step (by repeat (first | (with_reducible first | exact HB.out | apply below_alloc | apply pw_below_drewN | apply below_drew1) | exact HB.out)) hb); clear HB; have HO145 := n0_; have HB := n1_; clear n0_ n1_; clear hb ho19; obtain ⟨Ao20, co20, eo20⟩ := Kd.R_slice HO145.out; subst eo20; have p146 : 0 ≤ ((ji8) : Int) := of_decide_eq_true (by first | (with_reducible assumption) | assumption); have q146 : (ji8) < (y143.length : Int) := of_decide_eq_true (by first | (with_reducible assumption) | assumption); obtain ⟨ad146, e146, hx146_0⟩ := Kd.at_int (Kd.R_reads' HO145.out).2.2 (ji8) p146 q146; cases e146; replace p146 := eq_true p146; replace q146 := eq_true q146) | (go_at_call 51; (with_reducible refine (barscanref14_number.calls (a0.extract 0 2) t147 _ A14.out).mono ?_); rintro e w' ⟨rfl, ⟨nd, rfl⟩⟩) | ((with_reducible refine gate_callee (f := 51) rfl ?_); refine goesL_ (some 30) rfl rfl Tryz.func51 (by kernel_rfl) rfl #[.string (a0.extract 4 a0.size)] rfl (by (try simp only [List.map_toArray, List.map_cons, List.map_nil]); first | done | rfl | (simp only [List.length_drop, List.length_take]; rfl)) ?_; (with_reducible refine (barscanref14_number.calls (a0.extract 4 a0.size) t148 _ A17.out).mono ?_); rintro e w' ⟨rfl, ⟨nd, rfl⟩⟩; refine ⟨_, rfl, ?_⟩))
             go_ret
             exact ⟨by first | rfl | (simp [errW_none, errW_some] <;> rfl) | (simp only [← hji8]; first | rfl | (simp [errW_none, errW_some] <;> rfl)) | (simp [*, errW_none, errW_some] <;> rfl), by repeat (first | (with_reducible first | exact HB.out | apply below_alloc | apply pw_below_drewN | apply below_drew1) | exact HB.out)⟩
            ·rw [if_neg c16] at H
             exact absurd H (by simp)
           ·rw [if_neg c15] at H
            have c15b0 : ((Int.tmod t147 4) == 0) = false := beq_eq_false_iff_ne.mpr c15
            have c15b1 : ((Int.tmod t147 4) != 0) = true := bne_iff_ne.mpr c15
            by_cases c21 : 4 ≤ (a0.size : Int)
            ·rw [if_pos c21] at H
             have c21b0 := eq_true c21
             have c21b1 : decide (4 ≤ (a0.size : Int)) = true := decide_eq_true c21
             clear c21
             replace H := Option.bind_eq_some_iff.mp H
             obtain ⟨t149, A220, H⟩ := H
             replace H : (some (decide (t149 ≤ (rd y143 (ji8))))) = some r := H
             have A22 := Aside0.mk A220
             clear A220
             obtain rfl := Option.some.inj H
             go_wp2_with (first | ((with_reducible refine gate_dst (N := 14) rfl ?_); refine Kd.R_lit (Kd.int .i64) _ 3 ?hg (N := 14) ?hd (xs := ([31, 28, 31, 30, 31, 30, 31, 31, 30, 31, 30, 31] : List Int)) (inner := [.int .i64 31, .int .i64 28, .int .i64 31, .int .i64 30, .int .i64 31, .int .i64 30, .int .i64 31, .int .i64 31, .int .i64 30, .int .i64 31, .int .i64 30, .int .i64 31]) (ok := fun _ => True) (okp := fun _ => True) ?hr ?hp (fun _ hk => hk) trivial (Below.refl _ _) (Nat.le_refl _) (by simp) ?_; (case hd => rfl); (case hg => rfl); (case hr => first | (go_simp; done) | (go_simp; rfl)); (case hp => exact (Reps.one (show Kd.M (Kd.int .i64) _ _ _ 31 [.int .i64 31] from rfl) (Reps.one (show Kd.M (Kd.int .i64) _ _ _ 28 [.int .i64 28] from rfl) (Reps.one (show Kd.M (Kd.int .i64) _ _ _ 31 [.int .i64 31] from rfl) (Reps.one (show Kd.M (Kd.int .i64) _ _ _ 30 [.int .i64 30] from rfl) (Reps.one (show Kd.M (Kd.int .i64) _ _ _ 31 [.int .i64 31] from rfl) (Reps.one (show Kd.M (Kd.int .i64) _ _ _ 30 [.int .i64 30] from rfl) (Reps.one (show Kd.M (Kd.int .i64) _ _ _ 31 [.int .i64 31] from rfl) (Reps.one (show Kd.M (Kd.int .i64) _ _ _ 31 [.int .i64 31] from rfl) (Reps.one (show Kd.M (Kd.int .i64) _ _ _ 30 [.int .i64 30] from rfl) (Reps.one (show Kd.M (Kd.int .i64) _ _ _ 31 [.int .i64 31] from rfl) (Reps.one (show Kd.M (Kd.int .i64) _ _ _ 30 [.int .i64 30] from rfl) (Reps.one (show Kd.M (Kd.int .i64) _ _ _ 31 [.int .i64 31] from rfl) (Reps.none _ _)))))))))))))); intro v144 w23 ho24 hb hg_ hnew_; clear hg_ hnew_; (first | rw [← Ny143.out] at ho24 | (simp only [Int.reduceToNat] at ho24; rw [← Ny143.out] at ho24)); have n0_ := Aside0.mk (Kd.R_lower ho24 (below_size (by repeat (first | (with_reducible first | exact HB.out | apply below_alloc | apply pw_below_drewN | apply below_drew1) | exact HB.out)))); have n1_ := Aside0.mk (below_step (by repeat (first | (with_reducible first | exact HB.out | apply below_alloc | apply pw_below_drewN | apply below_drew1) | exact HB.out)) hb); clear HB; have HO145 := n0_; have HB := n1_; clear n0_ n1_; clear hb ho24; obtain ⟨Ao25, co25, eo25⟩ := Kd.R_slice HO145.out; subst eo25; have p146 : 0 ≤ ((ji8) : Int) := of_decide_eq_true (by first | (with_reducible assumption) | assumption); have q146 : (ji8) < (y143.length : Int) := of_decide_eq_true (by first | (with_reducible assumption) | assumption); obtain ⟨ad146, e146, hx146_0⟩ := Kd.at_int (Kd.R_reads' HO145.out).2.2 (ji8) p146 q146; cases e146; replace p146 := eq_true p146; replace q146 := eq_true q146) | (go_at_call 51; (with_reducible refine (barscanref14_number.calls (a0.extract 0 2) t147 _ A14.out).mono ?_); rintro e w' ⟨rfl, ⟨nd, rfl⟩⟩) | ((with_reducible refine gate_callee (f := 51) rfl ?_); refine goesL_ (some 30) rfl rfl Tryz.func51 (by kernel_rfl) rfl #[.string (a0.extract 4 a0.size)] rfl (by (try simp only [List.map_toArray, List.map_cons, List.map_nil]); first | done | rfl | (simp only [List.length_drop, List.length_take]; rfl)) ?_; (with_reducible refine (barscanref14_number.calls (a0.extract 4 a0.size) t149 _ A22.out).mono ?_); rintro e w' ⟨rfl, ⟨nd, rfl⟩⟩; refine ⟨_, rfl, ?_⟩))
             go_ret
             exact ⟨by first | rfl | (simp [errW_none, errW_some] <;> rfl) | (simp only [← hji8]; first | rfl | (simp [errW_none, errW_some] <;> rfl)) | (simp [*, errW_none, errW_some] <;> rfl), by repeat (first | (with_reducible first | exact HB.out | apply below_alloc | apply pw_below_drewN | apply below_drew1) | exact HB.out)⟩
            ·rw [if_neg c21] at H
             exact absurd H (by simp)
          ·rw [if_neg c13] at H
           exact absurd H (by simp)
         ·rw [if_neg c12] at H
          exact absurd H (by simp)
        ·rw [if_neg c11] at H
         have c11b0 : (t142 == 2) = false := beq_eq_false_iff_ne.mpr c11
         have c11b1 : (t142 != 2) = true := bne_iff_ne.mpr c11
         by_cases c26 : 4 ≤ (a0.size : Int)
         ·rw [if_pos c26] at H
          have c26b0 := eq_true c26
          have c26b1 : decide (4 ≤ (a0.size : Int)) = true := decide_eq_true c26
          clear c26
          replace H := Option.bind_eq_some_iff.mp H
          obtain ⟨t150, A270, H⟩ := H
          replace H : (some (decide (t150 ≤ (rd y143 (ji8))))) = some r := H
          have A27 := Aside0.mk A270
          clear A270
          obtain rfl := Option.some.inj H
          go_wp2_with (first | ((with_reducible refine gate_dst (N := 14) rfl ?_); refine Kd.R_lit (Kd.int .i64) _ 3 ?hg (N := 14) ?hd (xs := ([31, 28, 31, 30, 31, 30, 31, 31, 30, 31, 30, 31] : List Int)) (inner := [.int .i64 31, .int .i64 28, .int .i64 31, .int .i64 30, .int .i64 31, .int .i64 30, .int .i64 31, .int .i64 31, .int .i64 30, .int .i64 31, .int .i64 30, .int .i64 31]) (ok := fun _ => True) (okp := fun _ => True) ?hr ?hp (fun _ hk => hk) trivial (Below.refl _ _) (Nat.le_refl _) (by simp) ?_; (case hd => rfl); (case hg => rfl); (case hr => first | (go_simp; done) | (go_simp; rfl)); (case hp => exact (Reps.one (show Kd.M (Kd.int .i64) _ _ _ 31 [.int .i64 31] from rfl) (Reps.one (show Kd.M (Kd.int .i64) _ _ _ 28 [.int .i64 28] from rfl) (Reps.one (show Kd.M (Kd.int .i64) _ _ _ 31 [.int .i64 31] from rfl) (Reps.one (show Kd.M (Kd.int .i64) _ _ _ 30 [.int .i64 30] from rfl) (Reps.one (show Kd.M (Kd.int .i64) _ _ _ 31 [.int .i64 31] from rfl) (Reps.one (show Kd.M (Kd.int .i64) _ _ _ 30 [.int .i64 30] from rfl) (Reps.one (show Kd.M (Kd.int .i64) _ _ _ 31 [.int .i64 31] from rfl) (Reps.one (show Kd.M (Kd.int .i64) _ _ _ 31 [.int .i64 31] from rfl) (Reps.one (show Kd.M (Kd.int .i64) _ _ _ 30 [.int .i64 30] from rfl) (Reps.one (show Kd.M (Kd.int .i64) _ _ _ 31 [.int .i64 31] from rfl) (Reps.one (show Kd.M (Kd.int .i64) _ _ _ 30 [.int .i64 30] from rfl) (Reps.one (show Kd.M (Kd.int .i64) _ _ _ 31 [.int .i64 31] from rfl) (Reps.none _ _)))))))))))))); intro v144 w28 ho29 hb hg_ hnew_; clear hg_ hnew_; (first | rw [← Ny143.out] at ho29 | (simp only [Int.reduceToNat] at ho29; rw [← Ny143.out] at ho29)); have n0_ := Aside0.mk (Kd.R_lower ho29 (below_size (by repeat (first | (with_reducible first | exact HB.out | apply below_alloc | apply pw_below_drewN | apply below_drew1) | exact HB.out)))); have n1_ := Aside0.mk (below_step (by repeat (first | (with_reducible first | exact HB.out | apply below_alloc | apply pw_below_drewN | apply below_drew1) | exact HB.out)) hb); clear HB; have HO145 := n0_; have HB := n1_; clear n0_ n1_; clear hb ho29; obtain ⟨Ao30, co30, eo30⟩ := Kd.R_slice HO145.out; subst eo30; have p146 : 0 ≤ ((ji8) : Int) := of_decide_eq_true (by first | (with_reducible assumption) | assumption); have q146 : (ji8) < (y143.length : Int) := of_decide_eq_true (by first | (with_reducible assumption) | assumption); obtain ⟨ad146, e146, hx146_0⟩ := Kd.at_int (Kd.R_reads' HO145.out).2.2 (ji8) p146 q146; cases e146; replace p146 := eq_true p146; replace q146 := eq_true q146) | ((with_reducible refine gate_callee (f := 51) rfl ?_); refine goesL_ (some 30) rfl rfl Tryz.func51 (by kernel_rfl) rfl #[.string (a0.extract 4 a0.size)] rfl (by (try simp only [List.map_toArray, List.map_cons, List.map_nil]); first | done | rfl | (simp only [List.length_drop, List.length_take]; rfl)) ?_; (with_reducible refine (barscanref14_number.calls (a0.extract 4 a0.size) t150 _ A27.out).mono ?_); rintro e w' ⟨rfl, ⟨nd, rfl⟩⟩; refine ⟨_, rfl, ?_⟩))
          go_ret
          exact ⟨by first | rfl | (simp [errW_none, errW_some] <;> rfl) | (simp only [← hji8]; first | rfl | (simp [errW_none, errW_some] <;> rfl)) | (simp [*, errW_none, errW_some] <;> rfl), by repeat (first | (with_reducible first | exact HB.out | apply below_alloc | apply pw_below_drewN | apply below_drew1) | exact HB.out)⟩
         ·rw [if_neg c26] at H
          exact absurd H (by simp)
       ·rw [if_neg c10] at H
        exact absurd H (by simp)
      ·rw [if_neg c9] at H
       exact absurd H (by simp)
  ·rw [if_neg c3] at H
   exact absurd H (by simp)
 ·rw [if_neg c2] at H
  exact absurd H (by simp)

end Go.Proofs.YtghlbdemlmbijaaGreatDoor.Q

namespace Go.Proofs.YtghlbdemlmbijaaGreatDoor.Q
open Go.RowKit Go.Proofs.YtghlbdemlmbijaaGreatDoorW.PrintWords Go.Proofs.YtghlbdemlmbijaaGreatDoorW.PrintLast Go.Proofs.YtghlbdemlmbijaaGreatDoorW.PrintMore

set_option linter.unusedVariables false
set_option linter.unusedSimpArgs false

/-! ### barscanref14_checked: function 28 -/
def barscanref14_checked.l0 : Nat → ByteArray → Int → Int → Int → Option (Bool)
 | 0, _, _, _, _ => none
 | k + 1, x0, x3, x4, x5 => if x5 ≥ 0 then (if 0 ≤ x5 then (if x5 < (x0.size : Int) then (barscanref14_checked.l0 k x0 (wrap64 (x3 + (wrap64 (x4 * (((bt x0 x5) - 48) % 256))))) (wrap64 (4 - x4)) (wrap64 (x5 - 1))) else (none)) else (none)) else (some ((Int.tmod x3 10) == 0))
def barscanref14_checked.f (k : Nat) (a0 : ByteArray) : Option (Bool) := barscanref14_checked.l0 k a0 0 1 (wrap64 ((a0.size : Int) - 1))
theorem barscanref14_checked.mono_l : ∀ k, (∀ y0 y1 y2 y3, LeO (barscanref14_checked.l0 k y0 y1 y2 y3) (barscanref14_checked.l0 (k + 1) y0 y1 y2 y3))
 | 0 => fun _ _ _ _ r h => by simp [barscanref14_checked.l0] at h
 | k + 1 => by
  have ih0 := barscanref14_checked.mono_l k
  ·intro y0 y1 y2 y3
   unfold barscanref14_checked.l0
   repeat' first
   | (with_reducible exact ih0 _ _ _ _)
   | (with_reducible exact LeO.refl _)
   | (with_reducible exact LeO.none _)
   | (with_reducible refine LeO.ite ?_ ?_)
   | (with_reducible refine LeO.bind ?_ (fun _ => ?_))
   | exact ih0 _ _ _ _
   | exact LeO.none _
   | refine LeO.ite ?_ ?_
   | refine LeO.bind ?_ (fun _ => ?_)
theorem barscanref14_checked.mono : ∀ a0 k, LeO (barscanref14_checked.f k a0) (barscanref14_checked.f (k + 1) a0) := by
 intro a0 k
 have ih0 := barscanref14_checked.mono_l k
 unfold barscanref14_checked.f
 repeat' first
   | (with_reducible exact ih0 _ _ _ _)
   | (with_reducible exact LeO.refl _)
   | (with_reducible exact LeO.none _)
   | (with_reducible refine LeO.ite ?_ ?_)
   | (with_reducible refine LeO.bind ?_ (fun _ => ?_))
   | exact ih0 _ _ _ _
   | exact LeO.none _
   | refine LeO.ite ?_ ?_
   | refine LeO.bind ?_ (fun _ => ?_)
set_option maxHeartbeats 8000000 in
set_option maxRecDepth 100000 in
theorem barscanref14_checked.calls (k : Nat) (a0 : ByteArray) (r : Bool) (w : World) (h : barscanref14_checked.f k a0 = some r) :
  Calls Tryz.prog 28 #[.string a0] w fun e w' => e = .returned (.bool r) ∧ Drawn0 w w' := by
 have H : (barscanref14_checked.l0 k a0 0 1 (wrap64 ((a0.size : Int) - 1))) = some r := h
 clear h
 have H' := Aside0.mk H
 clear H
 go_enter Tryz.func28, Tryz.ntmps28
 go_wp2
 go_loopg [3, 4, 5] k (fun kq v3 v4 v5 w' => ∃ (x3_1 : Int) (x4_1 : Int) (x5_1 : Int), v3 = .int .i64 x3_1 ∧ v4 = .int .i64 x4_1 ∧ v5 = .int .i64 x5_1 ∧ Aside0 (barscanref14_checked.l0 kq a0 x3_1 x4_1 x5_1 = some r) ∧ Aside0 (kq ≤ k) ∧ Drawn0 w w')
 case atStart => exact ⟨(0), (1), (wrap64 ((a0.size : Int) - 1)), (by first | rfl | (simp; done) | (simp [*]; done)), (by first | rfl | (simp; done) | (simp [*]; done)), (by first | rfl | (simp; done) | (simp [*]; done)), H', ⟨Nat.le_refl _⟩, by repeat (first | exact Drawn0.refl _ | apply Drawn0.step)⟩
 case round =>
  clear H'
  obtain ⟨x3_1, x4_1, x5_1, rfl, rfl, rfl, HA, HK1, ⟨m1, rfl⟩⟩ := hrel
  cases gk with
  | zero => exact absurd HA.out (by simp [barscanref14_checked.l0])
  | succ k1 =>
   have H := HA.out
   clear HA
   simp only [barscanref14_checked.l0] at H
   by_cases c2 : x5_1 ≥ 0
   ·rw [if_pos c2] at H
    have c2b0 : decide (0 ≤ x5_1) = true := decide_eq_true c2
    clear c2
    by_cases c3 : 0 ≤ x5_1
    ·rw [if_pos c3] at H
     have c3b0 : decide (0 ≤ x5_1) = true := decide_eq_true c3
     clear c3
     by_cases c4 : x5_1 < (a0.size : Int)
     ·rw [if_pos c4] at H
      have c4b0 : decide (x5_1 < (a0.size : Int)) = true := decide_eq_true c4
      clear c4
      have H' := Aside0.mk H
      clear H
      have p5 : 0 ≤ (x5_1 : Int) := of_decide_eq_true (by first | (with_reducible assumption) | assumption)
      have q5 : x5_1 < (a0.size : Int) := of_decide_eq_true (by first | (with_reducible assumption) | assumption)
      have hx5 := bt_at a0 x5_1
      replace p5 := eq_true p5
      replace q5 := eq_true q5
      go_wp2
      go_roundg k1
      case measure => have := HK1.out; omega
      case rel => exact ⟨(wrap64 (x3_1 + (wrap64 (x4_1 * (((bt a0 x5_1) - 48) % 256))))), (wrap64 (4 - x4_1)), (wrap64 (x5_1 - 1)), (by first | rfl | (simp; done) | (simp [*]; done)), (by first | rfl | (simp; done) | (simp [*]; done)), (by first | rfl | (simp; done) | (simp [*]; done)), H', ⟨by have := HK1.out; omega⟩, by repeat (first | exact Drawn0.refl _ | apply Drawn0.step)⟩
     ·rw [if_neg c4] at H
      exact absurd H (by simp)
    ·rw [if_neg c3] at H
     exact absurd H (by simp)
   ·rw [if_neg c2] at H
    have c2b0 : decide (0 ≤ x5_1) = false := decide_eq_false c2
    clear c2
    obtain rfl := Option.some.inj H
    go_wp2
    go_ret
    exact ⟨by first | rfl | (simp; done) | (simp [*]; done), by repeat (first | exact Drawn0.refl _ | apply Drawn0.step)⟩

end Go.Proofs.YtghlbdemlmbijaaGreatDoor.Q

namespace Go.Proofs.YtghlbdemlmbijaaGreatDoor.Q
open Go.RowKit Go.Proofs.YtghlbdemlmbijaaGreatDoorW.PrintWords Go.Proofs.YtghlbdemlmbijaaGreatDoorW.PrintLast Go.Proofs.YtghlbdemlmbijaaGreatDoorW.PrintMore

set_option linter.unusedVariables false
set_option linter.unusedSimpArgs false

/-! ### barscanref14_Verify: function 10 -/
mutual
def barscanref14_Verify.j0 : Nat → Int → Int → Bool → ByteArray → ByteArray → Option (Int)
 | 0, _, _, _, _, _ => none
 | k + 1, x3, x5, x37, x152000, x152001 => if x37 = true then (some 7) else (barscanref14_Verify.l0 k x3 x5 0 x152000 x152001)
def barscanref14_Verify.l0 : Nat → Int → Int → Int → ByteArray → ByteArray → Option (Int)
 | 0, _, _, _, _, _ => none
 | k + 1, x3, x5, x6, x152000, x152001 => if x6 < x5 then (if x3 = 5 then (if 0 ≤ x6 then (if x6 < (x152001.size : Int) then ((barscanref14_character.f k (bt x152001 x6)).bind fun t154 => (if t154 = true then (barscanref14_Verify.l0 k x3 x5 (wrap64 (x6 + 1)) x152000 x152001) else (some 6))) else (none)) else (none)) else (if 0 ≤ x6 then (if x6 < (x152001.size : Int) then ((barscanref14_digit.f (bt x152001 x6)).bind fun t155 => (if t155 = true then (barscanref14_Verify.l0 k x3 x5 (wrap64 (x6 + 1)) x152000 x152001) else (some 6))) else (none)) else (none))) else (if x3 = 3 then ((barscanref14_date.f k x152001).bind fun t156 => (barscanref14_Verify.j2 k x3 (!t156) x152000 x152001)) else (barscanref14_Verify.j2 k x3 false x152000 x152001))
def barscanref14_Verify.j2 : Nat → Int → Bool → ByteArray → ByteArray → Option (Int)
 | 0, _, _, _, _ => none
 | k + 1, x3, x72, x152000, x152001 => if x72 = true then (some 9) else (if x3 = 2 then ((barscanref14_checked.f k x152001).bind fun t157 => (if t157 = true then (some 0) else (some 8))) else (some 0))
end
def barscanref14_Verify.f (k : Nat) (a0_0 : ByteArray) (a0_1 : ByteArray) : Option (Int) := (barscanref14_table.f k a0_0).bind fun bt152 => (if bt152.1 = 0 then (some 29) else (if (a0_1.size : Int) > bt152.2 then (barscanref14_Verify.j0 k bt152.1 (a0_1.size : Int) true a0_0 a0_1) else (if (a0_1.size : Int) = 0 then (barscanref14_Verify.j0 k bt152.1 (a0_1.size : Int) true a0_0 a0_1) else (if (a0_1.size : Int) = bt152.2 then (barscanref14_Verify.j0 k bt152.1 (a0_1.size : Int) false a0_0 a0_1) else (if bt152.1 = 4 then (barscanref14_Verify.j0 k bt152.1 (a0_1.size : Int) false a0_0 a0_1) else (barscanref14_Verify.j0 k bt152.1 (a0_1.size : Int) (bt152.1 != 5) a0_0 a0_1))))))
theorem barscanref14_Verify.mono_l : ∀ k, (∀ y0 y1 y2 y3 y4, LeO (barscanref14_Verify.j0 k y0 y1 y2 y3 y4) (barscanref14_Verify.j0 (k + 1) y0 y1 y2 y3 y4)) ∧ (∀ y0 y1 y2 y3 y4, LeO (barscanref14_Verify.l0 k y0 y1 y2 y3 y4) (barscanref14_Verify.l0 (k + 1) y0 y1 y2 y3 y4)) ∧ (∀ y0 y1 y2 y3, LeO (barscanref14_Verify.j2 k y0 y1 y2 y3) (barscanref14_Verify.j2 (k + 1) y0 y1 y2 y3))
 | 0 => ⟨fun _ _ _ _ _ r h => by simp [barscanref14_Verify.j0] at h, fun _ _ _ _ _ r h => by simp [barscanref14_Verify.l0] at h, fun _ _ _ _ r h => by simp [barscanref14_Verify.j2] at h⟩
 | k + 1 => by
  obtain ⟨ih0, ih1, ih2⟩ := barscanref14_Verify.mono_l k
  refine ⟨?_, ?_, ?_⟩
  ·intro y0 y1 y2 y3 y4
   unfold barscanref14_Verify.j0
   repeat' first
   | (with_reducible exact ih0 _ _ _ _ _)
   | (with_reducible exact ih1 _ _ _ _ _)
   | (with_reducible exact ih2 _ _ _ _)
   | (with_reducible exact barscanref14_character.mono _ _)
   | (with_reducible exact barscanref14_checked.mono _ _)
   | (with_reducible exact barscanref14_date.mono _ _)
   | (with_reducible exact barscanref14_table.mono _ _)
   | (with_reducible exact LeO.refl _)
   | (with_reducible exact LeO.none _)
   | (with_reducible refine LeO.ite ?_ ?_)
   | (with_reducible refine LeO.bind ?_ (fun _ => ?_))
   | exact ih0 _ _ _ _ _
   | exact ih1 _ _ _ _ _
   | exact ih2 _ _ _ _
   | exact barscanref14_character.mono _ _
   | exact barscanref14_checked.mono _ _
   | exact barscanref14_date.mono _ _
   | exact barscanref14_table.mono _ _
   | exact LeO.none _
   | refine LeO.ite ?_ ?_
   | refine LeO.bind ?_ (fun _ => ?_)
  ·intro y0 y1 y2 y3 y4
   unfold barscanref14_Verify.l0
   repeat' first
   | (with_reducible exact ih0 _ _ _ _ _)
   | (with_reducible exact ih1 _ _ _ _ _)
   | (with_reducible exact ih2 _ _ _ _)
   | (with_reducible exact barscanref14_character.mono _ _)
   | (with_reducible exact barscanref14_checked.mono _ _)
   | (with_reducible exact barscanref14_date.mono _ _)
   | (with_reducible exact barscanref14_table.mono _ _)
   | (with_reducible exact LeO.refl _)
   | (with_reducible exact LeO.none _)
   | (with_reducible refine LeO.ite ?_ ?_)
   | (with_reducible refine LeO.bind ?_ (fun _ => ?_))
   | exact ih0 _ _ _ _ _
   | exact ih1 _ _ _ _ _
   | exact ih2 _ _ _ _
   | exact barscanref14_character.mono _ _
   | exact barscanref14_checked.mono _ _
   | exact barscanref14_date.mono _ _
   | exact barscanref14_table.mono _ _
   | exact LeO.none _
   | refine LeO.ite ?_ ?_
   | refine LeO.bind ?_ (fun _ => ?_)
  ·intro y0 y1 y2 y3
   unfold barscanref14_Verify.j2
   repeat' first
   | (with_reducible exact ih0 _ _ _ _ _)
   | (with_reducible exact ih1 _ _ _ _ _)
   | (with_reducible exact ih2 _ _ _ _)
   | (with_reducible exact barscanref14_character.mono _ _)
   | (with_reducible exact barscanref14_checked.mono _ _)
   | (with_reducible exact barscanref14_date.mono _ _)
   | (with_reducible exact barscanref14_table.mono _ _)
   | (with_reducible exact LeO.refl _)
   | (with_reducible exact LeO.none _)
   | (with_reducible refine LeO.ite ?_ ?_)
   | (with_reducible refine LeO.bind ?_ (fun _ => ?_))
   | exact ih0 _ _ _ _ _
   | exact ih1 _ _ _ _ _
   | exact ih2 _ _ _ _
   | exact barscanref14_character.mono _ _
   | exact barscanref14_checked.mono _ _
   | exact barscanref14_date.mono _ _
   | exact barscanref14_table.mono _ _
   | exact LeO.none _
   | refine LeO.ite ?_ ?_
   | refine LeO.bind ?_ (fun _ => ?_)
theorem barscanref14_Verify.mono : ∀ a0 a1 k, LeO (barscanref14_Verify.f k a0 a1) (barscanref14_Verify.f (k + 1) a0 a1) := by
 intro a0 a1 k
 obtain ⟨ih0, ih1, ih2⟩ := barscanref14_Verify.mono_l k
 unfold barscanref14_Verify.f
 repeat' first
   | (with_reducible exact ih0 _ _ _ _ _)
   | (with_reducible exact ih1 _ _ _ _ _)
   | (with_reducible exact ih2 _ _ _ _)
   | (with_reducible exact barscanref14_character.mono _ _)
   | (with_reducible exact barscanref14_checked.mono _ _)
   | (with_reducible exact barscanref14_date.mono _ _)
   | (with_reducible exact barscanref14_table.mono _ _)
   | (with_reducible exact LeO.refl _)
   | (with_reducible exact LeO.none _)
   | (with_reducible refine LeO.ite ?_ ?_)
   | (with_reducible refine LeO.bind ?_ (fun _ => ?_))
   | exact ih0 _ _ _ _ _
   | exact ih1 _ _ _ _ _
   | exact ih2 _ _ _ _
   | exact barscanref14_character.mono _ _
   | exact barscanref14_checked.mono _ _
   | exact barscanref14_date.mono _ _
   | exact barscanref14_table.mono _ _
   | exact LeO.none _
   | refine LeO.ite ?_ ?_
   | refine LeO.bind ?_ (fun _ => ?_)
set_option maxHeartbeats 8000000 in
set_option maxRecDepth 100000 in
theorem barscanref14_Verify.calls (k : Nat) (a0_0 : ByteArray) (a0_1 : ByteArray) (r : Int) (w : World) (h : barscanref14_Verify.f k a0_0 a0_1 = some r) :
  Calls Tryz.prog 10 #[.agg #[.string a0_0, .string a0_1]] w fun e w' => e = .returned (.int .i64 r) ∧ Below w.heap.size w w' := by
 have hu23 := Tryz.underlying23
 have HB := Aside0.mk (Below.refl w.heap.size w)
 have H : ((barscanref14_table.f k a0_0).bind fun bt152 => (if bt152.1 = 0 then (some 29) else (if (a0_1.size : Int) > bt152.2 then (barscanref14_Verify.j0 k bt152.1 (a0_1.size : Int) true a0_0 a0_1) else (if (a0_1.size : Int) = 0 then (barscanref14_Verify.j0 k bt152.1 (a0_1.size : Int) true a0_0 a0_1) else (if (a0_1.size : Int) = bt152.2 then (barscanref14_Verify.j0 k bt152.1 (a0_1.size : Int) false a0_0 a0_1) else (if bt152.1 = 4 then (barscanref14_Verify.j0 k bt152.1 (a0_1.size : Int) false a0_0 a0_1) else (barscanref14_Verify.j0 k bt152.1 (a0_1.size : Int) (bt152.1 != 5) a0_0 a0_1))))))) = some r := h
 clear h
 replace H := Option.bind_eq_some_iff.mp H
 obtain ⟨⟨t152, t153⟩, A20, H⟩ := H
 replace H : (if t152 = 0 then (some 29) else (if (a0_1.size : Int) > t153 then (barscanref14_Verify.j0 k t152 (a0_1.size : Int) true a0_0 a0_1) else (if (a0_1.size : Int) = 0 then (barscanref14_Verify.j0 k t152 (a0_1.size : Int) true a0_0 a0_1) else (if (a0_1.size : Int) = t153 then (barscanref14_Verify.j0 k t152 (a0_1.size : Int) false a0_0 a0_1) else (if t152 = 4 then (barscanref14_Verify.j0 k t152 (a0_1.size : Int) false a0_0 a0_1) else (barscanref14_Verify.j0 k t152 (a0_1.size : Int) (t152 != 5) a0_0 a0_1)))))) = some r := H
 have A2 := Aside0.mk A20
 clear A20
 by_cases c3 : t152 = 0
 ·rw [if_pos c3] at H
  have c3b0 : (t152 == 0) = true := beq_iff_eq.mpr c3
  have c3b1 : (t152 != 0) = false := bne_eq_false_iff_eq.mpr c3
  clear c3
  obtain rfl := Option.some.inj H
  go_enter Tryz.func10, Tryz.ntmps10
  go_wp2_with (first | ((with_reducible refine gate_dst (N := 1) rfl ?_); refine box_event ?hg (N := 1) ?hd (cs := #[.string a0_0, .string a0_1]) (t := 23) ?hr ?_; (case hd => rfl); (case hg => rfl); (case hr => first | (go_simp; done) | (go_simp; rfl)); intro gb151 hg w4 hbox hb; have n0_ := Aside0.mk (below_step (by repeat (first | (with_reducible first | exact HB.out | apply below_alloc | apply pw_below_drewN | apply below_drew1) | exact HB.out)) hb); have n1_ := Aside0.mk (hbox); have n2_ := Aside0.mk ((by rw [hg]; exact (below_size (by repeat (first | (with_reducible first | exact HB.out | apply below_alloc | apply pw_below_drewN | apply below_drew1) | exact HB.out))) : w.heap.size ≤ gb151)); have n3_ := Aside0.mk ((by rw [hg]; exact (below_size (by repeat (first | (with_reducible first | exact HB.out | apply below_alloc | apply pw_below_drewN | apply below_drew1) | exact HB.out))) : w.heap.size ≤ gb151)); clear HB; have HB := n0_; have BK151 := n1_; have GW151 := n2_; have GE151 := n3_; clear n0_ n1_ n2_ n3_; clear hb hbox hg; have hcz5_0 : w4.cell? ⟨gb151, 0, none⟩ = some (.string a0_0) := (blk_cell BK151.out 0).trans rfl; have hcz5_1 : w4.cell? ⟨gb151, 1, none⟩ = some (.string a0_1) := (blk_cell BK151.out 1).trans rfl; have hfz5_0 := blk_frozen BK151.out 0; have hfz5_1 := blk_frozen BK151.out 1) | ((with_reducible refine gate_callee (f := 23) rfl ?_); refine goesL_ (some 10) rfl rfl Tryz.func23 (by kernel_rfl) rfl #[.string a0_0] rfl (by (try simp only [List.map_toArray, List.map_cons, List.map_nil]); first | done | rfl | (simp only [List.length_drop, List.length_take]; rfl)) ?_; (with_reducible refine (barscanref14_table.calls k a0_0 t152 t153 _ A2.out).mono ?_); rintro e w' ⟨rfl, ⟨nd, rfl⟩⟩; refine ⟨_, rfl, ?_⟩))
  go_ret
  exact ⟨by first | rfl | (simp [errW_none, errW_some] <;> rfl) | (simp [*, errW_none, errW_some] <;> rfl), by repeat (first | (with_reducible first | exact HB.out | apply below_alloc | apply pw_below_drewN | apply below_drew1 | refine below_set ?_ GE151.out) | exact HB.out)⟩
 ·rw [if_neg c3] at H
  have c3b0 : (t152 == 0) = false := beq_eq_false_iff_ne.mpr c3
  have c3b1 : (t152 != 0) = true := bne_iff_ne.mpr c3
  have HC6 := Aside0.mk H
  clear H
  go_enter Tryz.func10, Tryz.ntmps10
  go_upto_region 5 with (first | ((with_reducible refine gate_dst (N := 1) rfl ?_); refine box_event ?hg (N := 1) ?hd (cs := #[.string a0_0, .string a0_1]) (t := 23) ?hr ?_; (case hd => rfl); (case hg => rfl); (case hr => first | (go_simp; done) | (go_simp; rfl)); intro gb151 hg w7 hbox hb; have n0_ := Aside0.mk (below_step (by repeat (first | (with_reducible first | exact HB.out | apply below_alloc | apply pw_below_drewN | apply below_drew1) | exact HB.out)) hb); have n1_ := Aside0.mk (hbox); have n2_ := Aside0.mk ((by rw [hg]; exact (below_size (by repeat (first | (with_reducible first | exact HB.out | apply below_alloc | apply pw_below_drewN | apply below_drew1) | exact HB.out))) : w.heap.size ≤ gb151)); have n3_ := Aside0.mk ((by rw [hg]; exact (below_size (by repeat (first | (with_reducible first | exact HB.out | apply below_alloc | apply pw_below_drewN | apply below_drew1) | exact HB.out))) : w.heap.size ≤ gb151)); clear HB; have HB := n0_; have BK151 := n1_; have GW151 := n2_; have GE151 := n3_; clear n0_ n1_ n2_ n3_; clear hb hbox hg; have hcz8_0 : w7.cell? ⟨gb151, 0, none⟩ = some (.string a0_0) := (blk_cell BK151.out 0).trans rfl; have hcz8_1 : w7.cell? ⟨gb151, 1, none⟩ = some (.string a0_1) := (blk_cell BK151.out 1).trans rfl; have hfz8_0 := blk_frozen BK151.out 0; have hfz8_1 := blk_frozen BK151.out 1) | ((with_reducible refine gate_callee (f := 23) rfl ?_); refine goesL_ (some 10) rfl rfl Tryz.func23 (by kernel_rfl) rfl #[.string a0_0] rfl (by (try simp only [List.map_toArray, List.map_cons, List.map_nil]); first | done | rfl | (simp only [List.length_drop, List.length_take]; rfl)) ?_; (with_reducible refine (barscanref14_table.calls k a0_0 t152 t153 _ A2.out).mono ?_); rintro e w' ⟨rfl, ⟨nd, rfl⟩⟩; refine ⟨_, rfl, ?_⟩))
  (try simp only [Act.put, List.setIfInBounds_toArray, List.set_cons_zero, List.set_cons_succ])
  go_cut [37] (fun v37 wc => ∃ (kq : Nat) (x37_5 : Bool), v37 = .bool x37_5 ∧ Aside0 (barscanref14_Verify.j0 kq t152 (a0_1.size : Int) x37_5 a0_0 a0_1 = some r) ∧ Aside0 (kq ≤ k) ∧ Aside0 (wc.heap[gb151]? = some (.cells #[.string a0_0, .string a0_1] 23 (0, 0))) ∧ Aside0 (Below w.heap.size w wc))
  case first =>
   have H := HC6.out
   clear HC6
   by_cases c9 : (a0_1.size : Int) > t153
   ·rw [if_pos c9] at H
    have c9b0 : decide (t153 < (a0_1.size : Int)) = true := decide_eq_true c9
    clear c9
    (first | rw [c9b0] | (simp only [i64_w]; rw [c9b0]) | skip)
    have H' := Aside0.mk H
    clear H
    go_wp2
    go_meet
    case rel => exact ⟨_, (true), (by first | rfl | (simp; done) | (simp [*]; done)), H', ⟨by first | omega | exact Nat.le_refl _⟩, ⟨by (with_reducible repeat (first | refine blk_drewN ?_ _ | refine blk_drew ?_ | refine blk_alloc ?_ _)); exact BK151.out⟩, ⟨by repeat (first | (with_reducible first | exact HB.out | apply below_alloc | apply pw_below_drewN | apply below_drew1 | refine below_set ?_ GE151.out) | exact HB.out)⟩⟩
   ·rw [if_neg c9] at H
    have c9b0 : decide (t153 < (a0_1.size : Int)) = false := decide_eq_false c9
    clear c9
    (first | rw [c9b0] | (simp only [i64_w]; rw [c9b0]) | skip)
    by_cases c10 : (a0_1.size : Int) = 0
    ·rw [if_pos c10] at H
     have c10b0 : ((a0_1.size : Int) == 0) = true := beq_iff_eq.mpr c10
     have c10b1 : ((a0_1.size : Int) != 0) = false := bne_eq_false_iff_eq.mpr c10
     clear c10
     have H' := Aside0.mk H
     clear H
     go_wp2
     go_meet
     case rel => exact ⟨_, (true), (by first | rfl | (simp; done) | (simp [*]; done)), H', ⟨by first | omega | exact Nat.le_refl _⟩, ⟨by (with_reducible repeat (first | refine blk_drewN ?_ _ | refine blk_drew ?_ | refine blk_alloc ?_ _)); exact BK151.out⟩, ⟨by repeat (first | (with_reducible first | exact HB.out | apply below_alloc | apply pw_below_drewN | apply below_drew1 | refine below_set ?_ GE151.out) | exact HB.out)⟩⟩
    ·rw [if_neg c10] at H
     have c10b0 : ((a0_1.size : Int) == 0) = false := beq_eq_false_iff_ne.mpr c10
     have c10b1 : ((a0_1.size : Int) != 0) = true := bne_iff_ne.mpr c10
     by_cases c11 : (a0_1.size : Int) = t153
     ·rw [if_pos c11] at H
      have c11b0 : ((a0_1.size : Int) == t153) = true := beq_iff_eq.mpr c11
      have c11b1 : ((a0_1.size : Int) != t153) = false := bne_eq_false_iff_eq.mpr c11
      clear c11
      have H' := Aside0.mk H
      clear H
      go_wp2
      go_meet
      case rel => exact ⟨_, (false), (by first | rfl | (simp; done) | (simp [*]; done)), H', ⟨by first | omega | exact Nat.le_refl _⟩, ⟨by (with_reducible repeat (first | refine blk_drewN ?_ _ | refine blk_drew ?_ | refine blk_alloc ?_ _)); exact BK151.out⟩, ⟨by repeat (first | (with_reducible first | exact HB.out | apply below_alloc | apply pw_below_drewN | apply below_drew1 | refine below_set ?_ GE151.out) | exact HB.out)⟩⟩
     ·rw [if_neg c11] at H
      have c11b0 : ((a0_1.size : Int) == t153) = false := beq_eq_false_iff_ne.mpr c11
      have c11b1 : ((a0_1.size : Int) != t153) = true := bne_iff_ne.mpr c11
      by_cases c12 : t152 = 4
      ·rw [if_pos c12] at H
       have c12b0 : (t152 == 4) = true := beq_iff_eq.mpr c12
       have c12b1 : (t152 != 4) = false := bne_eq_false_iff_eq.mpr c12
       clear c12
       have H' := Aside0.mk H
       clear H
       go_wp2
       go_meet
       case rel => exact ⟨_, (false), (by first | rfl | (simp; done) | (simp [*]; done)), H', ⟨by first | omega | exact Nat.le_refl _⟩, ⟨by (with_reducible repeat (first | refine blk_drewN ?_ _ | refine blk_drew ?_ | refine blk_alloc ?_ _)); exact BK151.out⟩, ⟨by repeat (first | (with_reducible first | exact HB.out | apply below_alloc | apply pw_below_drewN | apply below_drew1 | refine below_set ?_ GE151.out) | exact HB.out)⟩⟩
      ·rw [if_neg c12] at H
       have c12b0 : (t152 == 4) = false := beq_eq_false_iff_ne.mpr c12
       have c12b1 : (t152 != 4) = true := bne_iff_ne.mpr c12
       have H' := Aside0.mk H
       clear H
       go_wp2
       go_meet
       case rel => exact ⟨_, ((t152 != 5)), (by first | rfl | (simp; done) | (simp [*]; done)), H', ⟨by first | omega | exact Nat.le_refl _⟩, ⟨by (with_reducible repeat (first | refine blk_drewN ?_ _ | refine blk_drew ?_ | refine blk_alloc ?_ _)); exact BK151.out⟩, ⟨by repeat (first | (with_reducible first | exact HB.out | apply below_alloc | apply pw_below_drewN | apply below_drew1 | refine below_set ?_ GE151.out) | exact HB.out)⟩⟩
  case rest =>
   clear HC6
   obtain ⟨kq, x37_5, rfl, HA, HJ5, BK151, HB⟩ := hcut
   cases kq with
   | zero => exact absurd HA.out (by simp [barscanref14_Verify.j0])
   | succ kj5 =>
    have H := HA.out
    clear HA
    simp only [barscanref14_Verify.j0] at H
    by_cases c13 : x37_5 = true
    ·subst c13
     have H1 : (some 7) = some r := by rw [if_pos rfl] at H; exact H
     clear H
     have H := H1
     clear H1
     obtain rfl := Option.some.inj H
     go_wp2
     go_ret
     exact ⟨by first | rfl | (simp [errW_none, errW_some] <;> rfl) | (simp [*, errW_none, errW_some] <;> rfl), by repeat (first | (with_reducible first | exact HB.out | apply below_alloc | apply pw_below_drewN | apply below_drew1 | refine below_set ?_ GE151.out) | exact HB.out)⟩
    ·replace c13 := Bool.eq_false_iff.mpr c13
     subst c13
     have H1 : (barscanref14_Verify.l0 kj5 t152 (a0_1.size : Int) 0 a0_0 a0_1) = some r := by rw [if_neg (show ¬ (false = true) by decide)] at H; exact H
     clear H
     have H := H1
     clear H1
     have H' := Aside0.mk H
     clear H
     go_wp2
     go_loopg [6] kj5 (fun kq v6 w' => ∃ (x6_2 : Int), v6 = .int .i64 x6_2 ∧ Aside0 (barscanref14_Verify.l0 kq t152 (a0_1.size : Int) x6_2 a0_0 a0_1 = some r) ∧ Aside0 (kq ≤ kj5) ∧ Aside0 (w'.heap[gb151]? = some (.cells #[.string a0_0, .string a0_1] 23 (0, 0))) ∧ Aside0 (Below w.heap.size w w'))
     case atStart => exact ⟨(0), (by first | rfl | (simp; done) | (simp [*]; done)), H', ⟨Nat.le_refl _⟩, ⟨by (with_reducible repeat (first | refine blk_drewN ?_ _ | refine blk_drew ?_ | refine blk_alloc ?_ _)); exact BK151.out⟩, ⟨by repeat (first | (with_reducible first | exact HB.out | apply below_alloc | apply pw_below_drewN | apply below_drew1 | refine below_set ?_ GE151.out) | exact HB.out)⟩⟩
     case round =>
      clear H'
      obtain ⟨x6_2, rfl, HA, HK2, BK151, HB⟩ := hrel
      cases gk with
      | zero => exact absurd HA.out (by simp [barscanref14_Verify.l0])
      | succ k2 =>
       have H := HA.out
       clear HA
       simp only [barscanref14_Verify.l0] at H
       by_cases c14 : x6_2 < (a0_1.size : Int)
       ·rw [if_pos c14] at H
        have c14b0 : decide (x6_2 < (a0_1.size : Int)) = true := decide_eq_true c14
        clear c14
        by_cases c15 : t152 = 5
        ·rw [if_pos c15] at H
         have c15b0 : (t152 == 5) = true := beq_iff_eq.mpr c15
         have c15b1 : (t152 != 5) = false := bne_eq_false_iff_eq.mpr c15
         clear c15
         by_cases c16 : 0 ≤ x6_2
         ·rw [if_pos c16] at H
          have c16b0 : decide (0 ≤ x6_2) = true := decide_eq_true c16
          clear c16
          by_cases c17 : x6_2 < (a0_1.size : Int)
          ·rw [if_pos c17] at H
           have c17b0 : decide (x6_2 < (a0_1.size : Int)) = true := decide_eq_true c17
           clear c17
           replace H := Option.bind_eq_some_iff.mp H
           obtain ⟨t154, A190, H⟩ := H
           replace H : (if t154 = true then (barscanref14_Verify.l0 k2 t152 (a0_1.size : Int) (wrap64 (x6_2 + 1)) a0_0 a0_1) else (some 6)) = some r := H
           have A19 := Aside0.mk A190
           clear A190
           by_cases c20 : t154 = true
           ·subst c20
            have H1 : (barscanref14_Verify.l0 k2 t152 (a0_1.size : Int) (wrap64 (x6_2 + 1)) a0_0 a0_1) = some r := by rw [if_pos rfl] at H; exact H
            clear H
            have H := H1
            clear H1
            have H' := Aside0.mk H
            clear H
            have hcz21_0 : wr.cell? ⟨gb151, 0, none⟩ = some (.string a0_0) := (blk_cell BK151.out 0).trans rfl
            have hcz21_1 : wr.cell? ⟨gb151, 1, none⟩ = some (.string a0_1) := (blk_cell BK151.out 1).trans rfl
            have hfz21_0 := blk_frozen BK151.out 0
            have hfz21_1 := blk_frozen BK151.out 1
            have p18 : 0 ≤ (x6_2 : Int) := of_decide_eq_true (by first | (with_reducible assumption) | assumption)
            have q18 : x6_2 < (a0_1.size : Int) := of_decide_eq_true (by first | (with_reducible assumption) | assumption)
            have hx18 := bt_at a0_1 x6_2
            replace p18 := eq_true p18
            replace q18 := eq_true q18
            go_wp2_with (first | (go_at_call 25; (with_reducible refine (barscanref14_character.calls k2 (bt a0_1 x6_2) true _ A19.out).mono ?_); rintro e w' ⟨rfl, ⟨nd, rfl⟩⟩))
            go_roundg k2
            case measure => have := HJ5.out; have := HK2.out; omega
            case rel => exact ⟨(wrap64 (x6_2 + 1)), (by first | rfl | (simp; done) | (simp [*]; done)), H', ⟨by have := HJ5.out; have := HK2.out; omega⟩, ⟨by (with_reducible repeat (first | refine blk_drewN ?_ _ | refine blk_drew ?_ | refine blk_alloc ?_ _)); exact BK151.out⟩, ⟨by repeat (first | (with_reducible first | exact HB.out | apply below_alloc | apply pw_below_drewN | apply below_drew1 | refine below_set ?_ GE151.out) | exact HB.out)⟩⟩
           ·replace c20 := Bool.eq_false_iff.mpr c20
            subst c20
            have H1 : (some 6) = some r := by rw [if_neg (show ¬ (false = true) by decide)] at H; exact H
            clear H
            have H := H1
            clear H1
            obtain rfl := Option.some.inj H
            have hcz22_0 : wr.cell? ⟨gb151, 0, none⟩ = some (.string a0_0) := (blk_cell BK151.out 0).trans rfl
            have hcz22_1 : wr.cell? ⟨gb151, 1, none⟩ = some (.string a0_1) := (blk_cell BK151.out 1).trans rfl
            have hfz22_0 := blk_frozen BK151.out 0
            have hfz22_1 := blk_frozen BK151.out 1
            have p18 : 0 ≤ (x6_2 : Int) := of_decide_eq_true (by first | (with_reducible assumption) | assumption)
            have q18 : x6_2 < (a0_1.size : Int) := of_decide_eq_true (by first | (with_reducible assumption) | assumption)
            have hx18 := bt_at a0_1 x6_2
            replace p18 := eq_true p18
            replace q18 := eq_true q18
            go_wp2_with (first | (go_at_call 25; (with_reducible refine (barscanref14_character.calls k2 (bt a0_1 x6_2) false _ A19.out).mono ?_); rintro e w' ⟨rfl, ⟨nd, rfl⟩⟩))
            go_ret
            exact ⟨by first | rfl | (simp [errW_none, errW_some] <;> rfl) | (simp [*, errW_none, errW_some] <;> rfl), by repeat (first | (with_reducible first | exact HB.out | apply below_alloc | apply pw_below_drewN | apply below_drew1 | refine below_set ?_ GE151.out) | exact HB.out)⟩
          ·rw [if_neg c17] at H
           exact absurd H (by simp)
         ·rw [if_neg c16] at H
          exact absurd H (by simp)
        ·rw [if_neg c15] at H
         have c15b0 : (t152 == 5) = false := beq_eq_false_iff_ne.mpr c15
         have c15b1 : (t152 != 5) = true := bne_iff_ne.mpr c15
         by_cases c23 : 0 ≤ x6_2
         ·rw [if_pos c23] at H
          have c23b0 : decide (0 ≤ x6_2) = true := decide_eq_true c23
          clear c23
          by_cases c24 : x6_2 < (a0_1.size : Int)
          ·rw [if_pos c24] at H
           have c24b0 : decide (x6_2 < (a0_1.size : Int)) = true := decide_eq_true c24
           clear c24
           replace H := Option.bind_eq_some_iff.mp H
           obtain ⟨t155, A260, H⟩ := H
           replace H : (if t155 = true then (barscanref14_Verify.l0 k2 t152 (a0_1.size : Int) (wrap64 (x6_2 + 1)) a0_0 a0_1) else (some 6)) = some r := H
           have A26 := Aside0.mk A260
           clear A260
           by_cases c27 : t155 = true
           ·subst c27
            have H1 : (barscanref14_Verify.l0 k2 t152 (a0_1.size : Int) (wrap64 (x6_2 + 1)) a0_0 a0_1) = some r := by rw [if_pos rfl] at H; exact H
            clear H
            have H := H1
            clear H1
            have H' := Aside0.mk H
            clear H
            have hcz28_0 : wr.cell? ⟨gb151, 0, none⟩ = some (.string a0_0) := (blk_cell BK151.out 0).trans rfl
            have hcz28_1 : wr.cell? ⟨gb151, 1, none⟩ = some (.string a0_1) := (blk_cell BK151.out 1).trans rfl
            have hfz28_0 := blk_frozen BK151.out 0
            have hfz28_1 := blk_frozen BK151.out 1
            have p25 : 0 ≤ (x6_2 : Int) := of_decide_eq_true (by first | (with_reducible assumption) | assumption)
            have q25 : x6_2 < (a0_1.size : Int) := of_decide_eq_true (by first | (with_reducible assumption) | assumption)
            have hx25 := bt_at a0_1 x6_2
            replace p25 := eq_true p25
            replace q25 := eq_true q25
            go_wp2_with (first | (go_at_call 26; (with_reducible refine (barscanref14_digit.calls (bt a0_1 x6_2) true _ A26.out).mono ?_); rintro e w' ⟨rfl, ⟨nd, rfl⟩⟩))
            go_roundg k2
            case measure => have := HJ5.out; have := HK2.out; omega
            case rel => exact ⟨(wrap64 (x6_2 + 1)), (by first | rfl | (simp; done) | (simp [*]; done)), H', ⟨by have := HJ5.out; have := HK2.out; omega⟩, ⟨by (with_reducible repeat (first | refine blk_drewN ?_ _ | refine blk_drew ?_ | refine blk_alloc ?_ _)); exact BK151.out⟩, ⟨by repeat (first | (with_reducible first | exact HB.out | apply below_alloc | apply pw_below_drewN | apply below_drew1 | refine below_set ?_ GE151.out) | exact HB.out)⟩⟩
           ·replace c27 := Bool.eq_false_iff.mpr c27
            subst c27
            have H1 : (some 6) = some r := by rw [if_neg (show ¬ (false = true) by decide)] at H; exact H
            clear H
            have H := H1
            clear H1
            obtain rfl := Option.some.inj H
            have hcz29_0 : wr.cell? ⟨gb151, 0, none⟩ = some (.string a0_0) := (blk_cell BK151.out 0).trans rfl
            have hcz29_1 : wr.cell? ⟨gb151, 1, none⟩ = some (.string a0_1) := (blk_cell BK151.out 1).trans rfl
            have hfz29_0 := blk_frozen BK151.out 0
            have hfz29_1 := blk_frozen BK151.out 1
            have p25 : 0 ≤ (x6_2 : Int) := of_decide_eq_true (by first | (with_reducible assumption) | assumption)
            have q25 : x6_2 < (a0_1.size : Int) := of_decide_eq_true (by first | (with_reducible assumption) | assumption)
            have hx25 := bt_at a0_1 x6_2
            replace p25 := eq_true p25
            replace q25 := eq_true q25
            go_wp2_with (first | (go_at_call 26; (with_reducible refine (barscanref14_digit.calls (bt a0_1 x6_2) false _ A26.out).mono ?_); rintro e w' ⟨rfl, ⟨nd, rfl⟩⟩))
            go_ret
            exact ⟨by first | rfl | (simp [errW_none, errW_some] <;> rfl) | (simp [*, errW_none, errW_some] <;> rfl), by repeat (first | (with_reducible first | exact HB.out | apply below_alloc | apply pw_below_drewN | apply below_drew1 | refine below_set ?_ GE151.out) | exact HB.out)⟩
          ·rw [if_neg c24] at H
           exact absurd H (by simp)
         ·rw [if_neg c23] at H
          exact absurd H (by simp)
       ·rw [if_neg c14] at H
        have c14b0 : decide (x6_2 < (a0_1.size : Int)) = false := decide_eq_false c14
        clear c14
        have HC30 := Aside0.mk H
        clear H
        go_upto_region 12 with (fail)
        go_cut [72] (fun v72 wc => ∃ (kq : Nat) (x72_29 : Bool), v72 = .bool x72_29 ∧ Aside0 (barscanref14_Verify.j2 kq t152 x72_29 a0_0 a0_1 = some r) ∧ Aside0 (kq ≤ k2) ∧ Aside0 (wc.heap[gb151]? = some (.cells #[.string a0_0, .string a0_1] 23 (0, 0))) ∧ Aside0 (Below w.heap.size w wc))
        case first =>
         have H := HC30.out
         clear HC30
         by_cases c31 : t152 = 3
         ·rw [if_pos c31] at H
          have c31b0 : (t152 == 3) = true := beq_iff_eq.mpr c31
          have c31b1 : (t152 != 3) = false := bne_eq_false_iff_eq.mpr c31
          clear c31
          (first | rw [c31b0] | (simp only [i64_w]; rw [c31b0]) | skip)
          replace H := Option.bind_eq_some_iff.mp H
          obtain ⟨t156, A320, H⟩ := H
          replace H : (barscanref14_Verify.j2 k2 t152 (!t156) a0_0 a0_1) = some r := H
          have A32 := Aside0.mk A320
          clear A320
          have H' := Aside0.mk H
          clear H
          have hcz33_0 : wr.cell? ⟨gb151, 0, none⟩ = some (.string a0_0) := (blk_cell BK151.out 0).trans rfl
          have hcz33_1 : wr.cell? ⟨gb151, 1, none⟩ = some (.string a0_1) := (blk_cell BK151.out 1).trans rfl
          have hfz33_0 := blk_frozen BK151.out 0
          have hfz33_1 := blk_frozen BK151.out 1
          go_wp2_with (first | (go_at_call 27; (with_reducible refine (barscanref14_date.calls k2 a0_1 t156 _ A32.out).mono ?_); rintro e w34 ⟨rfl, hb⟩; have n0_ := Aside0.mk (blk_below (g := gb151) (o := .cells #[.string a0_0, .string a0_1] 23 (0, 0)) (by (with_reducible repeat (first | refine blk_drewN ?_ _ | refine blk_drew ?_ | refine blk_alloc ?_ _)); exact BK151.out) hb); have n1_ := Aside0.mk (below_step (by repeat (first | (with_reducible first | exact HB.out | apply below_alloc | apply pw_below_drewN | apply below_drew1 | refine below_set ?_ GE151.out) | exact HB.out)) hb); clear BK151; clear HB; have BK151 := n0_; have HB := n1_; clear n0_ n1_; (try clear hb); (try clear hb2); (try clear hk); (try clear hi)))
          go_meet
          case rel => exact ⟨_, (!t156), (by first | rfl | (simp; done) | (simp [*]; done)), H', ⟨by have := HJ5.out; have := HK2.out; first | omega | exact Nat.le_refl _⟩, ⟨by (with_reducible repeat (first | refine blk_drewN ?_ _ | refine blk_drew ?_ | refine blk_alloc ?_ _)); exact BK151.out⟩, ⟨by repeat (first | (with_reducible first | exact HB.out | apply below_alloc | apply pw_below_drewN | apply below_drew1 | refine below_set ?_ GE151.out) | exact HB.out)⟩⟩
         ·rw [if_neg c31] at H
          have c31b0 : (t152 == 3) = false := beq_eq_false_iff_ne.mpr c31
          have c31b1 : (t152 != 3) = true := bne_iff_ne.mpr c31
          (first | rw [c31b0] | (simp only [i64_w]; rw [c31b0]) | skip)
          have H' := Aside0.mk H
          clear H
          go_wp2
          go_meet
          case rel => exact ⟨_, (false), (by first | rfl | (simp; done) | (simp [*]; done)), H', ⟨by have := HJ5.out; have := HK2.out; first | omega | exact Nat.le_refl _⟩, ⟨by (with_reducible repeat (first | refine blk_drewN ?_ _ | refine blk_drew ?_ | refine blk_alloc ?_ _)); exact BK151.out⟩, ⟨by repeat (first | (with_reducible first | exact HB.out | apply below_alloc | apply pw_below_drewN | apply below_drew1 | refine below_set ?_ GE151.out) | exact HB.out)⟩⟩
        case rest =>
         clear HC30
         obtain ⟨kq, x72_29, rfl, HA, HJ29, BK151, HB⟩ := hcut
         cases kq with
         | zero => exact absurd HA.out (by simp [barscanref14_Verify.j2])
         | succ kj29 =>
          have H := HA.out
          clear HA
          simp only [barscanref14_Verify.j2] at H
          by_cases c35 : x72_29 = true
          ·subst c35
           have H1 : (some 9) = some r := by rw [if_pos rfl] at H; exact H
           clear H
           have H := H1
           clear H1
           obtain rfl := Option.some.inj H
           go_wp2
           go_ret
           exact ⟨by first | rfl | (simp [errW_none, errW_some] <;> rfl) | (simp [*, errW_none, errW_some] <;> rfl), by repeat (first | (with_reducible first | exact HB.out | apply below_alloc | apply pw_below_drewN | apply below_drew1 | refine below_set ?_ GE151.out) | exact HB.out)⟩
          ·replace c35 := Bool.eq_false_iff.mpr c35
           subst c35
           have H1 : (if t152 = 2 then ((barscanref14_checked.f kj29 a0_1).bind fun t157 => (if t157 = true then (some 0) else (some 8))) else (some 0)) = some r := by rw [if_neg (show ¬ (false = true) by decide)] at H; exact H
           clear H
           have H := H1
           clear H1
           by_cases c36 : t152 = 2
           ·rw [if_pos c36] at H
            have c36b0 : (t152 == 2) = true := beq_iff_eq.mpr c36
            have c36b1 : (t152 != 2) = false := bne_eq_false_iff_eq.mpr c36
            clear c36
            replace H := Option.bind_eq_some_iff.mp H
            obtain ⟨t157, A370, H⟩ := H
            replace H : (if t157 = true then (some 0) else (some 8)) = some r := H
            have A37 := Aside0.mk A370
            clear A370
            by_cases c38 : t157 = true
            ·subst c38
             have H1 : (some 0) = some r := by rw [if_pos rfl] at H; exact H
             clear H
             have H := H1
             clear H1
             obtain rfl := Option.some.inj H
             have hcz39_0 : wc.cell? ⟨gb151, 0, none⟩ = some (.string a0_0) := (blk_cell BK151.out 0).trans rfl
             have hcz39_1 : wc.cell? ⟨gb151, 1, none⟩ = some (.string a0_1) := (blk_cell BK151.out 1).trans rfl
             have hfz39_0 := blk_frozen BK151.out 0
             have hfz39_1 := blk_frozen BK151.out 1
             go_wp2_with (first | (go_at_call 28; (with_reducible refine (barscanref14_checked.calls kj29 a0_1 true _ A37.out).mono ?_); rintro e w' ⟨rfl, ⟨nd, rfl⟩⟩))
             go_ret
             exact ⟨by first | rfl | (simp [errW_none, errW_some] <;> rfl) | (simp [*, errW_none, errW_some] <;> rfl), by repeat (first | (with_reducible first | exact HB.out | apply below_alloc | apply pw_below_drewN | apply below_drew1 | refine below_set ?_ GE151.out) | exact HB.out)⟩
            ·replace c38 := Bool.eq_false_iff.mpr c38
             subst c38
             have H1 : (some 8) = some r := by rw [if_neg (show ¬ (false = true) by decide)] at H; exact H
             clear H
             have H := H1
             clear H1
             obtain rfl := Option.some.inj H
             have hcz40_0 : wc.cell? ⟨gb151, 0, none⟩ = some (.string a0_0) := (blk_cell BK151.out 0).trans rfl
             have hcz40_1 : wc.cell? ⟨gb151, 1, none⟩ = some (.string a0_1) := (blk_cell BK151.out 1).trans rfl
             have hfz40_0 := blk_frozen BK151.out 0
             have hfz40_1 := blk_frozen BK151.out 1
             go_wp2_with (first | (go_at_call 28; (with_reducible refine (barscanref14_checked.calls kj29 a0_1 false _ A37.out).mono ?_); rintro e w' ⟨rfl, ⟨nd, rfl⟩⟩))
             go_ret
             exact ⟨by first | rfl | (simp [errW_none, errW_some] <;> rfl) | (simp [*, errW_none, errW_some] <;> rfl), by repeat (first | (with_reducible first | exact HB.out | apply below_alloc | apply pw_below_drewN | apply below_drew1 | refine below_set ?_ GE151.out) | exact HB.out)⟩
           ·rw [if_neg c36] at H
            have c36b0 : (t152 == 2) = false := beq_eq_false_iff_ne.mpr c36
            have c36b1 : (t152 != 2) = true := bne_iff_ne.mpr c36
            obtain rfl := Option.some.inj H
            go_wp2
            go_ret
            exact ⟨by first | rfl | (simp [errW_none, errW_some] <;> rfl) | (simp [*, errW_none, errW_some] <;> rfl), by repeat (first | (with_reducible first | exact HB.out | apply below_alloc | apply pw_below_drewN | apply below_drew1 | refine below_set ?_ GE151.out) | exact HB.out)⟩

end Go.Proofs.YtghlbdemlmbijaaGreatDoor.Q

/- Dates, characters, check digits; Verify of both. -/
namespace Go.Proofs.YtghlbdemlmbijaaGreatDoor.Q
open Go.RowKit Go.Proofs.YtghlbdemlmbijaaGreatDoorW.PrintWords Go.Proofs.YtghlbdemlmbijaaGreatDoorW.PrintLast Go.Proofs.YtghlbdemlmbijaaGreatDoorW.PrintMore
set_option linter.unusedVariables false
set_option linter.unusedSimpArgs false
theorem up_of {α : Type} {F : Nat → Option α} {r : α} (hm : ∀ k, LeO (F k) (F (k + 1))) {k0 : Nat} (h : F k0 = some r) : ∀ k, k0 ≤ k → F k = some r := by
  intro k hk
  induction k with
  | zero => obtain rfl : k0 = 0 := by omega
            exact h
  | succ k ih =>
    by_cases he : k0 = k + 1
    · rw [← he]; exact h
    · exact hm k r (ih (by omega))
/-! ### Dates -/
def numS (s : ByteArray) : Int := (10 * (((bt s 0) - 48) % 256)) + (((bt s 1) - 48) % 256)
theorem two_at (s : ByteArray) (h : 2 ≤ s.size) : gs1_two.f s = some (numS s) := by
  unfold gs1_two.f numS
  rw [if_pos (by omega), if_pos (by omega)]
theorem number_at (s : ByteArray) (h : 2 ≤ s.size) : barscanref14_number.f s = some (numS s) := by
  unfold barscanref14_number.f numS
  rw [if_pos (by omega), if_pos (by omega)]
theorem numS_bd (s : ByteArray) : 0 ≤ numS s ∧ numS s ≤ 2805 := by unfold numS; omega
abbrev daysL : List Int := [31, 28, 31, 30, 31, 30, 31, 31, 30, 31, 30, 31]
def dateS (s : ByteArray) : Bool :=
  if numS (s.extract 2 4) < 1 ∨ numS (s.extract 2 4) > 12 then false
  else decide (numS (s.extract 4 6) ≤ if numS (s.extract 2 4) = 2 ∧ Int.tmod (numS (s.extract 0 2)) 4 = 0 then 29 else rd daysL (numS (s.extract 2 4) - 1))
theorem ext_size (s : ByteArray) (h : s.size = 6) : (s.extract 0 2).size = 2 ∧ (s.extract 2 4).size = 2 ∧ (s.extract 4 6).size = 2 := by
  simp only [ByteArray.size_extract, h]; decide
theorem date_at (s : ByteArray) (h : s.size = 6) (k : Nat) : gs1_date.f (k + 1) s = some (dateS s) := by
  have hx := ext_size s h
  unfold gs1_date.f dateS
  rw [Option.bind_some, if_pos (by omega), if_pos (by omega), two_at _ (by omega), Option.bind_some, if_pos (by omega), if_pos (by omega), two_at _ (by omega), Option.bind_some, h, two_at _ (by omega), Option.bind_some]
  generalize numS (s.extract 0 2) = y
  generalize numS (s.extract 4 6) = d
  have hb := numS_bd (s.extract 2 4)
  generalize numS (s.extract 2 4) = m at hb
  simp only [gs1_date.j0]
  by_cases h1 : m < 1
  · rw [if_pos h1, if_pos trivial, if_pos (Or.inl h1)]
  · rw [if_neg h1]
    by_cases h2 : m > 12
    · rw [if_pos (by simpa using h2), if_pos (Or.inr h2)]
    · rw [if_neg (show ¬ (m < 1 ∨ m > 12) by omega), if_neg (by simpa using h2), wrap_id (m - 1) (by omega) (by omega), if_pos (by omega), if_pos (by simp; omega)]
      by_cases h3 : m = 2
      · subst h3
        rw [if_pos rfl]
        by_cases h4 : Int.tmod y 4 = 0
        · rw [if_pos h4, if_pos ⟨rfl, h4⟩, show wrap64 (rd [31, 28, 31, 30, 31, 30, 31, 31, 30, 31, 30, 31] (2 - 1) + 1) = 29 by decide +kernel]
        · rw [if_neg h4, if_neg (fun h => h4 h.2)]
      · rw [if_neg h3, if_neg (fun h => h3 h.1)]
theorem ref_date_at (s : ByteArray) (h : s.size = 6) (k : Nat) : barscanref14_date.f (k + 1) s = some (dateS s) := by
  have hx := ext_size s h
  unfold barscanref14_date.f dateS
  have e0 := number_at (s.extract 0 2) (by omega)
  have e2 := number_at (s.extract 2 4) (by omega)
  have e4 := number_at (s.extract 4 6) (by omega)
  simp only [barscanref14_date.j0, h, e0, e2, e4, Option.bind_some]
  generalize numS (s.extract 0 2) = y
  generalize numS (s.extract 4 6) = d
  have hb := numS_bd (s.extract 2 4)
  generalize numS (s.extract 2 4) = m at hb
  by_cases h1 : m < 1
  · simp [h1]
  · by_cases h2 : m > 12
    · simp [h1, h2]
    · have hw : wrap64 (m - 1) = m - 1 := wrap_id _ (by omega) (by omega)
      have h5 : 0 ≤ m - 1 := by omega
      have h6 : m - 1 < 12 := by omega
      by_cases h3 : m = 2
      · subst h3
        by_cases h4 : Int.tmod y 4 = 0 <;> simp [h4, show wrap64 1 = 1 by decide +kernel]
      · simp [h1, h2, h3, hw, h5, h6]
/-! ### Characters -/
abbrev lettersS : ByteArray := ⟨#[33, 34, 37, 38, 39, 42, 43, 44, 45, 46, 47, 48, 49, 50, 51, 52, 53, 54, 55, 56, 57, 58, 59, 60, 61, 62, 63, 65, 66, 67, 68, 69, 70, 71, 72, 73, 74, 75, 76, 77, 78, 79, 80, 81, 82, 83, 84, 85, 86, 87, 88, 89, 90, 95, 97, 98, 99, 100, 101, 102, 103, 104, 105, 106, 107, 108, 109, 110, 111, 112, 113, 114, 115, 116, 117, 118, 119, 120, 121, 122]⟩
def isChr (c : UInt8) : Bool := decide (c ∈ bs lettersS)
set_option maxRecDepth 100000 in
theorem character_all : ∀ n, n < 256 → barscanref14_character.f 24 (((UInt8.ofNat n).toNat : Nat) : Int) = some (isChr (UInt8.ofNat n)) := by decide +kernel
theorem character_at (c : UInt8) (k : Nat) (hk : 24 ≤ k) : barscanref14_character.f k (c.toNat : Int) = some (isChr c) :=
  up_of (barscanref14_character.mono _) (all_u8 (P := fun c => barscanref14_character.f 24 (c.toNat : Int) = some (isChr c)) character_all c) k hk
theorem gwithin_l (s c : ByteArray) (hs : s.size < 4611686018427387904) (d : Nat) : ∀ k i : Nat, i + d = (bs s).length → d < k → gs1_within.l0 k s c (s.size : Int) i = some (((bs s).drop i).all fun x => decide (x ∈ bs c)) := by
  have hl := bs_len s
  induction d with
  | zero =>
    intro k i h1 h2
    obtain ⟨k, rfl⟩ : ∃ m, k = m + 1 := ⟨k - 1, by omega⟩
    simp only [gs1_within.l0]
    rw [if_neg (by omega), List.drop_of_length_le (by omega)]
    rfl
  | succ d ih =>
    intro k i h1 h2
    obtain ⟨k, rfl⟩ : ∃ m, k = m + 1 := ⟨k - 1, by omega⟩
    have hlt : i < (bs s).length := by omega
    have hd : (bs s).drop i = (bs s)[i] :: (bs s).drop (i + 1) := List.drop_eq_getElem_cons hlt
    simp only [gs1_within.l0, strings_IndexByte.f, Option.bind_some]
    rw [if_pos (by omega), if_pos (by omega), if_pos (by omega), bt_nat s i hlt, u8_back, hd, List.all_cons]
    by_cases hm : (bs s)[i] ∈ bs c
    · rw [if_neg (fun h => (indexByte_iff _ _).1 h hm), wrap_up i (by omega), ih k (i + 1) (by omega) (by omega)]
      rw [decide_eq_true hm, Bool.true_and]
    · rw [if_pos ((indexByte_iff _ _).2 hm), decide_eq_false hm, Bool.false_and]
theorem gwithin_at (s c : ByteArray) (hs : s.size < 4611686018427387904) (k : Nat) (hk : s.size < k) : gs1_within.f k s c = some ((bs s).all fun x => decide (x ∈ bs c)) := by
  have := gwithin_l s c hs (bs s).length k 0 (by omega) (by rw [bs_len]; exact hk)
  simpa [gs1_within.f] using this
/-! ### Check digits -/
def rsum (l : List Int) : Nat → Int
  | 0 => 0
  | k + 1 => rsum l k + (1 + (k : Int) % 2 * 2) * rd l k
theorem rsum_bd (l : List Int) (hb : ∀ j, 0 ≤ rd l j ∧ rd l j ≤ 255) : ∀ k : Nat, 0 ≤ rsum l k ∧ rsum l k ≤ 765 * k
  | 0 => by simp [rsum]
  | k + 1 => by
    have ih := rsum_bd l hb k
    have hk := hb k
    simp only [rsum]
    rcases (show (k : Int) % 2 = 0 ∨ (k : Int) % 2 = 1 by omega) with e | e <;> rw [e] <;> omega
def chkS (s : ByteArray) : Bool := Int.tmod (rsum (backL s) s.size) 10 == 0
theorem back_rd (s : ByteArray) (i d : Nat) (h : i + d + 1 = s.size) : rd (backL s) (i : Int) = ((bt s (d : Int)) - 48) % 256 := by
  have hl := bs_len s
  have hd : d < (bs s).length := by omega
  rw [bt_nat s d hd, rd_nat _ i (by rw [backL_len]; omega)]
  unfold backL
  rw [List.getElem_map, List.getElem_reverse]
  have e : (bs s).length - 1 - i = d := by omega
  simp only [e]
theorem checked_l (s : ByteArray) (hs : s.size < 4294967296) (d : Nat) : ∀ (k i : Nat), i + d = s.size → d < k → barscanref14_checked.l0 k s (rsum (backL s) i) (1 + (i : Int) % 2 * 2) ((d : Int) - 1) = some (chkS s) := by
  have hl := bs_len s
  induction d with
  | zero =>
    intro k i h1 h2
    obtain ⟨k, rfl⟩ : ∃ m, k = m + 1 := ⟨k - 1, by omega⟩
    simp only [barscanref14_checked.l0]
    rw [if_neg (by omega)]
    obtain rfl : i = s.size := by omega
    rfl
  | succ d ih =>
    intro k i h1 h2
    obtain ⟨k, rfl⟩ : ∃ m, k = m + 1 := ⟨k - 1, by omega⟩
    rw [show (((d + 1 : Nat) : Int) - 1) = (d : Int) by omega]
    simp only [barscanref14_checked.l0]
    have hr := back_rd s i d (by omega)
    have hb := backL_bd s i
    have hsb := rsum_bd (backL s) (backL_bd s) i
    rw [if_pos (by omega), if_pos (by omega), if_pos (by omega), ← hr, wrap_dn d (by omega)]
    have e : rsum (backL s) (i + 1) = rsum (backL s) i + (1 + (i : Int) % 2 * 2) * rd (backL s) i := rfl
    rcases (show (i : Int) % 2 = 0 ∨ (i : Int) % 2 = 1 by omega) with e2 | e2
    · rw [e2] at e ⊢
      rw [wrap_id ((1 + 0 * 2) * _) (by omega) (by omega), wrap_id (rsum _ _ + _) (by omega) (by omega), ← e, show wrap64 (4 - (1 + 0 * 2)) = 1 + ((i + 1 : Nat) : Int) % 2 * 2 from by rw [wrap_id _ (by omega) (by omega)]; omega]
      exact ih k (i + 1) (by omega) (by omega)
    · rw [e2] at e ⊢
      rw [wrap_id ((1 + 1 * 2) * _) (by omega) (by omega), wrap_id (rsum _ _ + _) (by omega) (by omega), ← e, show wrap64 (4 - (1 + 1 * 2)) = 1 + ((i + 1 : Nat) : Int) % 2 * 2 from by rw [wrap_id _ (by omega) (by omega)]; omega]
      exact ih k (i + 1) (by omega) (by omega)
theorem checked_at (s : ByteArray) (hs : s.size < 4294967296) (k : Nat) (hk : s.size < k) : barscanref14_checked.f k s = some (chkS s) := by
  unfold barscanref14_checked.f
  rw [wrap_id _ (by omega) (by omega)]
  exact checked_l s hs s.size k 0 (by omega) hk
theorem rsum_cons (x : Int) (p : List Int) : ∀ n : Nat, rsum (x :: p) (n + 1) = x + gsumTo p n
  | 0 => by simp [rsum, gsumTo, rd]
  | n + 1 => by
    have ih := rsum_cons x p n
    have e : rsum (x :: p) (n + 1 + 1) = rsum (x :: p) (n + 1) + (1 + ((n + 1 : Nat) : Int) % 2 * 2) * rd (x :: p) ((n + 1 : Nat) : Int) := rfl
    have e2 : gsumTo p (n + 1) = gsumTo p n + (3 - (n : Int) % 2 * 2) * rd p n := rfl
    have e3 : rd (x :: p) ((n + 1 : Nat) : Int) = rd p (n : Int) := by simp [rd, List.getD]
    rw [e, ih, e2, e3]
    rcases (show (n : Int) % 2 = 0 ∨ (n : Int) % 2 = 1 by omega) with e4 | e4
    · rw [e4, show ((n + 1 : Nat) : Int) % 2 = 1 by omega]; omega
    · rw [e4, show ((n + 1 : Nat) : Int) % 2 = 0 by omega]; omega
/-- The last digit is the check digit of those before it just where the sum of all is divisible. -/
theorem check_same (s : ByteArray) (h1 : 1 < s.size) (hd : allDig s = true) : (gchk (s.extract 0 (s.size - 1)) = s.extract (s.size - 1) s.size) ↔ chkS s = true := by
  have hl := bs_len s
  have hlt : s.size - 1 < (bs s).length := by omega
  have hsp : bs s = bs (s.extract 0 (s.size - 1)) ++ [(bs s)[s.size - 1]] := by
    rw [bs_extract, List.drop_zero, Nat.sub_zero]
    have h2 := List.take_append_drop (s.size - 1) (bs s)
    rw [List.drop_eq_getElem_cons hlt, List.drop_of_length_le (by omega)] at h2
    exact h2.symm
  have hlast : bs (s.extract (s.size - 1) s.size) = [(bs s)[s.size - 1]] := by
    rw [bs_extract, show s.size - (s.size - 1) = 1 by omega, List.drop_eq_getElem_cons hlt]
    rfl
  have hdl : isDig (bs s)[s.size - 1] = true := by
    have := List.all_eq_true.1 hd
    exact this _ (List.getElem_mem hlt)
  have hx : backL s = (((bs s)[s.size - 1].toNat : Int) - 48) % 256 :: backL (s.extract 0 (s.size - 1)) := by
    unfold backL
    conv => lhs; rw [hsp]
    simp only [List.reverse_append, List.reverse_singleton, List.singleton_append, List.map_cons]
  have hr : rsum (backL s) s.size = (((bs s)[s.size - 1].toNat : Int) - 48) % 256 + gsumTo (backL (s.extract 0 (s.size - 1))) (s.size - 1) := by
    rw [hx]
    have h3 := rsum_cons ((((bs s)[s.size - 1].toNat : Int) - 48) % 256) (backL (s.extract 0 (s.size - 1))) (s.size - 1)
    rw [show s.size - 1 + 1 = s.size by omega] at h3
    exact h3
  have hlen : (backL (s.extract 0 (s.size - 1))).length = s.size - 1 := by rw [backL_len]; simp
  have hg := gsumTo_bd (backL (s.extract 0 (s.size - 1))) (backL_bd _) (s.size - 1)
  have h2 : 48 ≤ (bs s)[s.size - 1].toNat ∧ (bs s)[s.size - 1].toNat ≤ 57 := by unfold isDig at hdl; simpa using hdl
  have hcs : chkS s = true ↔ ((((bs s)[s.size - 1].toNat : Int) - 48) % 256 + gsumTo (backL (s.extract 0 (s.size - 1))) (s.size - 1)) % 10 = 0 := by
    unfold chkS
    rw [hr, beq_iff_eq, Int.tmod_eq_emod_of_nonneg (by omega)]
  rw [hcs]
  unfold gchk
  rw [hlen]
  generalize gsumTo (backL (s.extract 0 (s.size - 1))) (s.size - 1) = g at hg
  rw [decDigit _ (by omega)]
  constructor
  · intro h
    have h3 := congrArg bs h
    rw [hlast, bs_mk] at h3
    have h4 : UInt8.ofNat (48 + (-(g % 10) % 10).toNat) = (bs s)[s.size - 1] := by injection h3
    rw [← h4] at h2 ⊢
    have h5 : (UInt8.ofNat (48 + (-(g % 10) % 10).toNat)).toNat = 48 + (-(g % 10) % 10).toNat := by
      rw [UInt8.toNat_ofNat']; omega
    rw [h5]
    omega
  · intro h
    apply bs_inj
    rw [hlast, bs_mk]
    congr 1
    apply UInt8.toNat_inj.1
    rw [UInt8.toNat_ofNat']
    generalize (bs s)[s.size - 1].toNat = v at h2 h
    have e1 : ((v : Int) - 48) % 256 = v - 48 := by omega
    rw [e1] at h
    have e2 : -(g % 10) % 10 = (v : Int) - 48 := by omega
    rw [e2]
    omega
end Go.Proofs.YtghlbdemlmbijaaGreatDoor.Q

namespace Go.Proofs.YtghlbdemlmbijaaGreatDoor.Q
open Go.RowKit Go.Proofs.YtghlbdemlmbijaaGreatDoorW.PrintWords Go.Proofs.YtghlbdemlmbijaaGreatDoorW.PrintLast Go.Proofs.YtghlbdemlmbijaaGreatDoorW.PrintMore

set_option linter.unusedVariables false
set_option linter.unusedSimpArgs false

theorem eqA23 (d : Nat) (w : World) (x0 y0 : ByteArray) (x1 y1 : ByteArray) :
    (Op.equalIn (d + 2) 23 (.agg #[.string x0, .string x1]) (.agg #[.string y0, .string y1])).run Tryz.prog w = .ok (x0.toList == y0.toList && (x1.toList == y1.toList)) w := by
  refine eqA_of Tryz.underlying23 (by kernel_rfl) ?_
  refine eqf_cons (by rfl) (by go_simp; rfl) (by go_simp; rfl) (by go_simp) ?_
  exact eqf_last (by rfl) (by go_simp; rfl) (by go_simp; rfl) (by go_simp)
end Go.Proofs.YtghlbdemlmbijaaGreatDoor.Q
