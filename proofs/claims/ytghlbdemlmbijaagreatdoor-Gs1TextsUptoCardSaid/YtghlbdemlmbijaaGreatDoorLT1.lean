/- Proved here (gs1Texts.cardUpto): the law Gs1Texts returns true for every string and every list of elements, and its arguments read as before. Conditions: what is read is of bulk at most 1048576 (the statement's second form); the four listed tables as the program's text lays them (the card ties them). -/
/- Joined by a program of this work (pack.py) out of the texts Qbarscanref14index, Qbarscanref14Parse, Th5, Qbarscanlaw14Gs1Texts, LawsT, LawTexts of this seat, in build order. -/
import Derived.Test.YtghlbdemlmbijaaGreatDoorPC8
import Derived.Test.YtghlbdemlmbijaaGreatDoorWWords
import Derived.Test.YtghlbdemlmbijaaGreatDoorWLast
import Derived.Test.YtghlbdemlmbijaaGreatDoorWApart
import Derived.Test.YtghlbdemlmbijaaGreatDoorWEqStruct
import Derived.Test.YtghlbdemlmbijaaGreatDoorWFoot
import Derived.Test.YtghlbdemlmbijaaGreatDoorWGuard
import Derived.Test.YtghlbdemlmbijaaGreatDoorWShare
import Derived.Test.YtghlbdemlmbijaaGreatDoorWMore
import Derived.Test.YtghlbdemlmbijaaGreatDoorWRepsOne
import Derived.Test.YtghlbdemlmbijaaGreatDoorWTab
import Derived.ShutString
namespace Go.Proofs.YtghlbdemlmbijaaGreatDoor.Q
open Go.RowKit Go.Proofs.YtghlbdemlmbijaaGreatDoorW.PrintWords Go.Proofs.YtghlbdemlmbijaaGreatDoorW.PrintLast Go.Proofs.YtghlbdemlmbijaaGreatDoorW.PrintMore

set_option linter.unusedVariables false
set_option linter.unusedSimpArgs false

/-! ### barscanref14_index: function 30 -/
def barscanref14_index.l0 : Nat → ByteArray → Int → Int → Option (Int)
 | 0, _, _, _ => none
 | k + 1, x0, x1, x2 => if x2 < (x0.size : Int) then (if 0 ≤ x2 then (if (bt x0 x2) = x1 then (some x2) else (barscanref14_index.l0 k x0 x1 (wrap64 (x2 + 1)))) else (none)) else (some x2)
def barscanref14_index.f (k : Nat) (a0 : ByteArray) (a1 : Int) (a2 : Int) : Option (Int) := barscanref14_index.l0 k a0 a1 a2
theorem barscanref14_index.mono_l : ∀ k, (∀ y0 y1 y2, LeO (barscanref14_index.l0 k y0 y1 y2) (barscanref14_index.l0 (k + 1) y0 y1 y2))
 | 0 => fun _ _ _ r h => by simp [barscanref14_index.l0] at h
 | k + 1 => by
  have ih0 := barscanref14_index.mono_l k
  ·intro y0 y1 y2
   unfold barscanref14_index.l0
   repeat' first
   | (with_reducible exact ih0 _ _ _)
   | (with_reducible exact LeO.refl _)
   | (with_reducible exact LeO.none _)
   | (with_reducible refine LeO.ite ?_ ?_)
   | (with_reducible refine LeO.bind ?_ (fun _ => ?_))
   | exact ih0 _ _ _
   | exact LeO.none _
   | refine LeO.ite ?_ ?_
   | refine LeO.bind ?_ (fun _ => ?_)
theorem barscanref14_index.mono : ∀ a0 a1 a2 k, LeO (barscanref14_index.f k a0 a1 a2) (barscanref14_index.f (k + 1) a0 a1 a2) := by
 intro a0 a1 a2 k
 have ih0 := barscanref14_index.mono_l k
 unfold barscanref14_index.f
 repeat' first
   | (with_reducible exact ih0 _ _ _)
   | (with_reducible exact LeO.refl _)
   | (with_reducible exact LeO.none _)
   | (with_reducible refine LeO.ite ?_ ?_)
   | (with_reducible refine LeO.bind ?_ (fun _ => ?_))
   | exact ih0 _ _ _
   | exact LeO.none _
   | refine LeO.ite ?_ ?_
   | refine LeO.bind ?_ (fun _ => ?_)
set_option maxHeartbeats 8000000 in
set_option maxRecDepth 100000 in
theorem barscanref14_index.calls (k : Nat) (a0 : ByteArray) (a1 : Int) (a2 : Int) (r : Int) (w : World) (h : barscanref14_index.f k a0 a1 a2 = some r) :
  Calls Tryz.prog 30 #[.string a0, .int .u8 a1, .int .i64 a2] w fun e w' => e = .returned (.int .i64 r) ∧ Drawn0 w w' := by
 have H : (barscanref14_index.l0 k a0 a1 a2) = some r := h
 clear h
 have H' := Aside0.mk H
 clear H
 go_enter Tryz.func30, Tryz.ntmps30
 go_wp2
 go_loopg [2] k (fun kq v2 w' => ∃ (x2_1 : Int), v2 = .int .i64 x2_1 ∧ Aside0 (barscanref14_index.l0 kq a0 a1 x2_1 = some r) ∧ Aside0 (kq ≤ k) ∧ Drawn0 w w')
 case atStart => exact ⟨(a2), (by first | rfl | (simp; done) | (simp [*]; done)), H', ⟨Nat.le_refl _⟩, by repeat (first | exact Drawn0.refl _ | apply Drawn0.step)⟩
 case round =>
  clear H'
  obtain ⟨x2_1, rfl, HA, HK1, ⟨m1, rfl⟩⟩ := hrel
  cases gk with
  | zero => exact absurd HA.out (by simp [barscanref14_index.l0])
  | succ k1 =>
   have H := HA.out
   clear HA
   simp only [barscanref14_index.l0] at H
   by_cases c4 : x2_1 < (a0.size : Int)
   ·rw [if_pos c4] at H
    have c4b0 : decide (x2_1 < (a0.size : Int)) = true := decide_eq_true c4
    clear c4
    by_cases c5 : 0 ≤ x2_1
    ·rw [if_pos c5] at H
     have c5b0 : decide (0 ≤ x2_1) = true := decide_eq_true c5
     clear c5
     by_cases c7 : (bt a0 x2_1) = a1
     ·rw [if_pos c7] at H
      have c7b0 : ((bt a0 x2_1) == a1) = true := beq_iff_eq.mpr c7
      have c7b1 : ((bt a0 x2_1) != a1) = false := bne_eq_false_iff_eq.mpr c7
      clear c7
      obtain rfl := Option.some.inj H
      have p6 : 0 ≤ (x2_1 : Int) := of_decide_eq_true (by first | (with_reducible assumption) | assumption)
      have q6 : x2_1 < (a0.size : Int) := of_decide_eq_true (by first | (with_reducible assumption) | assumption)
      have hx6 := bt_at a0 x2_1
      replace p6 := eq_true p6
      replace q6 := eq_true q6
      go_wp2
      go_ret
      exact ⟨by first | rfl | (simp; done) | (simp [*]; done), by repeat (first | exact Drawn0.refl _ | apply Drawn0.step)⟩
     ·rw [if_neg c7] at H
      have c7b0 : ((bt a0 x2_1) == a1) = false := beq_eq_false_iff_ne.mpr c7
      have c7b1 : ((bt a0 x2_1) != a1) = true := bne_iff_ne.mpr c7
      have H' := Aside0.mk H
      clear H
      have p6 : 0 ≤ (x2_1 : Int) := of_decide_eq_true (by first | (with_reducible assumption) | assumption)
      have q6 : x2_1 < (a0.size : Int) := of_decide_eq_true (by first | (with_reducible assumption) | assumption)
      have hx6 := bt_at a0 x2_1
      replace p6 := eq_true p6
      replace q6 := eq_true q6
      go_wp2
      go_roundg k1
      case measure => have := HK1.out; omega
      case rel => exact ⟨(wrap64 (x2_1 + 1)), (by first | rfl | (simp; done) | (simp [*]; done)), H', ⟨by have := HK1.out; omega⟩, by repeat (first | exact Drawn0.refl _ | apply Drawn0.step)⟩
    ·rw [if_neg c5] at H
     exact absurd H (by simp)
   ·rw [if_neg c4] at H
    have c4b0 : decide (x2_1 < (a0.size : Int)) = false := decide_eq_false c4
    clear c4
    obtain rfl := Option.some.inj H
    go_wp2
    go_ret
    exact ⟨by first | rfl | (simp; done) | (simp [*]; done), by repeat (first | exact Drawn0.refl _ | apply Drawn0.step)⟩

end Go.Proofs.YtghlbdemlmbijaaGreatDoor.Q

namespace Go.Proofs.YtghlbdemlmbijaaGreatDoor.Q
open Go.RowKit Go.Proofs.YtghlbdemlmbijaaGreatDoorW.PrintWords Go.Proofs.YtghlbdemlmbijaaGreatDoorW.PrintLast Go.Proofs.YtghlbdemlmbijaaGreatDoorW.PrintMore

set_option linter.unusedVariables false
set_option linter.unusedSimpArgs false

/-! ### barscanref14_Parse: function 13 -/
mutual
def barscanref14_Parse.l0 : Nat → ByteArray → List (S23) → Int → Option ((List (S23)) × Int)
 | 0, _, _, _ => none
 | k + 1, x0, x4, x5 => if x5 < (x0.size : Int) then ((barscanref14_index.f k x0 41 x5).bind fun t263 => (if 0 ≤ x5 then (if (bt x0 x5) = 40 then (barscanref14_Parse.j1 k x0 x4 x5 t263 (t263 == (x0.size : Int))) else (barscanref14_Parse.j1 k x0 x4 x5 t263 true)) else (none))) else (some (x4, 0))
def barscanref14_Parse.j1 : Nat → ByteArray → List (S23) → Int → Int → Bool → Option ((List (S23)) × Int)
 | 0, _, _, _, _, _ => none
 | k + 1, x0, x4, x5, x6, x31 => if x31 = true then (some (([] : List (S23)), 9)) else ((barscanref14_index.f k x0 40 x6).bind fun t264 => (if 0 ≤ (wrap64 (x5 + 1)) then (if (wrap64 (x5 + 1)) ≤ x6 then (if x6 ≤ (x0.size : Int) then (if 0 ≤ (wrap64 (x6 + 1)) then (if (wrap64 (x6 + 1)) ≤ t264 then (if t264 ≤ (x0.size : Int) then ((barscanref14_Verify.f k (x0.extract ((wrap64 (x5 + 1)) : Int).toNat (x6 : Int).toNat) (x0.extract ((wrap64 (x6 + 1)) : Int).toNat (t264 : Int).toNat)).bind fun t266 => (if t266 = 0 then (if x4.length < 4398046511104 then (barscanref14_Parse.l0 k x0 (x4 ++ [(⟨x0.extract ((wrap64 (x5 + 1)) : Int).toNat (x6 : Int).toNat, x0.extract ((wrap64 (x6 + 1)) : Int).toNat (t264 : Int).toNat⟩ : S23)]) t264) else (none)) else (some (([] : List (S23)), t266)))) else (none)) else (none)) else (none)) else (none)) else (none)) else (none)))
end
def barscanref14_Parse.f (k : Nat) (a0 : ByteArray) : Option ((List (S23)) × Int) := if (a0.size : Int) > 4096 then (some (([] : List (S23)), 4)) else (if a0.toList = ([] : List UInt8) then (some (([] : List (S23)), 5)) else (barscanref14_Parse.l0 k a0 ([] : List (S23)) 0))
theorem barscanref14_Parse.mono_l : ∀ k, (∀ y0 y1 y2, LeO (barscanref14_Parse.l0 k y0 y1 y2) (barscanref14_Parse.l0 (k + 1) y0 y1 y2)) ∧ (∀ y0 y1 y2 y3 y4, LeO (barscanref14_Parse.j1 k y0 y1 y2 y3 y4) (barscanref14_Parse.j1 (k + 1) y0 y1 y2 y3 y4))
 | 0 => ⟨fun _ _ _ r h => by simp [barscanref14_Parse.l0] at h, fun _ _ _ _ _ r h => by simp [barscanref14_Parse.j1] at h⟩
 | k + 1 => by
  obtain ⟨ih0, ih1⟩ := barscanref14_Parse.mono_l k
  refine ⟨?_, ?_⟩
  ·intro y0 y1 y2
   unfold barscanref14_Parse.l0
   repeat' first
   | (with_reducible exact ih0 _ _ _)
   | (with_reducible exact ih1 _ _ _ _ _)
   | (with_reducible exact barscanref14_Verify.mono _ _ _)
   | (with_reducible exact barscanref14_index.mono _ _ _ _)
   | (with_reducible exact LeO.refl _)
   | (with_reducible exact LeO.none _)
   | (with_reducible refine LeO.ite ?_ ?_)
   | (with_reducible refine LeO.bind ?_ (fun _ => ?_))
   | exact ih0 _ _ _
   | exact ih1 _ _ _ _ _
   | exact barscanref14_Verify.mono _ _ _
   | exact barscanref14_index.mono _ _ _ _
   | exact LeO.none _
   | refine LeO.ite ?_ ?_
   | refine LeO.bind ?_ (fun _ => ?_)
  ·intro y0 y1 y2 y3 y4
   unfold barscanref14_Parse.j1
   repeat' first
   | (with_reducible exact ih0 _ _ _)
   | (with_reducible exact ih1 _ _ _ _ _)
   | (with_reducible exact barscanref14_Verify.mono _ _ _)
   | (with_reducible exact barscanref14_index.mono _ _ _ _)
   | (with_reducible exact LeO.refl _)
   | (with_reducible exact LeO.none _)
   | (with_reducible refine LeO.ite ?_ ?_)
   | (with_reducible refine LeO.bind ?_ (fun _ => ?_))
   | exact ih0 _ _ _
   | exact ih1 _ _ _ _ _
   | exact barscanref14_Verify.mono _ _ _
   | exact barscanref14_index.mono _ _ _ _
   | exact LeO.none _
   | refine LeO.ite ?_ ?_
   | refine LeO.bind ?_ (fun _ => ?_)
theorem barscanref14_Parse.mono : ∀ a0 k, LeO (barscanref14_Parse.f k a0) (barscanref14_Parse.f (k + 1) a0) := by
 intro a0 k
 obtain ⟨ih0, ih1⟩ := barscanref14_Parse.mono_l k
 unfold barscanref14_Parse.f
 repeat' first
   | (with_reducible exact ih0 _ _ _)
   | (with_reducible exact ih1 _ _ _ _ _)
   | (with_reducible exact barscanref14_Verify.mono _ _ _)
   | (with_reducible exact barscanref14_index.mono _ _ _ _)
   | (with_reducible exact LeO.refl _)
   | (with_reducible exact LeO.none _)
   | (with_reducible refine LeO.ite ?_ ?_)
   | (with_reducible refine LeO.bind ?_ (fun _ => ?_))
   | exact ih0 _ _ _
   | exact ih1 _ _ _ _ _
   | exact barscanref14_Verify.mono _ _ _
   | exact barscanref14_index.mono _ _ _ _
   | exact LeO.none _
   | refine LeO.ite ?_ ?_
   | refine LeO.bind ?_ (fun _ => ?_)
def barscanref14_Parse.T12 : Bool × List (List Nat × List Nat) := (true, [([], []), ([], []), ([1], [1]), ([], []), ([0, 2, 3], [0, 2, 3]), ([], []), ([], []), ([6], [6]), ([], []), ([5, 7, 8], [5, 7, 8]), ([4, 9], [4, 9]), ([], []), ([11, 10, 0, 1, 2, 3, 4, 5, 6, 7, 8, 9, 10, 11], [10, 11])])
def barscanref14_Parse.B12 : List Nat := [0, 0, 2, 0, 15, 0, 0, 64, 0, 480, 1023, 0, 4095]
theorem barscanref14_Parse.tab12 : rtab .any (opsOf Tryz.f13 12) = barscanref14_Parse.T12 := by kernel_rfl
theorem barscanref14_Parse.bits12 : waitsOk barscanref14_Parse.T12.2 barscanref14_Parse.B12 = true := by kernel_rfl
set_option maxHeartbeats 8000000 in
set_option maxRecDepth 100000 in
theorem barscanref14_Parse.calls (k : Nat) (a0 : ByteArray) (r1 : List (S23)) (r2 : Int) (w : World) (h : barscanref14_Parse.f k a0 = some (r1, r2)) :
  Calls Tryz.prog 13 #[.string a0] w fun e w' => ∃ v0_ : Value, e = .returned (.tuple #[v0_, .int .i64 r2]) ∧ Kd.R k23 23 w' w.heap.size (fun _ => True) v0_ r1 ∧ Below w.heap.size w w' := by
 have hu23 := Tryz.underlying23
 have HB := Aside0.mk (Below.refl w.heap.size w)
 have H : (if (a0.size : Int) > 4096 then (some (([] : List (S23)), 4)) else (if a0.toList = ([] : List UInt8) then (some (([] : List (S23)), 5)) else (barscanref14_Parse.l0 k a0 ([] : List (S23)) 0))) = some (r1, r2) := h
 clear h
 by_cases c2 : (a0.size : Int) > 4096
 ·rw [if_pos c2] at H
  have c2b0 : decide (4096 < (a0.size : Int)) = true := decide_eq_true c2
  have c2b1 : decide (4096 < a0.size) = true := decide_eq_true (by omega)
  clear c2
  simp only [Option.some.injEq, Prod.mk.injEq] at H
  obtain ⟨rfl, rfl⟩ := H
  go_enter Tryz.func13, Tryz.ntmps13
  go_wp2
  go_ret2
  exact ⟨_, by first | rfl | (simp [errW_none, errW_some] <;> rfl) | (simp [*, errW_none, errW_some] <;> rfl), by first | exact Kd.R_nil _ _ _ _ _ | exact Kd.N_nil _ _ _ _ _ | exact Kd.V_nil _ _ _ _ _ | exact Kd.Q_nil _ _ _ _ _ | exact Kd.S_nil _ _ _ _ _, by repeat (first | (with_reducible first | exact HB.out | apply below_alloc | apply pw_below_drewN | apply below_drew1) | exact HB.out)⟩
 ·rw [if_neg c2] at H
  have c2b0 : decide (4096 < (a0.size : Int)) = false := decide_eq_false c2
  have c2b1 : decide (4096 < a0.size) = false := decide_eq_false (by omega)
  clear c2
  by_cases c3 : a0.toList = ([] : List UInt8)
  ·rw [if_pos c3] at H
   have c3b0 : (a0.toList == ([] : List UInt8)) = true := beq_iff_eq.mpr c3
   have c3b1 : (a0.toList != ([] : List UInt8)) = false := bne_eq_false_iff_eq.mpr c3
   clear c3
   simp only [Option.some.injEq, Prod.mk.injEq] at H
   obtain ⟨rfl, rfl⟩ := H
   go_enter Tryz.func13, Tryz.ntmps13
   go_wp2
   go_ret2
   exact ⟨_, by first | rfl | (simp [errW_none, errW_some] <;> rfl) | (simp [*, errW_none, errW_some] <;> rfl), by first | exact Kd.R_nil _ _ _ _ _ | exact Kd.N_nil _ _ _ _ _ | exact Kd.V_nil _ _ _ _ _ | exact Kd.Q_nil _ _ _ _ _ | exact Kd.S_nil _ _ _ _ _, by repeat (first | (with_reducible first | exact HB.out | apply below_alloc | apply pw_below_drewN | apply below_drew1) | exact HB.out)⟩
  ·rw [if_neg c3] at H
   have c3b0 : (a0.toList == ([] : List UInt8)) = false := beq_eq_false_iff_ne.mpr c3
   have c3b1 : (a0.toList != ([] : List UInt8)) = true := bne_iff_ne.mpr c3
   have H' := Aside0.mk H
   clear H
   go_enter Tryz.func13, Tryz.ntmps13
   go_wp2
   go_loopg [4, 5] k (fun kq v4 v5 w' => ∃ (x4_1 : List (S23)) (x5_1 : Int), v5 = .int .i64 x5_1 ∧ Aside0 (barscanref14_Parse.l0 kq a0 x4_1 x5_1 = some (r1, r2)) ∧ Aside0 (kq ≤ k) ∧ Aside0 (Kd.R k23 23 w' w.heap.size (fun _ => True) v4 x4_1) ∧ Aside0 (Below w.heap.size w w'))
   case atStart => exact ⟨(([] : List (S23))), (0), (by first | rfl | (simp; done) | (simp [*]; done)), H', ⟨Nat.le_refl _⟩, ⟨by first | exact Kd.R_nil _ _ _ _ _ | exact Kd.N_nil _ _ _ _ _ | exact Kd.V_nil _ _ _ _ _ | exact Kd.Q_nil _ _ _ _ _ | exact Kd.S_nil _ _ _ _ _⟩, ⟨by repeat (first | (with_reducible first | exact HB.out | apply below_alloc | apply pw_below_drewN | apply below_drew1) | exact HB.out)⟩⟩
   case round =>
    clear H'
    obtain ⟨x4_1, x5_1, rfl, HA, HK1, HO_4, HB⟩ := hrel
    cases gk with
    | zero => exact absurd HA.out (by simp [barscanref14_Parse.l0])
    | succ k1 =>
     have H := HA.out
     clear HA
     simp only [barscanref14_Parse.l0] at H
     by_cases c4 : x5_1 < (a0.size : Int)
     ·rw [if_pos c4] at H
      have c4b0 : decide (x5_1 < (a0.size : Int)) = true := decide_eq_true c4
      clear c4
      replace H := Option.bind_eq_some_iff.mp H
      obtain ⟨t263, A50, H⟩ := H
      replace H : (if 0 ≤ x5_1 then (if (bt a0 x5_1) = 40 then (barscanref14_Parse.j1 k1 a0 x4_1 x5_1 t263 (t263 == (a0.size : Int))) else (barscanref14_Parse.j1 k1 a0 x4_1 x5_1 t263 true)) else (none)) = some (r1, r2) := H
      have A5 := Aside0.mk A50
      clear A50
      have HC6 := Aside0.mk H
      clear H
      go_upto_region 9 with (first | ((with_reducible refine gate_callee (f := 30) rfl ?_); refine goesL_ (some 21) rfl rfl Tryz.func30 (by kernel_rfl) rfl #[.string a0, .int .u8 41, .int .i64 x5_1] rfl (by (try simp only [List.map_toArray, List.map_cons, List.map_nil]); first | done | rfl | (simp only [List.length_drop, List.length_take]; rfl)) ?_; (with_reducible refine (barscanref14_index.calls k1 a0 41 x5_1 t263 _ A5.out).mono ?_); rintro e w' ⟨rfl, ⟨nd, rfl⟩⟩; refine ⟨_, rfl, ?_⟩))
      (try simp only [Act.put, List.setIfInBounds_toArray, List.set_cons_zero, List.set_cons_succ])
      go_cut [31] (fun v31 wc => ∃ (kq : Nat) (x31_5 : Bool), v31 = .bool x31_5 ∧ Aside0 (barscanref14_Parse.j1 kq a0 x4_1 x5_1 t263 x31_5 = some (r1, r2)) ∧ Aside0 (kq ≤ k1) ∧ Aside0 (Kd.R k23 23 wc w.heap.size (fun _ => True) u4 x4_1) ∧ Aside0 (Below w.heap.size w wc))
      case first =>
       have H := HC6.out
       clear HC6
       by_cases c7 : 0 ≤ x5_1
       ·rw [if_pos c7] at H
        have c7b0 : decide (0 ≤ x5_1) = true := decide_eq_true c7
        clear c7
        (first | rw [c7b0] | (simp only [i64_w]; rw [c7b0]) | skip)
        by_cases c9 : (bt a0 x5_1) = 40
        ·rw [if_pos c9] at H
         have c9b0 : ((bt a0 x5_1) == 40) = true := beq_iff_eq.mpr c9
         have c9b1 : ((bt a0 x5_1) != 40) = false := bne_eq_false_iff_eq.mpr c9
         clear c9
         have H' := Aside0.mk H
         clear H
         have p8 : 0 ≤ (x5_1 : Int) := of_decide_eq_true (by first | (with_reducible assumption) | assumption)
         have q8 : x5_1 < (a0.size : Int) := of_decide_eq_true (by first | (with_reducible assumption) | assumption)
         have hx8 := bt_at a0 x5_1
         replace p8 := eq_true p8
         replace q8 := eq_true q8
         go_wp2
         go_meet
         case rel => exact ⟨_, ((t263 == (a0.size : Int))), (by first | rfl | (simp; done) | (simp [*]; done)), H', ⟨by have := HK1.out; first | omega | exact Nat.le_refl _⟩, ⟨by (with_reducible repeat (first | apply Kd.R_alloc | apply Kd.R_drewN | apply Kd.R_drew)); exact HO_4.out⟩, ⟨by repeat (first | (with_reducible first | exact HB.out | apply below_alloc | apply pw_below_drewN | apply below_drew1) | exact HB.out)⟩⟩
        ·rw [if_neg c9] at H
         have c9b0 : ((bt a0 x5_1) == 40) = false := beq_eq_false_iff_ne.mpr c9
         have c9b1 : ((bt a0 x5_1) != 40) = true := bne_iff_ne.mpr c9
         have H' := Aside0.mk H
         clear H
         have p8 : 0 ≤ (x5_1 : Int) := of_decide_eq_true (by first | (with_reducible assumption) | assumption)
         have q8 : x5_1 < (a0.size : Int) := of_decide_eq_true (by first | (with_reducible assumption) | assumption)
         have hx8 := bt_at a0 x5_1
         replace p8 := eq_true p8
         replace q8 := eq_true q8
         go_wp2
         go_meet
         case rel => exact ⟨_, (true), (by first | rfl | (simp; done) | (simp [*]; done)), H', ⟨by have := HK1.out; first | omega | exact Nat.le_refl _⟩, ⟨by (with_reducible repeat (first | apply Kd.R_alloc | apply Kd.R_drewN | apply Kd.R_drew)); exact HO_4.out⟩, ⟨by repeat (first | (with_reducible first | exact HB.out | apply below_alloc | apply pw_below_drewN | apply below_drew1) | exact HB.out)⟩⟩
       ·rw [if_neg c7] at H
        exact absurd H (by simp)
      case rest =>
       clear HC6
       obtain ⟨kq, x31_5, rfl, HA, HJ5, HO_4, HB⟩ := hcut
       cases kq with
       | zero => exact absurd HA.out (by simp [barscanref14_Parse.j1])
       | succ kj5 =>
        have H := HA.out
        clear HA
        simp only [barscanref14_Parse.j1] at H
        by_cases c10 : x31_5 = true
        ·subst c10
         have H1 : (some (([] : List (S23)), 9)) = some (r1, r2) := by rw [if_pos rfl] at H; exact H
         clear H
         have H := H1
         clear H1
         simp only [Option.some.injEq, Prod.mk.injEq] at H
         obtain ⟨rfl, rfl⟩ := H
         go_wp2
         go_ret2
         exact ⟨_, by first | rfl | (simp [errW_none, errW_some] <;> rfl) | (simp [*, errW_none, errW_some] <;> rfl), by first | exact Kd.R_nil _ _ _ _ _ | exact Kd.N_nil _ _ _ _ _ | exact Kd.V_nil _ _ _ _ _ | exact Kd.Q_nil _ _ _ _ _ | exact Kd.S_nil _ _ _ _ _, by repeat (first | (with_reducible first | exact HB.out | apply below_alloc | apply pw_below_drewN | apply below_drew1) | exact HB.out)⟩
        ·replace c10 := Bool.eq_false_iff.mpr c10
         subst c10
         have H1 : ((barscanref14_index.f kj5 a0 40 t263).bind fun t264 => (if 0 ≤ (wrap64 (x5_1 + 1)) then (if (wrap64 (x5_1 + 1)) ≤ t263 then (if t263 ≤ (a0.size : Int) then (if 0 ≤ (wrap64 (t263 + 1)) then (if (wrap64 (t263 + 1)) ≤ t264 then (if t264 ≤ (a0.size : Int) then ((barscanref14_Verify.f kj5 (a0.extract ((wrap64 (x5_1 + 1)) : Int).toNat (t263 : Int).toNat) (a0.extract ((wrap64 (t263 + 1)) : Int).toNat (t264 : Int).toNat)).bind fun t266 => (if t266 = 0 then (if x4_1.length < 4398046511104 then (barscanref14_Parse.l0 kj5 a0 (x4_1 ++ [(⟨a0.extract ((wrap64 (x5_1 + 1)) : Int).toNat (t263 : Int).toNat, a0.extract ((wrap64 (t263 + 1)) : Int).toNat (t264 : Int).toNat⟩ : S23)]) t264) else (none)) else (some (([] : List (S23)), t266)))) else (none)) else (none)) else (none)) else (none)) else (none)) else (none))) = some (r1, r2) := by rw [if_neg (show ¬ (false = true) by decide)] at H; exact H
         clear H
         have H := H1
         clear H1
         replace H := Option.bind_eq_some_iff.mp H
         obtain ⟨t264, A110, H⟩ := H
         replace H : (if 0 ≤ (wrap64 (x5_1 + 1)) then (if (wrap64 (x5_1 + 1)) ≤ t263 then (if t263 ≤ (a0.size : Int) then (if 0 ≤ (wrap64 (t263 + 1)) then (if (wrap64 (t263 + 1)) ≤ t264 then (if t264 ≤ (a0.size : Int) then ((barscanref14_Verify.f kj5 (a0.extract ((wrap64 (x5_1 + 1)) : Int).toNat (t263 : Int).toNat) (a0.extract ((wrap64 (t263 + 1)) : Int).toNat (t264 : Int).toNat)).bind fun t266 => (if t266 = 0 then (if x4_1.length < 4398046511104 then (barscanref14_Parse.l0 kj5 a0 (x4_1 ++ [(⟨a0.extract ((wrap64 (x5_1 + 1)) : Int).toNat (t263 : Int).toNat, a0.extract ((wrap64 (t263 + 1)) : Int).toNat (t264 : Int).toNat⟩ : S23)]) t264) else (none)) else (some (([] : List (S23)), t266)))) else (none)) else (none)) else (none)) else (none)) else (none)) else (none)) = some (r1, r2) := H
         have A11 := Aside0.mk A110
         clear A110
         obtain ⟨ji12, hji12⟩ : ∃ j_ : Int, (wrap64 (x5_1 + 1)) = j_ := ⟨_, rfl⟩
         replace H : (if 0 ≤ (ji12) then (if (ji12) ≤ t263 then (if t263 ≤ (a0.size : Int) then (if 0 ≤ (wrap64 (t263 + 1)) then (if (wrap64 (t263 + 1)) ≤ t264 then (if t264 ≤ (a0.size : Int) then ((barscanref14_Verify.f kj5 (a0.extract ((ji12) : Int).toNat (t263 : Int).toNat) (a0.extract ((wrap64 (t263 + 1)) : Int).toNat (t264 : Int).toNat)).bind fun t266 => (if t266 = 0 then (if x4_1.length < 4398046511104 then (barscanref14_Parse.l0 kj5 a0 (x4_1 ++ [(⟨a0.extract ((ji12) : Int).toNat (t263 : Int).toNat, a0.extract ((wrap64 (t263 + 1)) : Int).toNat (t264 : Int).toNat⟩ : S23)]) t264) else (none)) else (some (([] : List (S23)), t266)))) else (none)) else (none)) else (none)) else (none)) else (none)) else (none)) = some (r1, r2) := by first | (rw [hji12] at H; exact H) | (simp only [hji12] at H ⊢; exact H)
         (try rw [hji12] at A11)
         have hji12w : (IntKind.i64.wrap (x5_1 + 1)) = ji12 := (i64_w _).trans hji12
         by_cases c13 : 0 ≤ (ji12)
         ·rw [if_pos c13] at H
          have c13b0 := eq_true c13
          have c13b1 : decide (0 ≤ (ji12)) = true := decide_eq_true c13
          clear c13
          by_cases c14 : (ji12) ≤ t263
          ·rw [if_pos c14] at H
           have c14b0 := eq_true c14
           have c14b1 : decide ((ji12) ≤ t263) = true := decide_eq_true c14
           clear c14
           by_cases c15 : t263 ≤ (a0.size : Int)
           ·rw [if_pos c15] at H
            have c15b0 := eq_true c15
            have c15b1 : decide (t263 ≤ (a0.size : Int)) = true := decide_eq_true c15
            clear c15
            obtain ⟨ji16, hji16⟩ : ∃ j_ : Int, (wrap64 (t263 + 1)) = j_ := ⟨_, rfl⟩
            replace H : (if 0 ≤ (ji16) then (if (ji16) ≤ t264 then (if t264 ≤ (a0.size : Int) then ((barscanref14_Verify.f kj5 (a0.extract ((ji12) : Int).toNat (t263 : Int).toNat) (a0.extract ((ji16) : Int).toNat (t264 : Int).toNat)).bind fun t266 => (if t266 = 0 then (if x4_1.length < 4398046511104 then (barscanref14_Parse.l0 kj5 a0 (x4_1 ++ [(⟨a0.extract ((ji12) : Int).toNat (t263 : Int).toNat, a0.extract ((ji16) : Int).toNat (t264 : Int).toNat⟩ : S23)]) t264) else (none)) else (some (([] : List (S23)), t266)))) else (none)) else (none)) else (none)) = some (r1, r2) := by first | (rw [hji16] at H; exact H) | (simp only [hji16] at H ⊢; exact H)
            (try rw [hji16] at A11)
            have hji16w : (IntKind.i64.wrap (t263 + 1)) = ji16 := (i64_w _).trans hji16
            by_cases c17 : 0 ≤ (ji16)
            ·rw [if_pos c17] at H
             have c17b0 := eq_true c17
             have c17b1 : decide (0 ≤ (ji16)) = true := decide_eq_true c17
             clear c17
             by_cases c18 : (ji16) ≤ t264
             ·rw [if_pos c18] at H
              have c18b0 := eq_true c18
              have c18b1 : decide ((ji16) ≤ t264) = true := decide_eq_true c18
              clear c18
              by_cases c19 : t264 ≤ (a0.size : Int)
              ·rw [if_pos c19] at H
               have c19b0 := eq_true c19
               have c19b1 : decide (t264 ≤ (a0.size : Int)) = true := decide_eq_true c19
               clear c19
               replace H := Option.bind_eq_some_iff.mp H
               obtain ⟨t266, A200, H⟩ := H
               replace H : (if t266 = 0 then (if x4_1.length < 4398046511104 then (barscanref14_Parse.l0 kj5 a0 (x4_1 ++ [(⟨a0.extract ((ji12) : Int).toNat (t263 : Int).toNat, a0.extract ((ji16) : Int).toNat (t264 : Int).toNat⟩ : S23)]) t264) else (none)) else (some (([] : List (S23)), t266))) = some (r1, r2) := H
               have A20 := Aside0.mk A200
               clear A200
               by_cases c21 : t266 = 0
               ·rw [if_pos c21] at H
                have c21b0 : (t266 == 0) = true := beq_iff_eq.mpr c21
                have c21b1 : (t266 != 0) = false := bne_eq_false_iff_eq.mpr c21
                clear c21
                by_cases c22 : x4_1.length < 4398046511104
                ·rw [if_pos c22] at H
                 have LMc22 := Aside0.mk c22
                 clear c22
                 obtain ⟨y267, hy267⟩ : ∃ y_ : List (S23), y_ = (x4_1 ++ [(⟨a0.extract ((ji12) : Int).toNat (t263 : Int).toNat, a0.extract ((ji16) : Int).toNat (t264 : Int).toNat⟩ : S23)]) := ⟨_, rfl⟩
                 replace H : (barscanref14_Parse.l0 kj5 a0 y267 t264) = some (r1, r2) := by first | (rw [hy267]; with_reducible exact H) | (have H2_ := (Option.bind_some _ _).symm.trans H; rw [hy267]; with_reducible exact H2_) | (have H2_ := (Option.bind_some _ _).symm.trans H; with_reducible exact H2_) | with_reducible exact H | (rw [hy267]; exact H) | exact H
                 have Ny267 := Aside0.mk hy267
                 clear hy267
                 have H' := Aside0.mk H
                 clear H
                 try go_wp2_with (first | ((with_reducible refine gate_callee (f := 30) rfl ?_); refine goesL_ (some 34) rfl rfl Tryz.func30 (by kernel_rfl) rfl #[.string a0, .int .u8 40, .int .i64 t263] rfl (by (try simp only [List.map_toArray, List.map_cons, List.map_nil]); first | done | rfl | (simp only [List.length_drop, List.length_take]; rfl)) ?_; (with_reducible refine (barscanref14_index.calls kj5 a0 40 t263 t264 _ A11.out).mono ?_); rintro e w' ⟨rfl, ⟨nd, rfl⟩⟩; refine ⟨_, rfl, ?_⟩; (try (rw [drewN_self wc]; generalize hq_ : World.drewN wc _ = wc; have n0_ : Aside0 (Kd.R k23 23 wc w.heap.size (fun _ => True) u4 x4_1) := ⟨by rw [← hq_]; exact (by (with_reducible repeat (first | apply Kd.R_alloc | apply Kd.R_drewN | apply Kd.R_drew)); exact HO_4.out)⟩; have n1_ : Aside0 (Below w.heap.size w wc) := ⟨by rw [← hq_]; exact (by repeat (first | (with_reducible first | exact HB.out | apply below_alloc | apply pw_below_drewN | apply below_drew1) | exact HB.out))⟩; clear HO_4 HB hq_; have HO_4 := n0_; have HB := n1_; clear n0_ n1_))))
                 have n0_ := Aside0.mk (Kd.R_drew HO_4.out)
                 have n1_ := Aside0.mk (below_drew1 HB.out)
                 clear HO_4
                 clear HB
                 have HO_4 := n0_
                 have HB := n1_
                 clear n0_ n1_
                 refine start_ (n := 13) (S := fun w' => True) (ds := []) #[false, false, false, false, false, false, false, false, false, false, false, false, false] (by kernel_rfl) rfl rfl trivial (fun hHeld => ?_); refine with_tabW barscanref14_Parse.tab12 barscanref14_Parse.bits12 (fun HT_ HW_ => ?_)
                 generalize wc.drew = w23 at HO_4 HB hHeld ⊢
                 refine pure_ (i := 0) (N := some 35) (v := ?_) (a' := ?_) #[true, false, false, false, false, false, false, false, false, false, false, false, false] rfl rfl (any_of HT_.out (by kernel_rfl)) (fun _ _ _ h => h) (Or.inl ⟨by rfl, ?_⟩) ?_ ?_
                 rotate_left
                 ·intro w'
                  go_simp
                  with_reducible rfl
                 rotate_left
                 ·simp only [Act.put, List.setIfInBounds_toArray, List.set_cons_zero, List.set_cons_succ, i64_w]
                  rfl
                 refine pure_ (i := 1) (N := some 36) (v := ?_) (a' := ?_) #[true, true, false, false, false, false, false, false, false, false, false, false, false] rfl rfl (any_of HT_.out (by kernel_rfl)) (fun _ _ _ h => h) (Or.inl ⟨by rfl, ?_⟩) ?_ ?_
                 rotate_left
                 ·intro w'
                  go_simp
                  with_reducible rfl
                 rotate_left
                 ·simp only [Act.put, List.setIfInBounds_toArray, List.set_cons_zero, List.set_cons_succ, i64_w]
                  rfl
                 refine pure_ (i := 2) (N := some 37) (v := ?_) (a' := ?_) #[true, true, true, false, false, false, false, false, false, false, false, false, false] rfl rfl (any_of HT_.out (by kernel_rfl)) (fun _ _ _ h => h) (Or.inl ⟨by rfl, ?_⟩) ?_ ?_
                 rotate_left
                 ·intro w'
                  go_simp
                  with_reducible rfl
                 rotate_left
                 ·simp only [Act.put, List.setIfInBounds_toArray, List.set_cons_zero, List.set_cons_succ, i64_w]
                  rfl
                 refine pure_ (i := 3) (N := some 38) (v := ?_) (a' := ?_) #[true, true, true, true, false, false, false, false, false, false, false, false, false] rfl rfl (any_of HT_.out (by kernel_rfl)) (fun _ _ _ h => h) (Or.inl ⟨by rfl, ?_⟩) ?_ ?_
                 rotate_left
                 ·intro w'
                  go_simp
                  with_reducible rfl
                 rotate_left
                 ·simp only [Act.put, List.setIfInBounds_toArray, List.set_cons_zero, List.set_cons_succ, i64_w]
                  rfl
                 refine pure_ (i := 4) (N := some 39) (v := ?_) (a' := ?_) #[true, true, true, true, true, false, false, false, false, false, false, false, false] rfl rfl (any_of HT_.out (by kernel_rfl)) (fun _ _ _ h => h) (Or.inl ⟨by rfl, ?_⟩) ?_ ?_
                 rotate_left
                 ·intro w'
                  go_simp
                  with_reducible rfl
                 rotate_left
                 ·simp only [Act.put, List.setIfInBounds_toArray, List.set_cons_zero, List.set_cons_succ, i64_w]
                  rfl
                 refine pure_ (i := 5) (N := some 40) (v := ?_) (a' := ?_) #[true, true, true, true, true, true, false, false, false, false, false, false, false] rfl rfl (any_of HT_.out (by kernel_rfl)) (fun _ _ _ h => h) (Or.inl ⟨by rfl, ?_⟩) ?_ ?_
                 rotate_left
                 ·intro w'
                  go_simp
                  with_reducible rfl
                 rotate_left
                 ·simp only [Act.put, List.setIfInBounds_toArray, List.set_cons_zero, List.set_cons_succ, i64_w]
                  rfl
                 refine pure_ (i := 6) (N := some 41) (v := ?_) (a' := ?_) #[true, true, true, true, true, true, true, false, false, false, false, false, false] rfl rfl (any_of HT_.out (by kernel_rfl)) (fun _ _ _ h => h) (Or.inl ⟨by rfl, ?_⟩) ?_ ?_
                 rotate_left
                 ·intro w'
                  go_simp
                  with_reducible rfl
                 rotate_left
                 ·simp only [Act.put, List.setIfInBounds_toArray, List.set_cons_zero, List.set_cons_succ, i64_w]
                  rfl
                 refine pure_ (i := 7) (N := some 42) (v := ?_) (a' := ?_) #[true, true, true, true, true, true, true, true, false, false, false, false, false] rfl rfl (any_of HT_.out (by kernel_rfl)) (fun _ _ _ h => h) (Or.inl ⟨by rfl, ?_⟩) ?_ ?_
                 rotate_left
                 ·intro w'
                  go_simp
                  with_reducible rfl
                 rotate_left
                 ·simp only [Act.put, List.setIfInBounds_toArray, List.set_cons_zero, List.set_cons_succ, i64_w]
                  rfl
                 refine pure_ (i := 8) (N := some 43) (v := ?_) (a' := ?_) #[true, true, true, true, true, true, true, true, true, false, false, false, false] rfl rfl (any_of HT_.out (by kernel_rfl)) (fun _ _ _ h => h) (Or.inl ⟨by rfl, ?_⟩) ?_ ?_
                 rotate_left
                 ·intro w'
                  go_simp
                  with_reducible rfl
                 rotate_left
                 ·simp only [Act.put, List.setIfInBounds_toArray, List.set_cons_zero, List.set_cons_succ, i64_w]
                  rfl
                 refine pure_ (i := 9) (N := some 44) (v := ?_) (a' := ?_) #[true, true, true, true, true, true, true, true, true, true, false, false, false] rfl rfl (any_of HT_.out (by kernel_rfl)) (fun _ _ _ h => h) (Or.inl ⟨by rfl, ?_⟩) ?_ ?_
                 rotate_left
                 ·intro w'
                  go_simp
                  with_reducible rfl
                 rotate_left
                 ·simp only [Act.put, List.setIfInBounds_toArray, List.set_cons_zero, List.set_cons_succ, i64_w]
                  rfl
                 refine pure_ (i := 10) (N := some 45) (v := ?_) (a' := ?_) #[true, true, true, true, true, true, true, true, true, true, true, false, false] rfl rfl (any_of HT_.out (by kernel_rfl)) (fun _ _ _ h => h) (Or.inl ⟨by rfl, ?_⟩) ?_ ?_
                 rotate_left
                 ·intro w'
                  go_simp
                  with_reducible rfl
                 rotate_left
                 ·simp only [Act.put, List.setIfInBounds_toArray, List.set_cons_zero, List.set_cons_succ, i64_w]
                  rfl
                 refine one_ (i := 11) (N := some 8) #[true, true, true, true, true, true, true, true, true, true, true, true, false] rfl rfl (one_of HT_.out (by kernel_rfl)) (by decide) (fun K hK => ?_)
                 refine box_step ?hg (N := 8) ?hd (cs := #[.string (⟨#[]⟩ : ByteArray), .string (⟨#[]⟩ : ByteArray)]) (t := 23) ?hr ?_; (case hd => rfl); (case hg => rfl); (case hr => first | (go_simp; done) | (go_simp; rfl))
                 intro gb265 hg w24 hbox hb
                 have n0_ := Aside0.mk (Kd.R_below (Kd.R_elderB (by (with_reducible repeat (first | apply Kd.R_alloc | apply Kd.R_drewN | apply Kd.R_drew)); exact HO_4.out) gb265 (Nat.le_of_eq hg.symm)) hb)
                 have n1_ := Aside0.mk (below_step (by repeat (first | (with_reducible first | exact HB.out | apply below_alloc | apply pw_below_drewN | apply below_drew1) | exact HB.out)) hb)
                 have n2_ := Aside0.mk (hbox)
                 have n3_ := Aside0.mk ((by rw [hg]; exact (below_size (by repeat (first | (with_reducible first | exact HB.out | apply below_alloc | apply pw_below_drewN | apply below_drew1) | exact HB.out))) : w.heap.size ≤ gb265))
                 have n4_ := Aside0.mk ((by rw [hg]; exact (below_size (by repeat (first | (with_reducible first | exact HB.out | apply below_alloc | apply pw_below_drewN | apply below_drew1) | exact HB.out))) : w.heap.size ≤ gb265))
                 clear HO_4
                 clear HB
                 have HO_4 := n0_
                 have HB := n1_
                 have BK265 := n2_
                 have GW265 := n3_
                 have GE265 := n4_
                 clear n0_ n1_ n2_ n3_ n4_
                 clear hb hbox hg
                 refine hK.out _ _ trivial (fun hHeld => ?_)
                 clear hK K
                 refine norm_ (a' := ?_) ?_ ?_
                 rotate_left
                 ·show Act.put _ (some 8) _ = _
                  simp only [Act.put, List.setIfInBounds_toArray, List.set_cons_zero, List.set_cons_succ, i64_w]
                  rfl
                 refine one_ (i := 12) (N := none) #[true, true, true, true, true, true, true, true, true, true, true, true, true] rfl rfl (one_of HT_.out (by kernel_rfl)) (by decide) (fun K hK => ?_)
                 have hs25 : w24.cell? ⟨gb265, 0, none⟩ = some (.string (⟨#[]⟩ : ByteArray)) := (blk_cell BK265.out 0).trans rfl
                 have hfs25 := blk_frozen BK265.out 0
                 have hs26 : w24.cell? ⟨gb265, 1, none⟩ = some (.string (⟨#[]⟩ : ByteArray)) := (blk_cell BK265.out 1).trans rfl
                 have hfs26 := blk_frozen BK265.out 1
                 refine skip_ (w1 := ?_) (by rfl) rfl ?_ ?_
                 rotate_left
                 ·go_simp
                  rfl
                 refine hK.out _ _ trivial (fun hHeld => ?_)
                 clear hK K
                 refine done_ (done_of HT_.out (by kernel_rfl)) ?_
                 have hcz27_0 : w24.cell? ⟨gb265, 0, none⟩ = some (.string (⟨#[]⟩ : ByteArray)) := (blk_cell BK265.out 0).trans rfl
                 have hcz27_1 : w24.cell? ⟨gb265, 1, none⟩ = some (.string (⟨#[]⟩ : ByteArray)) := (blk_cell BK265.out 1).trans rfl
                 have hfz27_0 := blk_frozen BK265.out 0
                 have hfz27_1 := blk_frozen BK265.out 1
                 try go_wp2_with (first | ((with_reducible refine gate_callee (f := 10) rfl ?_); refine goesL_ (some 47) rfl rfl Tryz.func10 (by kernel_rfl) rfl #[.agg #[.string (a0.extract ((ji12) : Int).toNat (t263 : Int).toNat), .string (a0.extract ((ji16) : Int).toNat (t264 : Int).toNat)]] rfl (by (try simp only [List.map_toArray, List.map_cons, List.map_nil]); first | done | (simp only [hji12, hji16]; rfl) | rfl | (simp only [List.length_drop, List.length_take]; rfl)) ?_; (with_reducible refine (barscanref14_Verify.calls kj5 (a0.extract ((ji12) : Int).toNat (t263 : Int).toNat) (a0.extract ((ji16) : Int).toNat (t264 : Int).toNat) t266 _ A20.out).mono ?_); rintro e w28 ⟨rfl, hb⟩; refine ⟨_, rfl, ?_⟩; have n0_ := Aside0.mk (Kd.R_below (by (with_reducible repeat (first | apply Kd.R_alloc | apply Kd.R_drewN | apply Kd.R_drew)); exact (Kd.R_mono (Kd.R_far (p := ⟨gb265, 1, none⟩) (Kd.R_far (p := ⟨gb265, 0, none⟩) (Kd.R_mono HO_4.out (fun k_ hk => (⟨hk, hk.2⟩ : _ ∧ k_ ≠ gb265))) (fun _ hk => hk.2) (.string (a0.extract ((ji12) : Int).toNat (t263 : Int).toNat))) (fun _ hk => hk.2) (.string (a0.extract ((ji16) : Int).toNat (t264 : Int).toNat))) (fun _ h_ => h_.1))) hb); have n1_ := Aside0.mk (blk_below (g := gb265) (o := .cells #[.string (a0.extract ((ji12) : Int).toNat (t263 : Int).toNat), .string (a0.extract ((ji16) : Int).toNat (t264 : Int).toNat)] 23 (0, 0)) (by (with_reducible repeat (first | refine blk_drewN ?_ _ | refine blk_drew ?_ | refine blk_alloc ?_ _)); refine blk_put (cs := #[.string (a0.extract ((ji12) : Int).toNat (t263 : Int).toNat), .string (⟨#[]⟩ : ByteArray)]) ?_ 1 _ rfl; (with_reducible repeat (first | refine blk_drewN ?_ _ | refine blk_drew ?_ | refine blk_alloc ?_ _)); refine blk_put (cs := #[.string (⟨#[]⟩ : ByteArray), .string (⟨#[]⟩ : ByteArray)]) ?_ 0 _ rfl; (with_reducible repeat (first | refine blk_drewN ?_ _ | refine blk_drew ?_ | refine blk_alloc ?_ _)); exact BK265.out) hb); have n2_ := Aside0.mk (below_step (by repeat (first | (with_reducible first | exact HB.out | apply below_alloc | apply pw_below_drewN | apply below_drew1 | refine below_set ?_ GE265.out) | exact HB.out)) hb); clear HO_4; clear BK265; clear HB; have HO_4 := n0_; have BK265 := n1_; have HB := n2_; clear n0_ n1_ n2_; (try clear hb); (try clear hb2); (try clear hk); (try clear hi); have hcz29_0 : w28.cell? ⟨gb265, 0, none⟩ = some (.string (a0.extract ((ji12) : Int).toNat (t263 : Int).toNat)) := (blk_cell BK265.out 0).trans rfl; have hcz29_1 : w28.cell? ⟨gb265, 1, none⟩ = some (.string (a0.extract ((ji16) : Int).toNat (t264 : Int).toNat)) := (blk_cell BK265.out 1).trans rfl; have hfz29_0 := blk_frozen BK265.out 0; have hfz29_1 := blk_frozen BK265.out 1) | ((with_reducible refine gate_builtin (b := .append) (xs := #[.tmp 51, .tmp 53]) rfl ?_); (try (refine gate_guard (by rfl) ?_; dsimp only)); at_builtin; refine Kd.R_append k23 (w0 := w) w.heap.size rfl (.tmp 51) (.tmp 53) 30 23 (.agg #[(.string ⟨#[]⟩), (.string ⟨#[]⟩)]) 32 rfl Tryz.underlying30 info23 rfl (by decide) (by omega) u4 x4_1 (⟨a0.extract ((ji12) : Int).toNat (t263 : Int).toNat, a0.extract ((ji16) : Int).toNat (t264 : Int).toNat⟩ : S23) [.string (a0.extract ((ji12) : Int).toNat (t263 : Int).toNat), .string (a0.extract ((ji16) : Int).toNat (t264 : Int).toNat)] (fun k_ => k_ ≠ gb265) (fun _ => False) rfl rfl ?aP (fun _ hk => hk.elim) ?aF ?aO ?aB ?aS ?aL ?_; (case aP => exact k23_mkM _ _ _ (⟨a0.extract ((ji12) : Int).toNat (t263 : Int).toNat, a0.extract ((ji16) : Int).toNat (t264 : Int).toNat⟩ : S23)); (case aB => exact (by repeat (first | (with_reducible first | exact HB.out | apply below_alloc | apply pw_below_drewN | apply below_drew1 | refine below_set ?_ GE265.out) | exact HB.out))); (case aF => exact (fun k_ hk => Kd.freshB (g := gb265) (o := .cells #[.string (a0.extract ((ji12) : Int).toNat (t263 : Int).toNat), .string (a0.extract ((ji16) : Int).toNat (t264 : Int).toNat)] 23 (0, 0)) (by (with_reducible repeat (first | refine blk_drewN ?_ _ | refine blk_drew ?_ | refine blk_alloc ?_ _)); exact BK265.out) k_ hk)); (case aO => exact (by (with_reducible repeat (first | apply Kd.R_alloc | apply Kd.R_drewN | apply Kd.R_drew)); exact Kd.R_mono HO_4.out (fun _ hk => hk.2))); (case aS => exact (below_size (by repeat (first | (with_reducible first | exact HB.out | apply below_alloc | apply pw_below_drewN | apply below_drew1 | refine below_set ?_ GE265.out) | exact HB.out)))); (case aL => have := LMc22.out; omega); intro v268 w30 ho hb hg hat; rw [← Ny267.out] at ho; have n0_ := Aside0.mk (blk_grown (g := gb265) (o := .cells #[.string (a0.extract ((ji12) : Int).toNat (t263 : Int).toNat), .string (a0.extract ((ji16) : Int).toNat (t264 : Int).toNat)] 23 (0, 0)) (by (with_reducible repeat (first | refine blk_drewN ?_ _ | refine blk_drew ?_ | refine blk_alloc ?_ _)); exact BK265.out) hg (Kd.R_away HO_4.out (fun _ hk => hk.2))); have n1_ := Aside0.mk (hb); have n2_ := Aside0.mk (ho); clear BK265; clear HB; clear HO_4; have BK265 := n0_; have HB := n1_; have HO269 := n2_; clear n0_ n1_ n2_; clear ho hb hg hat))
                 go_roundg kj5
                 case measure => have := HK1.out; have := HJ5.out; omega
                 case rel => exact ⟨(y267), (t264), (by first | rfl | (simp; done) | (simp [*]; done)), H', ⟨by have := HK1.out; have := HJ5.out; omega⟩, ⟨by (with_reducible repeat (first | apply Kd.R_alloc | apply Kd.R_drewN | apply Kd.R_drew)); exact Kd.R_mono HO269.out (fun _ hk => trivial)⟩, ⟨by repeat (first | (with_reducible first | exact HB.out | apply below_alloc | apply pw_below_drewN | apply below_drew1 | refine below_set ?_ GE265.out) | exact HB.out)⟩⟩
                ·rw [if_neg c22] at H
                 exact absurd H (by simp)
               ·rw [if_neg c21] at H
                have c21b0 : (t266 == 0) = false := beq_eq_false_iff_ne.mpr c21
                have c21b1 : (t266 != 0) = true := bne_iff_ne.mpr c21
                simp only [Option.some.injEq, Prod.mk.injEq] at H
                obtain ⟨rfl, rfl⟩ := H
                try go_wp2_with (first | ((with_reducible refine gate_callee (f := 30) rfl ?_); refine goesL_ (some 34) rfl rfl Tryz.func30 (by kernel_rfl) rfl #[.string a0, .int .u8 40, .int .i64 t263] rfl (by (try simp only [List.map_toArray, List.map_cons, List.map_nil]); first | done | rfl | (simp only [List.length_drop, List.length_take]; rfl)) ?_; (with_reducible refine (barscanref14_index.calls kj5 a0 40 t263 t264 _ A11.out).mono ?_); rintro e w' ⟨rfl, ⟨nd, rfl⟩⟩; refine ⟨_, rfl, ?_⟩; (try (rw [drewN_self wc]; generalize hq_ : World.drewN wc _ = wc; have n0_ : Aside0 (Kd.R k23 23 wc w.heap.size (fun _ => True) u4 x4_1) := ⟨by rw [← hq_]; exact (by (with_reducible repeat (first | apply Kd.R_alloc | apply Kd.R_drewN | apply Kd.R_drew)); exact HO_4.out)⟩; have n1_ : Aside0 (Below w.heap.size w wc) := ⟨by rw [← hq_]; exact (by repeat (first | (with_reducible first | exact HB.out | apply below_alloc | apply pw_below_drewN | apply below_drew1) | exact HB.out))⟩; clear HO_4 HB hq_; have HO_4 := n0_; have HB := n1_; clear n0_ n1_))))
                have n0_ := Aside0.mk (Kd.R_drew HO_4.out)
                have n1_ := Aside0.mk (below_drew1 HB.out)
                clear HO_4
                clear HB
                have HO_4 := n0_
                have HB := n1_
                clear n0_ n1_
                refine start_ (n := 13) (S := fun w' => True) (ds := []) #[false, false, false, false, false, false, false, false, false, false, false, false, false] (by kernel_rfl) rfl rfl trivial (fun hHeld => ?_); refine with_tabW barscanref14_Parse.tab12 barscanref14_Parse.bits12 (fun HT_ HW_ => ?_)
                generalize wc.drew = w31 at HO_4 HB hHeld ⊢
                refine pure_ (i := 0) (N := some 35) (v := ?_) (a' := ?_) #[true, false, false, false, false, false, false, false, false, false, false, false, false] rfl rfl (any_of HT_.out (by kernel_rfl)) (fun _ _ _ h => h) (Or.inl ⟨by rfl, ?_⟩) ?_ ?_
                rotate_left
                ·intro w'
                 go_simp
                 with_reducible rfl
                rotate_left
                ·simp only [Act.put, List.setIfInBounds_toArray, List.set_cons_zero, List.set_cons_succ, i64_w]
                 rfl
                refine pure_ (i := 1) (N := some 36) (v := ?_) (a' := ?_) #[true, true, false, false, false, false, false, false, false, false, false, false, false] rfl rfl (any_of HT_.out (by kernel_rfl)) (fun _ _ _ h => h) (Or.inl ⟨by rfl, ?_⟩) ?_ ?_
                rotate_left
                ·intro w'
                 go_simp
                 with_reducible rfl
                rotate_left
                ·simp only [Act.put, List.setIfInBounds_toArray, List.set_cons_zero, List.set_cons_succ, i64_w]
                 rfl
                refine pure_ (i := 2) (N := some 37) (v := ?_) (a' := ?_) #[true, true, true, false, false, false, false, false, false, false, false, false, false] rfl rfl (any_of HT_.out (by kernel_rfl)) (fun _ _ _ h => h) (Or.inl ⟨by rfl, ?_⟩) ?_ ?_
                rotate_left
                ·intro w'
                 go_simp
                 with_reducible rfl
                rotate_left
                ·simp only [Act.put, List.setIfInBounds_toArray, List.set_cons_zero, List.set_cons_succ, i64_w]
                 rfl
                refine pure_ (i := 3) (N := some 38) (v := ?_) (a' := ?_) #[true, true, true, true, false, false, false, false, false, false, false, false, false] rfl rfl (any_of HT_.out (by kernel_rfl)) (fun _ _ _ h => h) (Or.inl ⟨by rfl, ?_⟩) ?_ ?_
                rotate_left
                ·intro w'
                 go_simp
                 with_reducible rfl
                rotate_left
                ·simp only [Act.put, List.setIfInBounds_toArray, List.set_cons_zero, List.set_cons_succ, i64_w]
                 rfl
                refine pure_ (i := 4) (N := some 39) (v := ?_) (a' := ?_) #[true, true, true, true, true, false, false, false, false, false, false, false, false] rfl rfl (any_of HT_.out (by kernel_rfl)) (fun _ _ _ h => h) (Or.inl ⟨by rfl, ?_⟩) ?_ ?_
                rotate_left
                ·intro w'
                 go_simp
                 with_reducible rfl
                rotate_left
                ·simp only [Act.put, List.setIfInBounds_toArray, List.set_cons_zero, List.set_cons_succ, i64_w]
                 rfl
                refine pure_ (i := 5) (N := some 40) (v := ?_) (a' := ?_) #[true, true, true, true, true, true, false, false, false, false, false, false, false] rfl rfl (any_of HT_.out (by kernel_rfl)) (fun _ _ _ h => h) (Or.inl ⟨by rfl, ?_⟩) ?_ ?_
                rotate_left
                ·intro w'
                 go_simp
                 with_reducible rfl
                rotate_left
                ·simp only [Act.put, List.setIfInBounds_toArray, List.set_cons_zero, List.set_cons_succ, i64_w]
                 rfl
                refine pure_ (i := 6) (N := some 41) (v := ?_) (a' := ?_) #[true, true, true, true, true, true, true, false, false, false, false, false, false] rfl rfl (any_of HT_.out (by kernel_rfl)) (fun _ _ _ h => h) (Or.inl ⟨by rfl, ?_⟩) ?_ ?_
                rotate_left
                ·intro w'
                 go_simp
                 with_reducible rfl
                rotate_left
                ·simp only [Act.put, List.setIfInBounds_toArray, List.set_cons_zero, List.set_cons_succ, i64_w]
                 rfl
                refine pure_ (i := 7) (N := some 42) (v := ?_) (a' := ?_) #[true, true, true, true, true, true, true, true, false, false, false, false, false] rfl rfl (any_of HT_.out (by kernel_rfl)) (fun _ _ _ h => h) (Or.inl ⟨by rfl, ?_⟩) ?_ ?_
                rotate_left
                ·intro w'
                 go_simp
                 with_reducible rfl
                rotate_left
                ·simp only [Act.put, List.setIfInBounds_toArray, List.set_cons_zero, List.set_cons_succ, i64_w]
                 rfl
                refine pure_ (i := 8) (N := some 43) (v := ?_) (a' := ?_) #[true, true, true, true, true, true, true, true, true, false, false, false, false] rfl rfl (any_of HT_.out (by kernel_rfl)) (fun _ _ _ h => h) (Or.inl ⟨by rfl, ?_⟩) ?_ ?_
                rotate_left
                ·intro w'
                 go_simp
                 with_reducible rfl
                rotate_left
                ·simp only [Act.put, List.setIfInBounds_toArray, List.set_cons_zero, List.set_cons_succ, i64_w]
                 rfl
                refine pure_ (i := 9) (N := some 44) (v := ?_) (a' := ?_) #[true, true, true, true, true, true, true, true, true, true, false, false, false] rfl rfl (any_of HT_.out (by kernel_rfl)) (fun _ _ _ h => h) (Or.inl ⟨by rfl, ?_⟩) ?_ ?_
                rotate_left
                ·intro w'
                 go_simp
                 with_reducible rfl
                rotate_left
                ·simp only [Act.put, List.setIfInBounds_toArray, List.set_cons_zero, List.set_cons_succ, i64_w]
                 rfl
                refine pure_ (i := 10) (N := some 45) (v := ?_) (a' := ?_) #[true, true, true, true, true, true, true, true, true, true, true, false, false] rfl rfl (any_of HT_.out (by kernel_rfl)) (fun _ _ _ h => h) (Or.inl ⟨by rfl, ?_⟩) ?_ ?_
                rotate_left
                ·intro w'
                 go_simp
                 with_reducible rfl
                rotate_left
                ·simp only [Act.put, List.setIfInBounds_toArray, List.set_cons_zero, List.set_cons_succ, i64_w]
                 rfl
                refine one_ (i := 11) (N := some 8) #[true, true, true, true, true, true, true, true, true, true, true, true, false] rfl rfl (one_of HT_.out (by kernel_rfl)) (by decide) (fun K hK => ?_)
                refine box_step ?hg (N := 8) ?hd (cs := #[.string (⟨#[]⟩ : ByteArray), .string (⟨#[]⟩ : ByteArray)]) (t := 23) ?hr ?_; (case hd => rfl); (case hg => rfl); (case hr => first | (go_simp; done) | (go_simp; rfl))
                intro gb265 hg w32 hbox hb
                have n0_ := Aside0.mk (Kd.R_below (Kd.R_elderB (by (with_reducible repeat (first | apply Kd.R_alloc | apply Kd.R_drewN | apply Kd.R_drew)); exact HO_4.out) gb265 (Nat.le_of_eq hg.symm)) hb)
                have n1_ := Aside0.mk (below_step (by repeat (first | (with_reducible first | exact HB.out | apply below_alloc | apply pw_below_drewN | apply below_drew1) | exact HB.out)) hb)
                have n2_ := Aside0.mk (hbox)
                have n3_ := Aside0.mk ((by rw [hg]; exact (below_size (by repeat (first | (with_reducible first | exact HB.out | apply below_alloc | apply pw_below_drewN | apply below_drew1) | exact HB.out))) : w.heap.size ≤ gb265))
                have n4_ := Aside0.mk ((by rw [hg]; exact (below_size (by repeat (first | (with_reducible first | exact HB.out | apply below_alloc | apply pw_below_drewN | apply below_drew1) | exact HB.out))) : w.heap.size ≤ gb265))
                clear HO_4
                clear HB
                have HO_4 := n0_
                have HB := n1_
                have BK265 := n2_
                have GW265 := n3_
                have GE265 := n4_
                clear n0_ n1_ n2_ n3_ n4_
                clear hb hbox hg
                refine hK.out _ _ trivial (fun hHeld => ?_)
                clear hK K
                refine norm_ (a' := ?_) ?_ ?_
                rotate_left
                ·show Act.put _ (some 8) _ = _
                 simp only [Act.put, List.setIfInBounds_toArray, List.set_cons_zero, List.set_cons_succ, i64_w]
                 rfl
                refine one_ (i := 12) (N := none) #[true, true, true, true, true, true, true, true, true, true, true, true, true] rfl rfl (one_of HT_.out (by kernel_rfl)) (by decide) (fun K hK => ?_)
                have hs33 : w32.cell? ⟨gb265, 0, none⟩ = some (.string (⟨#[]⟩ : ByteArray)) := (blk_cell BK265.out 0).trans rfl
                have hfs33 := blk_frozen BK265.out 0
                have hs34 : w32.cell? ⟨gb265, 1, none⟩ = some (.string (⟨#[]⟩ : ByteArray)) := (blk_cell BK265.out 1).trans rfl
                have hfs34 := blk_frozen BK265.out 1
                refine skip_ (w1 := ?_) (by rfl) rfl ?_ ?_
                rotate_left
                ·go_simp
                 rfl
                refine hK.out _ _ trivial (fun hHeld => ?_)
                clear hK K
                refine done_ (done_of HT_.out (by kernel_rfl)) ?_
                have hcz35_0 : w32.cell? ⟨gb265, 0, none⟩ = some (.string (⟨#[]⟩ : ByteArray)) := (blk_cell BK265.out 0).trans rfl
                have hcz35_1 : w32.cell? ⟨gb265, 1, none⟩ = some (.string (⟨#[]⟩ : ByteArray)) := (blk_cell BK265.out 1).trans rfl
                have hfz35_0 := blk_frozen BK265.out 0
                have hfz35_1 := blk_frozen BK265.out 1
                try go_wp2_with (first | ((with_reducible refine gate_callee (f := 10) rfl ?_); refine goesL_ (some 47) rfl rfl Tryz.func10 (by kernel_rfl) rfl #[.agg #[.string (a0.extract ((ji12) : Int).toNat (t263 : Int).toNat), .string (a0.extract ((ji16) : Int).toNat (t264 : Int).toNat)]] rfl (by (try simp only [List.map_toArray, List.map_cons, List.map_nil]); first | done | (simp only [hji12, hji16]; rfl) | rfl | (simp only [List.length_drop, List.length_take]; rfl)) ?_; (with_reducible refine (barscanref14_Verify.calls kj5 (a0.extract ((ji12) : Int).toNat (t263 : Int).toNat) (a0.extract ((ji16) : Int).toNat (t264 : Int).toNat) t266 _ A20.out).mono ?_); rintro e w36 ⟨rfl, hb⟩; refine ⟨_, rfl, ?_⟩; have n0_ := Aside0.mk (Kd.R_below (by (with_reducible repeat (first | apply Kd.R_alloc | apply Kd.R_drewN | apply Kd.R_drew)); exact (Kd.R_mono (Kd.R_far (p := ⟨gb265, 1, none⟩) (Kd.R_far (p := ⟨gb265, 0, none⟩) (Kd.R_mono HO_4.out (fun k_ hk => (⟨hk, hk.2⟩ : _ ∧ k_ ≠ gb265))) (fun _ hk => hk.2) (.string (a0.extract ((ji12) : Int).toNat (t263 : Int).toNat))) (fun _ hk => hk.2) (.string (a0.extract ((ji16) : Int).toNat (t264 : Int).toNat))) (fun _ h_ => h_.1))) hb); have n1_ := Aside0.mk (blk_below (g := gb265) (o := .cells #[.string (a0.extract ((ji12) : Int).toNat (t263 : Int).toNat), .string (a0.extract ((ji16) : Int).toNat (t264 : Int).toNat)] 23 (0, 0)) (by (with_reducible repeat (first | refine blk_drewN ?_ _ | refine blk_drew ?_ | refine blk_alloc ?_ _)); refine blk_put (cs := #[.string (a0.extract ((ji12) : Int).toNat (t263 : Int).toNat), .string (⟨#[]⟩ : ByteArray)]) ?_ 1 _ rfl; (with_reducible repeat (first | refine blk_drewN ?_ _ | refine blk_drew ?_ | refine blk_alloc ?_ _)); refine blk_put (cs := #[.string (⟨#[]⟩ : ByteArray), .string (⟨#[]⟩ : ByteArray)]) ?_ 0 _ rfl; (with_reducible repeat (first | refine blk_drewN ?_ _ | refine blk_drew ?_ | refine blk_alloc ?_ _)); exact BK265.out) hb); have n2_ := Aside0.mk (below_step (by repeat (first | (with_reducible first | exact HB.out | apply below_alloc | apply pw_below_drewN | apply below_drew1 | refine below_set ?_ GE265.out) | exact HB.out)) hb); clear HO_4; clear BK265; clear HB; have HO_4 := n0_; have BK265 := n1_; have HB := n2_; clear n0_ n1_ n2_; (try clear hb); (try clear hb2); (try clear hk); (try clear hi)))
                go_ret2
                exact ⟨_, by first | rfl | (simp [errW_none, errW_some] <;> rfl) | (simp only [← hji12, ← hji16]; first | rfl | (simp [errW_none, errW_some] <;> rfl)) | (simp [*, errW_none, errW_some] <;> rfl), by first | exact Kd.R_nil _ _ _ _ _ | exact Kd.N_nil _ _ _ _ _ | exact Kd.V_nil _ _ _ _ _ | exact Kd.Q_nil _ _ _ _ _ | exact Kd.S_nil _ _ _ _ _, by repeat (first | (with_reducible first | exact HB.out | apply below_alloc | apply pw_below_drewN | apply below_drew1 | refine below_set ?_ GE265.out) | exact HB.out)⟩
              ·rw [if_neg c19] at H
               exact absurd H (by simp)
             ·rw [if_neg c18] at H
              exact absurd H (by simp)
            ·rw [if_neg c17] at H
             exact absurd H (by simp)
           ·rw [if_neg c15] at H
            exact absurd H (by simp)
          ·rw [if_neg c14] at H
           exact absurd H (by simp)
         ·rw [if_neg c13] at H
          exact absurd H (by simp)
     ·rw [if_neg c4] at H
      have c4b0 : decide (x5_1 < (a0.size : Int)) = false := decide_eq_false c4
      clear c4
      simp only [Option.some.injEq, Prod.mk.injEq] at H
      obtain ⟨rfl, rfl⟩ := H
      go_wp2
      go_ret2
      exact ⟨_, by first | rfl | (simp [errW_none, errW_some] <;> rfl) | (simp [*, errW_none, errW_some] <;> rfl), by (with_reducible repeat (first | apply Kd.R_alloc | apply Kd.R_drewN | apply Kd.R_drew)); exact HO_4.out, by repeat (first | (with_reducible first | exact HB.out | apply below_alloc | apply pw_below_drewN | apply below_drew1) | exact HB.out)⟩

end Go.Proofs.YtghlbdemlmbijaaGreatDoor.Q

/- Texts: Format of the reference; Parse of both. -/
namespace Go.Proofs.YtghlbdemlmbijaaGreatDoor.Q
open Go.RowKit Go.Proofs.YtghlbdemlmbijaaGreatDoorW.PrintWords Go.Proofs.YtghlbdemlmbijaaGreatDoorW.PrintLast Go.Proofs.YtghlbdemlmbijaaGreatDoorW.PrintMore
set_option linter.unusedVariables false
set_option linter.unusedSimpArgs false
theorem add_piece (x : ByteArray) (e : El) : (((x ++ (⟨#[40]⟩ : ByteArray)) ++ e.f0) ++ (⟨#[41]⟩ : ByteArray)) ++ e.f1 = x ++ piece e := by
  apply bs_inj
  unfold piece
  simp only [bs_append, List.append_assoc]
theorem rfm_l (l : List El) (hz : SzL l) (n : Nat) : ∀ (i : Nat) (out : ByteArray), i + n = l.length → out.size ≤ 4096 →
    Ev (fun k => barscanref14_Format.l0 k l out i) (if ((fmR l n i out).size : Int) > 4096 then (⟨#[]⟩, 4) else (fmR l n i out, 0)) := by
  induction n with
  | zero =>
    intro i out h ho
    refine Ev.succ ?_
    simp only [barscanref14_Format.l0]
    rw [if_neg (show ¬ ((fmR l 0 i out).size : Int) > 4096 from by show ¬ (out.size : Int) > 4096; omega)]
    exact Ev.neg (by omega) (Ev.const rfl)
  | succ n ih =>
    intro i out h ho
    have hz1 := hz.1
    have hz2 := hz.2 i
    have hp : (piece (rd_T23 l i)).size = 2 + (rd_T23 l i).f0.size + (rd_T23 l i).f1.size := by
      unfold piece
      simp only [ByteArray.size_append]
      show 1 + _ + 1 + _ = _
      omega
    have e40 : (⟨#[40]⟩ : ByteArray).size = 1 := rfl
    have e41 : (⟨#[41]⟩ : ByteArray).size = 1 := rfl
    refine Ev.succ ?_
    simp only [barscanref14_Format.l0, add_piece]
    refine Ev.pos (by omega) (Ev.pos (by omega) (Ev.pos (by omega) (Ev.pos (by simp only [ByteArray.size_append, e40]; omega) (Ev.pos (by simp only [ByteArray.size_append, e40]; omega) (Ev.pos (by simp only [ByteArray.size_append, e40, e41]; omega) ?_)))))
    have hg := fmR_grow l n (i + 1) (out ++ piece (rd_T23 l i))
    show Ev _ (if ((fmR l n (i + 1) (out ++ piece (rd_T23 l i))).size : Int) > 4096 then (⟨#[]⟩, 4) else (fmR l n (i + 1) (out ++ piece (rd_T23 l i)), 0))
    by_cases hv : ((out ++ piece (rd_T23 l i)).size : Int) > 4096
    · rw [if_pos (by omega)]
      exact Ev.pos hv (Ev.const rfl)
    · refine Ev.neg hv ?_
      rw [wrap_up i (by omega)]
      exact ih (i + 1) (out ++ piece (rd_T23 l i)) (by omega) (by omega)
theorem rfm_ev (l : List El) (hz : SzL l) : Ev (fun k => barscanref14_Format.f k l) (fmS l) := by
  unfold barscanref14_Format.f fmS
  refine Ev.bind (rall_ev l hz) ?_
  by_cases h : allS l = 0
  · rw [if_pos h]
    exact Ev.pos h (rfm_l l hz l.length 0 ⟨#[]⟩ (by omega) (by show 0 ≤ 4096; omega))
  · rw [if_neg h]
    exact Ev.neg h (Ev.const rfl)
/-! ### Parse -/
abbrev mk (l : List UInt8) : ByteArray := ⟨l.toArray⟩
theorem mk_bs (s : ByteArray) : mk (bs s) = s := Lib.mk_data s
def upto' (c : UInt8) (l : List UInt8) : List UInt8 := l.takeWhile (fun x => x != c)
def from' (c : UInt8) (l : List UInt8) : List UInt8 := l.dropWhile (fun x => x != c)
theorem upto_from (c : UInt8) (l : List UInt8) : upto' c l ++ from' c l = l := List.takeWhile_append_dropWhile
theorem upto_take (c : UInt8) (l : List UInt8) : upto' c l = l.take (upto' c l).length := by
  have h : (upto' c l ++ from' c l).take (upto' c l).length = upto' c l := by simp
  rw [upto_from] at h
  exact h.symm
theorem from_drop (c : UInt8) (l : List UInt8) : from' c l = l.drop (upto' c l).length := by
  have h : (upto' c l ++ from' c l).drop (upto' c l).length = from' c l := by simp
  rw [upto_from] at h
  exact h.symm
theorem from_head {c d : UInt8} {l t : List UInt8} (h : from' c l = d :: t) : d = c := by
  unfold from' at h
  induction l with
  | nil => cases h
  | cons a l ih =>
    by_cases ha : a = c
    · subst ha
      rw [List.dropWhile_cons_of_neg (by simp)] at h
      injection h with h1 _
      exact h1.symm
    · rw [List.dropWhile_cons_of_pos (by simpa using ha)] at h
      exact ih h
theorem index_upto (c : UInt8) (l : List UInt8) : (from' c l = [] → Lib.indexByte l c = -1) ∧ (from' c l ≠ [] → Lib.indexByte l c = ((upto' c l).length : Int)) := by
  unfold from' upto'
  induction l with
  | nil => exact ⟨fun _ => rfl, fun h => absurd rfl h⟩
  | cons a l ih =>
    by_cases ha : a = c
    · subst ha
      rw [List.dropWhile_cons_of_neg (by simp), List.takeWhile_cons_of_neg (by simp)]
      exact ⟨fun h => absurd h (by simp), fun _ => by simp [Lib.indexByte]⟩
    · rw [List.dropWhile_cons_of_pos (by simpa using ha), List.takeWhile_cons_of_pos (by simpa using ha)]
      have h1 : (a == c) = false := beq_eq_false_iff_ne.mpr ha
      simp only [Lib.indexByte, h1, Bool.false_eq_true, if_false]
      refine ⟨fun h => by simp [ih.1 h], fun h => ?_⟩
      rw [ih.2 h, if_neg (by simp)]
      simp
theorem rindex_l (s : ByteArray) (hs : s.size < 4611686018427387904) (c : UInt8) (n : Nat) : ∀ (k i : Nat), i + n = s.size → n < k → barscanref14_index.l0 k s (c.toNat : Int) i = some ((i + (upto' c ((bs s).drop i)).length : Nat) : Int) := by
  have hl := bs_len s
  induction n with
  | zero =>
    intro k i h1 h2
    obtain ⟨k, rfl⟩ : ∃ m, k = m + 1 := ⟨k - 1, by omega⟩
    simp only [barscanref14_index.l0]
    rw [if_neg (by omega), List.drop_of_length_le (by omega)]
    rfl
  | succ n ih =>
    intro k i h1 h2
    obtain ⟨k, rfl⟩ : ∃ m, k = m + 1 := ⟨k - 1, by omega⟩
    have hlt : i < (bs s).length := by omega
    have hd : (bs s).drop i = (bs s)[i] :: (bs s).drop (i + 1) := List.drop_eq_getElem_cons hlt
    simp only [barscanref14_index.l0]
    rw [if_pos (by omega), if_pos (by omega), bt_nat s i hlt, hd]
    unfold upto'
    by_cases he : (bs s)[i] = c
    · rw [if_pos (by rw [he]), List.takeWhile_cons_of_neg (by simpa using he)]
      simp
    · rw [if_neg (fun h => he (UInt8.toNat_inj.1 (by omega))), List.takeWhile_cons_of_pos (by simpa using he), wrap_up i (by omega), ih k (i + 1) (by omega) (by omega)]
      unfold upto'
      congr 2
      simp only [List.length_cons]
      omega
theorem rindex_ev (s : ByteArray) (hs : s.size < 4611686018427387904) (c : UInt8) (i : Nat) (hi : i ≤ s.size) : Ev (fun k => barscanref14_index.f k s (c.toNat : Int) i) ((i + (upto' c ((bs s).drop i)).length : Nat) : Int) :=
  ⟨s.size + 1, fun k hk => rindex_l s hs c (s.size - i) k i (by omega) (by omega)⟩
def parseR : Nat → List UInt8 → List El → List El × Int
  | 0, _, acc => (acc, 0)
  | n + 1, l, acc => if l = [] then (acc, 0) else match from' 41 l with
    | [] => ([], 9)
    | _ :: t => if l.head? = some 40 then (if verS (mk ((upto' 41 l).drop 1)) (mk (upto' 40 t)) = 0 then parseR n (from' 40 t) (acc ++ [⟨mk ((upto' 41 l).drop 1), mk (upto' 40 t)⟩]) else ([], verS (mk ((upto' 41 l).drop 1)) (mk (upto' 40 t)))) else ([], 9)
theorem from_len (c : UInt8) (l : List UInt8) : (from' c l).length ≤ l.length := by
  rw [from_drop]; simp
theorem upto_len (c : UInt8) (l : List UInt8) : (upto' c l).length ≤ l.length := by
  rw [upto_take]; simp; omega
theorem head_at {s : ByteArray} (h : 0 < s.size) : ((bt s 0) = 40 ↔ (bs s).head? = some 40) := by
  have hlt : 0 < (bs s).length := by rw [bs_len]; exact h
  rw [show (0 : Int) = ((0 : Nat) : Int) from rfl, bt_nat s 0 hlt, List.head?_eq_getElem?, List.getElem?_eq_getElem hlt, Option.some_inj]
  constructor
  · intro h2; exact UInt8.toNat_inj.1 (by show _ = 40; omega)
  · intro h2; rw [h2]; rfl
theorem gparse_l (n : Nat) : ∀ (s : ByteArray) (acc : List El), s.size < n → s.size ≤ 4096 → acc.length + s.size ≤ 4096 → Ev (fun k => gs1_Parse.l0 k s acc) (parseR n (bs s) acc) := by
  induction n with
  | zero => intro s acc h; omega
  | succ n ih =>
    intro s acc h hs ha
    have hl := bs_len s
    refine Ev.succ ?_
    simp only [gs1_Parse.l0, strings_IndexByte.f, Option.bind_some, bs_toList]
    unfold parseR
    by_cases h0 : bs s = []
    · rw [if_pos h0]
      exact Ev.pos h0 (Ev.const rfl)
    · rw [if_neg h0]
      have hpos : 0 < s.size := by rw [← hl]; exact List.length_pos_iff.2 h0
      refine Ev.neg h0 (Ev.pos (by omega) ?_)
      have hi := index_upto 41 (bs s)
      have h41 : ((41 : Int)).toNat.toUInt8 = 41 := rfl
      have h40 : ((40 : Int)).toNat.toUInt8 = 40 := rfl
      rw [h41]
      have bad : ∀ x : Int, Ev (fun k => gs1_Parse.j1 k s acc x true) (([], 9) : List El × Int) := by
        intro x
        refine Ev.succ ?_
        simp only [gs1_Parse.j1]
        exact Ev.pos trivial (Ev.const rfl)
      rcases hfr : from' 41 (bs s) with _ | ⟨c, r⟩
      · rw [hi.1 hfr]
        by_cases hh : bt s 0 = 40
        · exact Ev.pos hh (bad _)
        · exact Ev.neg hh (bad _)
      · have hne : from' 41 (bs s) ≠ [] := by rw [hfr]; simp
        rw [hi.2 hne]
        obtain ⟨o, ho⟩ : ∃ o : Nat, (upto' 41 (bs s)).length = o := ⟨_, rfl⟩
        rw [ho]
        have hc : c = 41 := from_head hfr
        have hsp := upto_from 41 (bs s)
        have hlen : o + (r.length + 1) = s.size := by
          have := congrArg List.length hsp
          rw [List.length_append, hfr, List.length_cons, ho, hl] at this
          exact this
        show Ev _ (if (bs s).head? = some 40 then _ else _)
        by_cases hh : bt s 0 = 40
        · refine Ev.pos hh ?_
          have hh2 := (head_at hpos).1 hh
          rw [if_pos hh2]
          have ho1 : 1 ≤ o := by
            rcases Nat.eq_zero_or_pos o with h3 | h3
            · exfalso
              have h4 : upto' 41 (bs s) = [] := List.length_eq_zero_iff.1 (by omega)
              rw [h4, List.nil_append, hfr, hc] at hsp
              rw [← hsp] at hh2
              cases hh2
            · exact h3
          have hdr : (bs s).drop (o + 1) = r := by
            have h3 := from_drop 41 (bs s)
            rw [hfr, ho] at h3
            rw [← List.drop_drop, ← h3]
            rfl
          have hR : bs (s.extract (o + 1) s.size) = r := by
            rw [bs_extract, hdr, List.take_of_length_le (by omega)]
          have hA : bs (s.extract 1 o) = (upto' 41 (bs s)).drop 1 := by
            rw [bs_extract, upto_take, ho, List.drop_take]
          have hRs : (s.extract (o + 1) s.size).size = r.length := by rw [← bs_len, hR]
          have hAs : (s.extract 1 o).size < 1073741824 := by rw [← bs_len, hA, List.length_drop, ho]; omega
          have eA : s.extract 1 o = mk ((upto' 41 (bs s)).drop 1) := by rw [← hA, mk_bs]
          refine Ev.succ ?_
          simp only [gs1_Parse.j1]
          rw [show (wrap64 ((o : Int) + 1)) = ((o + 1 : Nat) : Int) from wrap_up o (by omega)]
          simp only [Int.toNat_natCast]
          refine Ev.neg (by simp) (Ev.pos (by omega) (Ev.pos (by omega) (Ev.pos (by omega) (Ev.pos (by omega) ?_))))
          simp only [strings_IndexByte.f, Option.bind_some, h40, hR]
          have hi2 := index_upto 40 r
          rcases hf2 : from' 40 r with _ | ⟨c2, r2⟩
          · rw [hi2.1 hf2]
            have hup : upto' 40 r = r := by have := upto_from 40 r; rw [hf2, List.append_nil] at this; exact this
            have eD : s.extract (o + 1) s.size = mk r := by rw [← hR, mk_bs]
            rw [eA, eD, hup]
            rw [eA] at hAs
            refine Ev.neg (by omega) (Ev.bind (ver_ev _ _ hAs (by rw [← eD, hRs]; omega)) ?_)
            by_cases hv : verS (mk ((upto' 41 (bs s)).drop 1)) (mk r) = 0
            · rw [if_pos hv]
              refine Ev.pos hv (Ev.pos (by omega) ?_)
              exact ih ⟨#[]⟩ _ (by show 0 < n; omega) (by show 0 ≤ 4096; omega) (by rw [List.length_append]; show acc.length + 1 + 0 ≤ 4096; omega)
            · rw [if_neg hv]
              exact Ev.neg hv (Ev.const rfl)
          · have hne2 : from' 40 r ≠ [] := by rw [hf2]; simp
            rw [hi2.2 hne2]
            obtain ⟨o2, ho2⟩ : ∃ o2 : Nat, (upto' 40 r).length = o2 := ⟨_, rfl⟩
            rw [ho2]
            have hsp2 := congrArg List.length (upto_from 40 r)
            rw [List.length_append, hf2, List.length_cons, ho2] at hsp2
            simp only [Int.toNat_natCast]
            have hD : bs ((s.extract (o + 1) s.size).extract 0 o2) = upto' 40 r := by rw [bs_extract, hR, List.drop_zero, Nat.sub_zero, upto_take, ho2]
            have hX : bs ((s.extract (o + 1) s.size).extract o2 (s.extract (o + 1) s.size).size) = from' 40 r := by
              rw [bs_extract, hR, hRs, from_drop, ho2, List.take_of_length_le (by rw [List.length_drop]; omega)]
            have eD : (s.extract (o + 1) s.size).extract 0 o2 = mk (upto' 40 r) := by rw [← hD, mk_bs]
            have hXs : ((s.extract (o + 1) s.size).extract o2 (s.extract (o + 1) s.size).size).size = r2.length + 1 := by rw [← bs_len, hX, hf2]; rfl
            rw [← hf2, ← hX]
            rw [eA, eD]
            rw [eA] at hAs
            refine Ev.pos (by omega) (Ev.pos (by omega) (Ev.pos (by rw [hRs]; omega) (Ev.bind (ver_ev _ _ hAs (by rw [← bs_len, bs_mk, ho2]; omega)) ?_)))
            by_cases hv : verS (mk ((upto' 41 (bs s)).drop 1)) (mk (upto' 40 r)) = 0
            · rw [if_pos hv]
              refine Ev.pos hv (Ev.pos (by omega) ?_)
              exact ih _ _ (by rw [hXs]; omega) (by rw [hXs]; omega) (by rw [hXs, List.length_append]; show acc.length + 1 + _ ≤ 4096; omega)
            · rw [if_neg hv]
              exact Ev.neg hv (Ev.const rfl)
        · refine Ev.neg hh ?_
          rw [if_neg (fun h => hh ((head_at hpos).2 h))]
          exact bad _
theorem rhead_at {s : ByteArray} {at' : Nat} (h : at' < s.size) : ((bt s (at' : Int)) = 40 ↔ ((bs s).drop at').head? = some 40) := by
  have hlt : at' < (bs s).length := by rw [bs_len]; exact h
  rw [bt_nat s at' hlt, List.head?_drop, List.getElem?_eq_getElem hlt, Option.some_inj]
  constructor
  · intro h2; exact UInt8.toNat_inj.1 (by show _ = 40; omega)
  · intro h2; rw [h2]; rfl
theorem rparse_l (s : ByteArray) (hs : s.size ≤ 4096) (n : Nat) : ∀ (p : Nat) (acc : List El), p ≤ s.size → s.size - p < n → acc.length + (s.size - p) ≤ 4096 → Ev (fun k => barscanref14_Parse.l0 k s acc p) (parseR n ((bs s).drop p) acc) := by
  have hl := bs_len s
  induction n with
  | zero => intro p acc hp h; omega
  | succ n ih =>
    intro p acc hp h ha
    refine Ev.succ ?_
    simp only [barscanref14_Parse.l0]
    unfold parseR
    by_cases h0 : p = s.size
    · have h1 : (bs s).drop p = [] := List.drop_of_length_le (by omega)
      rw [if_pos h1]
      exact Ev.neg (by omega) (Ev.const rfl)
    · have hlt : p < s.size := by omega
      obtain ⟨L, hL⟩ : ∃ L, (bs s).drop p = L := ⟨_, rfl⟩
      have hLl : L.length = s.size - p := by rw [← hL, List.length_drop, hl]
      have hne0 : L ≠ [] := fun h3 => by rw [h3] at hLl; simp at hLl; omega
      have hhd := rhead_at hlt
      rw [hL] at hhd ⊢
      rw [if_neg hne0]
      have hix := rindex_ev s (by omega) 41 p (by omega)
      rw [hL] at hix
      have e41 : ((41 : UInt8).toNat : Int) = 41 := rfl
      have e40 : ((40 : UInt8).toNat : Int) = 40 := rfl
      rw [e41] at hix
      have bad : ∀ x : Int, Ev (fun k => barscanref14_Parse.j1 k s acc p x true) (([], 9) : List El × Int) := by
        intro x
        refine Ev.succ ?_
        simp only [barscanref14_Parse.j1]
        exact Ev.pos trivial (Ev.const rfl)
      obtain ⟨o, ho⟩ : ∃ o : Nat, (upto' 41 L).length = o := ⟨_, rfl⟩
      rw [ho] at hix
      refine Ev.pos (by omega) (Ev.bind hix (Ev.pos (by omega) ?_))
      have hsp := upto_from 41 L
      have hsl := congrArg List.length hsp
      rw [List.length_append, ho, hLl] at hsl
      rcases hfr : from' 41 L with _ | ⟨c, r⟩
      · rw [hfr] at hsl
        simp only [List.length_nil] at hsl
        rw [show (((p + o : Nat) : Int) == (s.size : Int)) = true from beq_iff_eq.2 (by omega)]
        by_cases hh : bt s (p : Int) = 40
        · exact Ev.pos hh (bad _)
        · exact Ev.neg hh (bad _)
      · rw [hfr, List.length_cons] at hsl
        rw [show (((p + o : Nat) : Int) == (s.size : Int)) = false from beq_eq_false_iff_ne.2 (by omega)]
        have hc : c = 41 := from_head hfr
        subst hc
        show Ev _ (if L.head? = some 40 then _ else _)
        by_cases hh : bt s (p : Int) = 40
        · refine Ev.pos hh ?_
          have hh2 := hhd.1 hh
          rw [if_pos hh2]
          have ho1 : 1 ≤ o := by
            rcases Nat.eq_zero_or_pos o with h3 | h3
            · exfalso
              have h4 : upto' 41 L = [] := List.length_eq_zero_iff.1 (by omega)
              rw [h4, List.nil_append, hfr] at hsp
              rw [← hsp] at hh2
              cases hh2
            · exact h3
          have hdo : (bs s).drop (p + o) = 41 :: r := by
            rw [← List.drop_drop, hL, ← hfr, from_drop, ho]
          have hdo1 : (bs s).drop (p + o + 1) = r := by
            rw [← List.drop_drop, hdo]
            rfl
          have hix2 := rindex_ev s (by omega) 40 (p + o) (by omega)
          rw [hdo, e40] at hix2
          have hu : upto' 40 (41 :: r) = 41 :: upto' 40 r := by unfold upto'; rw [List.takeWhile_cons_of_pos (by decide)]
          obtain ⟨o2, ho2⟩ : ∃ o2 : Nat, (upto' 40 r).length = o2 := ⟨_, rfl⟩
          have ho3 : o2 ≤ r.length := by rw [← ho2]; exact upto_len 40 r
          rw [hu, List.length_cons, ho2] at hix2
          have hA : bs (s.extract (p + 1) (p + o)) = (upto' 41 L).drop 1 := by
            rw [bs_extract, upto_take, ho, List.drop_take, ← List.drop_drop, hL]
            congr 1
            omega
          have hD : bs (s.extract (p + o + 1) (p + o + (o2 + 1))) = upto' 40 r := by
            rw [bs_extract, hdo1, upto_take 40 r, ho2]
            congr 1
            omega
          have hX : (bs s).drop (p + o + (o2 + 1)) = from' 40 r := by
            rw [show p + o + (o2 + 1) = (p + o + 1) + o2 by omega, ← List.drop_drop, hdo1, from_drop, ho2]
          have eA : s.extract (p + 1) (p + o) = mk ((upto' 41 L).drop 1) := by rw [← hA, mk_bs]
          have eD : s.extract (p + o + 1) (p + o + (o2 + 1)) = mk (upto' 40 r) := by rw [← hD, mk_bs]
          have hAs : (mk ((upto' 41 L).drop 1)).size < 1073741824 := by rw [← bs_len, bs_mk, List.length_drop, ho]; omega
          have hDs : (mk (upto' 40 r)).size < 1073741824 := by rw [← bs_len, bs_mk, ho2]; omega
          refine Ev.succ ?_
          simp only [barscanref14_Parse.j1]
          rw [show (wrap64 ((p : Int) + 1)) = ((p + 1 : Nat) : Int) from wrap_up p (by omega), show (wrap64 (((p + o : Nat) : Int) + 1)) = ((p + o + 1 : Nat) : Int) from wrap_up (p + o) (by omega)]
          refine Ev.neg (by simp) (Ev.bind hix2 ?_)
          simp only [Int.toNat_natCast]
          rw [eA, eD]
          refine Ev.pos (by omega) (Ev.pos (by omega) (Ev.pos (by omega) (Ev.pos (by omega) (Ev.pos (by omega) (Ev.pos (by omega) (Ev.bind (rver_ev _ _ hAs hDs) ?_))))))
          by_cases hv : verS (mk ((upto' 41 L).drop 1)) (mk (upto' 40 r)) = 0
          · rw [if_pos hv]
            refine Ev.pos hv (Ev.pos (by omega) ?_)
            rw [← hX]
            exact ih _ _ (by omega) (by omega) (by rw [List.length_append]; show acc.length + 1 + _ ≤ 4096; omega)
          · rw [if_neg hv]
            exact Ev.neg hv (Ev.const rfl)
        · refine Ev.neg hh ?_
          rw [if_neg (fun h => hh (hhd.2 h))]
          exact bad _
def parS (s : ByteArray) : List El × Int := if (s.size : Int) > 4096 then ([], 4) else if bs s = [] then ([], 5) else parseR 5000 (bs s) []
theorem gparse_ev (s : ByteArray) : Ev (fun k => gs1_Parse.f k s) (parS s) := by
  unfold gs1_Parse.f parS
  rw [bs_toList]
  by_cases h : (s.size : Int) > 4096
  · rw [if_pos h]; exact Ev.pos h (Ev.const rfl)
  · rw [if_neg h]
    refine Ev.neg h ?_
    by_cases h2 : bs s = []
    · rw [if_pos h2]; exact Ev.pos h2 (Ev.const rfl)
    · rw [if_neg h2]
      exact Ev.neg h2 (gparse_l 5000 s [] (by omega) (by omega) (by show 0 + _ ≤ _; omega))
theorem rparse_ev (s : ByteArray) : Ev (fun k => barscanref14_Parse.f k s) (parS s) := by
  unfold barscanref14_Parse.f parS
  rw [bs_toList]
  by_cases h : (s.size : Int) > 4096
  · rw [if_pos h]; exact Ev.pos h (Ev.const rfl)
  · rw [if_neg h]
    refine Ev.neg h ?_
    by_cases h2 : bs s = []
    · rw [if_pos h2]; exact Ev.pos h2 (Ev.const rfl)
    · rw [if_neg h2]
      have := rparse_l s (by omega) 5000 0 [] (by omega) (by omega) (by show 0 + _ ≤ _; omega)
      exact Ev.neg h2 (by simpa using this)
theorem parseR_len (n : Nat) : ∀ (l : List UInt8) (acc : List El), (parseR n l acc).1.length ≤ acc.length + n := by
  induction n with
  | zero => intro l acc; exact Nat.le_refl _
  | succ n ih =>
    intro l acc
    unfold parseR
    split
    · show acc.length ≤ _; omega
    · split
      · simp
      · split
        · split
          · have := ih (from' 40 ‹_›) (acc ++ [⟨mk ((upto' 41 l).drop 1), mk (upto' 40 ‹_›)⟩])
            rw [List.length_append] at this
            exact Nat.le_trans this (by show acc.length + 1 + n ≤ _; omega)
          · simp
        · simp
theorem parS_len (s : ByteArray) : (parS s).1.length ≤ 5000 := by
  unfold parS
  split
  · simp
  · split
    · simp
    · have := parseR_len 5000 (bs s) []
      simpa using this
end Go.Proofs.YtghlbdemlmbijaaGreatDoor.Q

namespace Go.Proofs.YtghlbdemlmbijaaGreatDoor.Q
open Go.RowKit Go.Proofs.YtghlbdemlmbijaaGreatDoorW.PrintWords Go.Proofs.YtghlbdemlmbijaaGreatDoorW.PrintLast Go.Proofs.YtghlbdemlmbijaaGreatDoorW.PrintMore

set_option linter.unusedVariables false
set_option linter.unusedSimpArgs false

/-! ### barscanlaw14_Gs1Texts: function 4 -/
def barscanlaw14_Gs1Texts.f (k : Nat) (a0 : ByteArray) (l1 : List (S23)) : Option (Bool) := (gs1_Parse.f k a0).bind fun bt275 => ((barscanref14_Parse.f k a0).bind fun bt279 => ((gs1_Format.f k l1).bind fun bt283 => ((barscanref14_Format.f k l1).bind fun bt285 => ((barscanlaw14_same.f k bt275.1 bt279.1).bind fun t287 => (if t287 = true then (if bt275.2 = bt279.2 then (if bt283.1.toList = bt285.1.toList then (if bt283.2 = bt285.2 then ((barscanlaw14_examples.f k).bind fun t288 => (some t288)) else (some false)) else (some false)) else (some false)) else (some false))))))
theorem barscanlaw14_Gs1Texts.mono : ∀ a0 a1 k, LeO (barscanlaw14_Gs1Texts.f k a0 a1) (barscanlaw14_Gs1Texts.f (k + 1) a0 a1) := by
 intro a0 a1 k
 unfold barscanlaw14_Gs1Texts.f
 repeat' first
   | (with_reducible exact barscanlaw14_examples.mono _)
   | (with_reducible exact barscanlaw14_same.mono _ _ _)
   | (with_reducible exact barscanref14_Format.mono _ _)
   | (with_reducible exact barscanref14_Parse.mono _ _)
   | (with_reducible exact gs1_Format.mono _ _)
   | (with_reducible exact gs1_Parse.mono _ _)
   | (with_reducible exact LeO.refl _)
   | (with_reducible exact LeO.none _)
   | (with_reducible refine LeO.ite ?_ ?_)
   | (with_reducible refine LeO.bind ?_ (fun _ => ?_))
   | exact barscanlaw14_examples.mono _
   | exact barscanlaw14_same.mono _ _ _
   | exact barscanref14_Format.mono _ _
   | exact barscanref14_Parse.mono _ _
   | exact gs1_Format.mono _ _
   | exact gs1_Parse.mono _ _
   | exact LeO.none _
   | refine LeO.ite ?_ ?_
   | refine LeO.bind ?_ (fun _ => ?_)
set_option maxHeartbeats 8000000 in
set_option maxRecDepth 100000 in
theorem barscanlaw14_Gs1Texts.calls (k : Nat) (a0 : ByteArray) (A1 : Option Addr) (c1 : Nat) (l1 : List (S23)) (r : Bool) (w : World) (hT : Tabs w) (hr1 : Kd.C k23 w A1 l1.length l1) (hc1 : l1.length ≤ c1) (h : barscanlaw14_Gs1Texts.f k a0 l1 = some r) :
  Calls Tryz.prog 4 #[.string a0, .slice A1 l1.length c1] w fun e w' => e = .returned (.bool r) ∧ Below w.heap.size w w' := by
 have HR1 := Aside0.mk hr1
 have HC1 := Aside0.mk hc1
 clear hr1 hc1
 have HT := Aside0.mk hT
 clear hT
 have HB := Aside0.mk (Below.refl w.heap.size w)
 have H : ((gs1_Parse.f k a0).bind fun bt275 => ((barscanref14_Parse.f k a0).bind fun bt279 => ((gs1_Format.f k l1).bind fun bt283 => ((barscanref14_Format.f k l1).bind fun bt285 => ((barscanlaw14_same.f k bt275.1 bt279.1).bind fun t287 => (if t287 = true then (if bt275.2 = bt279.2 then (if bt283.1.toList = bt285.1.toList then (if bt283.2 = bt285.2 then ((barscanlaw14_examples.f k).bind fun t288 => (some t288)) else (some false)) else (some false)) else (some false)) else (some false))))))) = some r := h
 clear h
 replace H := Option.bind_eq_some_iff.mp H
 obtain ⟨⟨t275, t276⟩, A30, H⟩ := H
 replace H : ((barscanref14_Parse.f k a0).bind fun bt279 => ((gs1_Format.f k l1).bind fun bt283 => ((barscanref14_Format.f k l1).bind fun bt285 => ((barscanlaw14_same.f k t275 bt279.1).bind fun t287 => (if t287 = true then (if t276 = bt279.2 then (if bt283.1.toList = bt285.1.toList then (if bt283.2 = bt285.2 then ((barscanlaw14_examples.f k).bind fun t288 => (some t288)) else (some false)) else (some false)) else (some false)) else (some false)))))) = some r := H
 have A3 := Aside0.mk A30
 clear A30
 replace H := Option.bind_eq_some_iff.mp H
 obtain ⟨⟨t279, t280⟩, A40, H⟩ := H
 replace H : ((gs1_Format.f k l1).bind fun bt283 => ((barscanref14_Format.f k l1).bind fun bt285 => ((barscanlaw14_same.f k t275 t279).bind fun t287 => (if t287 = true then (if t276 = t280 then (if bt283.1.toList = bt285.1.toList then (if bt283.2 = bt285.2 then ((barscanlaw14_examples.f k).bind fun t288 => (some t288)) else (some false)) else (some false)) else (some false)) else (some false))))) = some r := H
 have A4 := Aside0.mk A40
 clear A40
 replace H := Option.bind_eq_some_iff.mp H
 obtain ⟨⟨t283, t284⟩, A50, H⟩ := H
 replace H : ((barscanref14_Format.f k l1).bind fun bt285 => ((barscanlaw14_same.f k t275 t279).bind fun t287 => (if t287 = true then (if t276 = t280 then (if t283.toList = bt285.1.toList then (if t284 = bt285.2 then ((barscanlaw14_examples.f k).bind fun t288 => (some t288)) else (some false)) else (some false)) else (some false)) else (some false)))) = some r := H
 have A5 := Aside0.mk A50
 clear A50
 replace H := Option.bind_eq_some_iff.mp H
 obtain ⟨⟨t285, t286⟩, A60, H⟩ := H
 replace H : ((barscanlaw14_same.f k t275 t279).bind fun t287 => (if t287 = true then (if t276 = t280 then (if t283.toList = t285.toList then (if t284 = t286 then ((barscanlaw14_examples.f k).bind fun t288 => (some t288)) else (some false)) else (some false)) else (some false)) else (some false))) = some r := H
 have A6 := Aside0.mk A60
 clear A60
 replace H := Option.bind_eq_some_iff.mp H
 obtain ⟨t287, A70, H⟩ := H
 replace H : (if t287 = true then (if t276 = t280 then (if t283.toList = t285.toList then (if t284 = t286 then ((barscanlaw14_examples.f k).bind fun t288 => (some t288)) else (some false)) else (some false)) else (some false)) else (some false)) = some r := H
 have A7 := Aside0.mk A70
 clear A70
 by_cases c8 : t287 = true
 ·subst c8
  have H1 : (if t276 = t280 then (if t283.toList = t285.toList then (if t284 = t286 then ((barscanlaw14_examples.f k).bind fun t288 => (some t288)) else (some false)) else (some false)) else (some false)) = some r := by rw [if_pos rfl] at H; exact H
  clear H
  have H := H1
  clear H1
  by_cases c9 : t276 = t280
  ·rw [if_pos c9] at H
   have c9b0 : (t276 == t280) = true := beq_iff_eq.mpr c9
   have c9b1 : (t276 != t280) = false := bne_eq_false_iff_eq.mpr c9
   clear c9
   by_cases c10 : t283.toList = t285.toList
   ·rw [if_pos c10] at H
    have c10b0 : (t283.toList == t285.toList) = true := beq_iff_eq.mpr c10
    have c10b1 : (t283.toList != t285.toList) = false := bne_eq_false_iff_eq.mpr c10
    clear c10
    by_cases c11 : t284 = t286
    ·rw [if_pos c11] at H
     have c11b0 : (t284 == t286) = true := beq_iff_eq.mpr c11
     have c11b1 : (t284 != t286) = false := bne_eq_false_iff_eq.mpr c11
     clear c11
     replace H := Option.bind_eq_some_iff.mp H
     obtain ⟨t288, A120, H⟩ := H
     replace H : (some t288) = some r := H
     have A12 := Aside0.mk A120
     clear A120
     obtain rfl := Option.some.inj H
     go_enter Tryz.func4, Tryz.ntmps4
     go_wp2_with (first | ((with_reducible refine gate_callee (f := 12) rfl ?_); refine goesL_ (some 15) rfl rfl Tryz.func12 (by kernel_rfl) rfl #[.string a0] rfl (by (try simp only [List.map_toArray, List.map_cons, List.map_nil]); first | done | rfl | (simp only [List.length_drop, List.length_take]; rfl)) ?_; (with_reducible refine (gs1_Parse.calls k a0 t275 t276 _ ?side1 A3.out).mono ?_); (case side1 => exact Tabs.below HT.out (by repeat (first | (with_reducible first | exact HB.out | apply below_alloc | apply pw_below_drewN | apply below_drew1) | exact HB.out))); rintro e w13 ⟨v277, rfl, ho0, hb⟩; refine ⟨_, rfl, ?_⟩; have n0_ := Aside0.mk (Kd.R_lower ho0 (below_size (by repeat (first | (with_reducible first | exact HB.out | apply below_alloc | apply pw_below_drewN | apply below_drew1) | exact HB.out)))); have n1_ := Aside0.mk (below_step (by repeat (first | (with_reducible first | exact HB.out | apply below_alloc | apply pw_below_drewN | apply below_drew1) | exact HB.out)) hb); clear HB; have HO278 := n0_; have HB := n1_; clear n0_ n1_; (try clear hb); (try clear hb2); (try clear hk); (try clear hi); (try clear ho0)) | ((with_reducible refine gate_callee (f := 13) rfl ?_); refine goesL_ (some 20) rfl rfl Tryz.func13 (by kernel_rfl) rfl #[.string a0] rfl (by (try simp only [List.map_toArray, List.map_cons, List.map_nil]); first | done | rfl | (simp only [List.length_drop, List.length_take]; rfl)) ?_; (with_reducible refine (barscanref14_Parse.calls k a0 t279 t280 _ A4.out).mono ?_); rintro e w14 ⟨v281, rfl, ho0, hb⟩; refine ⟨_, rfl, ?_⟩; have n0_ := Aside0.mk (Kd.R_elder' (by (with_reducible repeat (first | apply Kd.R_alloc | apply Kd.R_drewN | apply Kd.R_drew)); exact HO278.out) (Kd.R_base ho0) hb); have n1_ := Aside0.mk (Kd.R_lower (Kd.R_new' ho0 (Kd.R_lt (by (with_reducible repeat (first | apply Kd.R_alloc | apply Kd.R_drewN | apply Kd.R_drew)); exact HO278.out))) (below_size (by repeat (first | (with_reducible first | exact HB.out | apply below_alloc | apply pw_below_drewN | apply below_drew1) | exact HB.out)))); have n2_ := Aside0.mk (below_step (by repeat (first | (with_reducible first | exact HB.out | apply below_alloc | apply pw_below_drewN | apply below_drew1) | exact HB.out)) hb); clear HO278; clear HB; have HO278 := n0_; have HO282 := n1_; have HB := n2_; clear n0_ n1_ n2_; (try clear hb); (try clear hb2); (try clear hk); (try clear hi); (try clear ho0)) | ((with_reducible refine gate_callee (f := 14) rfl ?_); refine goesL_ (some 25) rfl rfl Tryz.func14 (by kernel_rfl) rfl #[.slice A1 l1.length c1] rfl (by (try simp only [List.map_toArray, List.map_cons, List.map_nil]); first | done | rfl | (simp only [List.length_drop, List.length_take]; rfl)) ?_; (with_reducible refine (gs1_Format.calls k _ _ l1 t283 t284 _ ?side3 ?side1 ?side2 A5.out).mono ?_); (case side1 => repeat (first | exact (Kd.C_below HR1.out HB.out) | (with_reducible refine Kd.C_alloc ?_ _) | (with_reducible refine Kd.C_drewN ?_ _) | (with_reducible refine Kd.C_drew ?_))); (case side2 => exact HC1.out); (case side3 => exact Tabs.below HT.out (by repeat (first | (with_reducible first | exact HB.out | apply below_alloc | apply pw_below_drewN | apply below_drew1) | exact HB.out))); rintro e w15 ⟨rfl, hb⟩; refine ⟨_, rfl, ?_⟩; have n0_ := Aside0.mk (Kd.R_below (by (with_reducible repeat (first | apply Kd.R_alloc | apply Kd.R_drewN | apply Kd.R_drew)); exact HO278.out) hb); have n1_ := Aside0.mk (Kd.R_below (by (with_reducible repeat (first | apply Kd.R_alloc | apply Kd.R_drewN | apply Kd.R_drew)); exact HO282.out) hb); have n2_ := Aside0.mk (below_step (by repeat (first | (with_reducible first | exact HB.out | apply below_alloc | apply pw_below_drewN | apply below_drew1) | exact HB.out)) hb); clear HO278; clear HO282; clear HB; have HO278 := n0_; have HO282 := n1_; have HB := n2_; clear n0_ n1_ n2_; (try clear hb); (try clear hb2); (try clear hk); (try clear hi)) | ((with_reducible refine gate_callee (f := 15) rfl ?_); refine goesL_ (some 30) rfl rfl Tryz.func15 (by kernel_rfl) rfl #[.slice A1 l1.length c1] rfl (by (try simp only [List.map_toArray, List.map_cons, List.map_nil]); first | done | rfl | (simp only [List.length_drop, List.length_take]; rfl)) ?_; (with_reducible refine (barscanref14_Format.calls k _ _ l1 t285 t286 _ ?side1 ?side2 A6.out).mono ?_); (case side1 => repeat (first | exact (Kd.C_below HR1.out HB.out) | (with_reducible refine Kd.C_alloc ?_ _) | (with_reducible refine Kd.C_drewN ?_ _) | (with_reducible refine Kd.C_drew ?_))); (case side2 => exact HC1.out); rintro e w16 ⟨rfl, hb⟩; refine ⟨_, rfl, ?_⟩; have n0_ := Aside0.mk (Kd.R_below (by (with_reducible repeat (first | apply Kd.R_alloc | apply Kd.R_drewN | apply Kd.R_drew)); exact HO278.out) hb); have n1_ := Aside0.mk (Kd.R_below (by (with_reducible repeat (first | apply Kd.R_alloc | apply Kd.R_drewN | apply Kd.R_drew)); exact HO282.out) hb); have n2_ := Aside0.mk (below_step (by repeat (first | (with_reducible first | exact HB.out | apply below_alloc | apply pw_below_drewN | apply below_drew1) | exact HB.out)) hb); clear HO278; clear HO282; clear HB; have HO278 := n0_; have HO282 := n1_; have HB := n2_; clear n0_ n1_ n2_; (try clear hb); (try clear hb2); (try clear hk); (try clear hi); obtain ⟨Ao17, co17, eo17⟩ := Kd.R_slice HO278.out; subst eo17; obtain ⟨Ao18, co18, eo18⟩ := Kd.R_slice HO282.out; subst eo18) | ((with_reducible refine gate_callee (f := 16) rfl ?_); refine goesL_ (some 35) rfl rfl Tryz.func16 (by kernel_rfl) rfl #[.slice Ao17 t275.length co17, .slice Ao18 t279.length co18] rfl (by (try simp only [List.map_toArray, List.map_cons, List.map_nil]); first | done | rfl | (simp only [List.length_drop, List.length_take]; rfl)) ?_; (with_reducible refine (barscanlaw14_same.calls k _ _ t275 _ _ t279 true _ ?side1 ?side2 ?side3 ?side4 A7.out).mono ?_); (case side1 => repeat (first | exact (Kd.R_reads' HO278.out).2.2 | (with_reducible refine Kd.C_alloc ?_ _) | (with_reducible refine Kd.C_drewN ?_ _) | (with_reducible refine Kd.C_drew ?_))); (case side2 => exact (Kd.R_reads' HO278.out).2.1); (case side3 => repeat (first | exact (Kd.R_reads' HO282.out).2.2 | (with_reducible refine Kd.C_alloc ?_ _) | (with_reducible refine Kd.C_drewN ?_ _) | (with_reducible refine Kd.C_drew ?_))); (case side4 => exact (Kd.R_reads' HO282.out).2.1); rintro e w' ⟨rfl, ⟨nd, rfl⟩⟩; refine ⟨_, rfl, ?_⟩) | (go_at_call 11; (with_reducible refine (barscanlaw14_examples.calls k  t288 _ ?side1 A12.out).mono ?_); (case side1 => exact Tabs.below HT.out (by repeat (first | (with_reducible first | exact HB.out | apply below_alloc | apply pw_below_drewN | apply below_drew1) | exact HB.out))); rintro e w19 ⟨rfl, hb⟩; have n0_ := Aside0.mk (Kd.R_below (by (with_reducible repeat (first | apply Kd.R_alloc | apply Kd.R_drewN | apply Kd.R_drew)); exact HO278.out) hb); have n1_ := Aside0.mk (Kd.R_below (by (with_reducible repeat (first | apply Kd.R_alloc | apply Kd.R_drewN | apply Kd.R_drew)); exact HO282.out) hb); have n2_ := Aside0.mk (below_step (by repeat (first | (with_reducible first | exact HB.out | apply below_alloc | apply pw_below_drewN | apply below_drew1) | exact HB.out)) hb); clear HO278; clear HO282; clear HB; have HO278 := n0_; have HO282 := n1_; have HB := n2_; clear n0_ n1_ n2_; (try clear hb); (try clear hb2); (try clear hk); (try clear hi)))
     go_ret
     exact ⟨by first | rfl | (simp [errW_none, errW_some] <;> rfl) | (simp [*, errW_none, errW_some] <;> rfl), by repeat (first | (with_reducible first | exact HB.out | apply below_alloc | apply pw_below_drewN | apply below_drew1) | exact HB.out)⟩
    ·rw [if_neg c11] at H
     have c11b0 : (t284 == t286) = false := beq_eq_false_iff_ne.mpr c11
     have c11b1 : (t284 != t286) = true := bne_iff_ne.mpr c11
     obtain rfl := Option.some.inj H
     go_enter Tryz.func4, Tryz.ntmps4
     go_wp2_with (first | ((with_reducible refine gate_callee (f := 12) rfl ?_); refine goesL_ (some 15) rfl rfl Tryz.func12 (by kernel_rfl) rfl #[.string a0] rfl (by (try simp only [List.map_toArray, List.map_cons, List.map_nil]); first | done | rfl | (simp only [List.length_drop, List.length_take]; rfl)) ?_; (with_reducible refine (gs1_Parse.calls k a0 t275 t276 _ ?side1 A3.out).mono ?_); (case side1 => exact Tabs.below HT.out (by repeat (first | (with_reducible first | exact HB.out | apply below_alloc | apply pw_below_drewN | apply below_drew1) | exact HB.out))); rintro e w20 ⟨v277, rfl, ho0, hb⟩; refine ⟨_, rfl, ?_⟩; have n0_ := Aside0.mk (Kd.R_lower ho0 (below_size (by repeat (first | (with_reducible first | exact HB.out | apply below_alloc | apply pw_below_drewN | apply below_drew1) | exact HB.out)))); have n1_ := Aside0.mk (below_step (by repeat (first | (with_reducible first | exact HB.out | apply below_alloc | apply pw_below_drewN | apply below_drew1) | exact HB.out)) hb); clear HB; have HO278 := n0_; have HB := n1_; clear n0_ n1_; (try clear hb); (try clear hb2); (try clear hk); (try clear hi); (try clear ho0)) | ((with_reducible refine gate_callee (f := 13) rfl ?_); refine goesL_ (some 20) rfl rfl Tryz.func13 (by kernel_rfl) rfl #[.string a0] rfl (by (try simp only [List.map_toArray, List.map_cons, List.map_nil]); first | done | rfl | (simp only [List.length_drop, List.length_take]; rfl)) ?_; (with_reducible refine (barscanref14_Parse.calls k a0 t279 t280 _ A4.out).mono ?_); rintro e w21 ⟨v281, rfl, ho0, hb⟩; refine ⟨_, rfl, ?_⟩; have n0_ := Aside0.mk (Kd.R_elder' (by (with_reducible repeat (first | apply Kd.R_alloc | apply Kd.R_drewN | apply Kd.R_drew)); exact HO278.out) (Kd.R_base ho0) hb); have n1_ := Aside0.mk (Kd.R_lower (Kd.R_new' ho0 (Kd.R_lt (by (with_reducible repeat (first | apply Kd.R_alloc | apply Kd.R_drewN | apply Kd.R_drew)); exact HO278.out))) (below_size (by repeat (first | (with_reducible first | exact HB.out | apply below_alloc | apply pw_below_drewN | apply below_drew1) | exact HB.out)))); have n2_ := Aside0.mk (below_step (by repeat (first | (with_reducible first | exact HB.out | apply below_alloc | apply pw_below_drewN | apply below_drew1) | exact HB.out)) hb); clear HO278; clear HB; have HO278 := n0_; have HO282 := n1_; have HB := n2_; clear n0_ n1_ n2_; (try clear hb); (try clear hb2); (try clear hk); (try clear hi); (try clear ho0)) | ((with_reducible refine gate_callee (f := 14) rfl ?_); refine goesL_ (some 25) rfl rfl Tryz.func14 (by kernel_rfl) rfl #[.slice A1 l1.length c1] rfl (by (try simp only [List.map_toArray, List.map_cons, List.map_nil]); first | done | rfl | (simp only [List.length_drop, List.length_take]; rfl)) ?_; (with_reducible refine (gs1_Format.calls k _ _ l1 t283 t284 _ ?side3 ?side1 ?side2 A5.out).mono ?_); (case side1 => repeat (first | exact (Kd.C_below HR1.out HB.out) | (with_reducible refine Kd.C_alloc ?_ _) | (with_reducible refine Kd.C_drewN ?_ _) | (with_reducible refine Kd.C_drew ?_))); (case side2 => exact HC1.out); (case side3 => exact Tabs.below HT.out (by repeat (first | (with_reducible first | exact HB.out | apply below_alloc | apply pw_below_drewN | apply below_drew1) | exact HB.out))); rintro e w22 ⟨rfl, hb⟩; refine ⟨_, rfl, ?_⟩; have n0_ := Aside0.mk (Kd.R_below (by (with_reducible repeat (first | apply Kd.R_alloc | apply Kd.R_drewN | apply Kd.R_drew)); exact HO278.out) hb); have n1_ := Aside0.mk (Kd.R_below (by (with_reducible repeat (first | apply Kd.R_alloc | apply Kd.R_drewN | apply Kd.R_drew)); exact HO282.out) hb); have n2_ := Aside0.mk (below_step (by repeat (first | (with_reducible first | exact HB.out | apply below_alloc | apply pw_below_drewN | apply below_drew1) | exact HB.out)) hb); clear HO278; clear HO282; clear HB; have HO278 := n0_; have HO282 := n1_; have HB := n2_; clear n0_ n1_ n2_; (try clear hb); (try clear hb2); (try clear hk); (try clear hi)) | ((with_reducible refine gate_callee (f := 15) rfl ?_); refine goesL_ (some 30) rfl rfl Tryz.func15 (by kernel_rfl) rfl #[.slice A1 l1.length c1] rfl (by (try simp only [List.map_toArray, List.map_cons, List.map_nil]); first | done | rfl | (simp only [List.length_drop, List.length_take]; rfl)) ?_; (with_reducible refine (barscanref14_Format.calls k _ _ l1 t285 t286 _ ?side1 ?side2 A6.out).mono ?_); (case side1 => repeat (first | exact (Kd.C_below HR1.out HB.out) | (with_reducible refine Kd.C_alloc ?_ _) | (with_reducible refine Kd.C_drewN ?_ _) | (with_reducible refine Kd.C_drew ?_))); (case side2 => exact HC1.out); rintro e w23 ⟨rfl, hb⟩; refine ⟨_, rfl, ?_⟩; have n0_ := Aside0.mk (Kd.R_below (by (with_reducible repeat (first | apply Kd.R_alloc | apply Kd.R_drewN | apply Kd.R_drew)); exact HO278.out) hb); have n1_ := Aside0.mk (Kd.R_below (by (with_reducible repeat (first | apply Kd.R_alloc | apply Kd.R_drewN | apply Kd.R_drew)); exact HO282.out) hb); have n2_ := Aside0.mk (below_step (by repeat (first | (with_reducible first | exact HB.out | apply below_alloc | apply pw_below_drewN | apply below_drew1) | exact HB.out)) hb); clear HO278; clear HO282; clear HB; have HO278 := n0_; have HO282 := n1_; have HB := n2_; clear n0_ n1_ n2_; (try clear hb); (try clear hb2); (try clear hk); (try clear hi); obtain ⟨Ao24, co24, eo24⟩ := Kd.R_slice HO278.out; subst eo24; obtain ⟨Ao25, co25, eo25⟩ := Kd.R_slice HO282.out; subst eo25) | ((with_reducible refine gate_callee (f := 16) rfl ?_); refine goesL_ (some 35) rfl rfl Tryz.func16 (by kernel_rfl) rfl #[.slice Ao24 t275.length co24, .slice Ao25 t279.length co25] rfl (by (try simp only [List.map_toArray, List.map_cons, List.map_nil]); first | done | rfl | (simp only [List.length_drop, List.length_take]; rfl)) ?_; (with_reducible refine (barscanlaw14_same.calls k _ _ t275 _ _ t279 true _ ?side1 ?side2 ?side3 ?side4 A7.out).mono ?_); (case side1 => repeat (first | exact (Kd.R_reads' HO278.out).2.2 | (with_reducible refine Kd.C_alloc ?_ _) | (with_reducible refine Kd.C_drewN ?_ _) | (with_reducible refine Kd.C_drew ?_))); (case side2 => exact (Kd.R_reads' HO278.out).2.1); (case side3 => repeat (first | exact (Kd.R_reads' HO282.out).2.2 | (with_reducible refine Kd.C_alloc ?_ _) | (with_reducible refine Kd.C_drewN ?_ _) | (with_reducible refine Kd.C_drew ?_))); (case side4 => exact (Kd.R_reads' HO282.out).2.1); rintro e w' ⟨rfl, ⟨nd, rfl⟩⟩; refine ⟨_, rfl, ?_⟩))
     go_ret
     exact ⟨by first | rfl | (simp [errW_none, errW_some] <;> rfl) | (simp [*, errW_none, errW_some] <;> rfl), by repeat (first | (with_reducible first | exact HB.out | apply below_alloc | apply pw_below_drewN | apply below_drew1) | exact HB.out)⟩
   ·rw [if_neg c10] at H
    have c10b0 : (t283.toList == t285.toList) = false := beq_eq_false_iff_ne.mpr c10
    have c10b1 : (t283.toList != t285.toList) = true := bne_iff_ne.mpr c10
    obtain rfl := Option.some.inj H
    go_enter Tryz.func4, Tryz.ntmps4
    go_wp2_with (first | ((with_reducible refine gate_callee (f := 12) rfl ?_); refine goesL_ (some 15) rfl rfl Tryz.func12 (by kernel_rfl) rfl #[.string a0] rfl (by (try simp only [List.map_toArray, List.map_cons, List.map_nil]); first | done | rfl | (simp only [List.length_drop, List.length_take]; rfl)) ?_; (with_reducible refine (gs1_Parse.calls k a0 t275 t276 _ ?side1 A3.out).mono ?_); (case side1 => exact Tabs.below HT.out (by repeat (first | (with_reducible first | exact HB.out | apply below_alloc | apply pw_below_drewN | apply below_drew1) | exact HB.out))); rintro e w26 ⟨v277, rfl, ho0, hb⟩; refine ⟨_, rfl, ?_⟩; have n0_ := Aside0.mk (Kd.R_lower ho0 (below_size (by repeat (first | (with_reducible first | exact HB.out | apply below_alloc | apply pw_below_drewN | apply below_drew1) | exact HB.out)))); have n1_ := Aside0.mk (below_step (by repeat (first | (with_reducible first | exact HB.out | apply below_alloc | apply pw_below_drewN | apply below_drew1) | exact HB.out)) hb); clear HB; have HO278 := n0_; have HB := n1_; clear n0_ n1_; (try clear hb); (try clear hb2); (try clear hk); (try clear hi); (try clear ho0)) | ((with_reducible refine gate_callee (f := 13) rfl ?_); refine goesL_ (some 20) rfl rfl Tryz.func13 (by kernel_rfl) rfl #[.string a0] rfl (by (try simp only [List.map_toArray, List.map_cons, List.map_nil]); first | done | rfl | (simp only [List.length_drop, List.length_take]; rfl)) ?_; (with_reducible refine (barscanref14_Parse.calls k a0 t279 t280 _ A4.out).mono ?_); rintro e w27 ⟨v281, rfl, ho0, hb⟩; refine ⟨_, rfl, ?_⟩; have n0_ := Aside0.mk (Kd.R_elder' (by (with_reducible repeat (first | apply Kd.R_alloc | apply Kd.R_drewN | apply Kd.R_drew)); exact HO278.out) (Kd.R_base ho0) hb); have n1_ := Aside0.mk (Kd.R_lower (Kd.R_new' ho0 (Kd.R_lt (by (with_reducible repeat (first | apply Kd.R_alloc | apply Kd.R_drewN | apply Kd.R_drew)); exact HO278.out))) (below_size (by repeat (first | (with_reducible first | exact HB.out | apply below_alloc | apply pw_below_drewN | apply below_drew1) | exact HB.out)))); have n2_ := Aside0.mk (below_step (by repeat (first | (with_reducible first | exact HB.out | apply below_alloc | apply pw_below_drewN | apply below_drew1) | exact HB.out)) hb); clear HO278; clear HB; have HO278 := n0_; have HO282 := n1_; have HB := n2_; clear n0_ n1_ n2_; (try clear hb); (try clear hb2); (try clear hk); (try clear hi); (try clear ho0)) | ((with_reducible refine gate_callee (f := 14) rfl ?_); refine goesL_ (some 25) rfl rfl Tryz.func14 (by kernel_rfl) rfl #[.slice A1 l1.length c1] rfl (by (try simp only [List.map_toArray, List.map_cons, List.map_nil]); first | done | rfl | (simp only [List.length_drop, List.length_take]; rfl)) ?_; (with_reducible refine (gs1_Format.calls k _ _ l1 t283 t284 _ ?side3 ?side1 ?side2 A5.out).mono ?_); (case side1 => repeat (first | exact (Kd.C_below HR1.out HB.out) | (with_reducible refine Kd.C_alloc ?_ _) | (with_reducible refine Kd.C_drewN ?_ _) | (with_reducible refine Kd.C_drew ?_))); (case side2 => exact HC1.out); (case side3 => exact Tabs.below HT.out (by repeat (first | (with_reducible first | exact HB.out | apply below_alloc | apply pw_below_drewN | apply below_drew1) | exact HB.out))); rintro e w28 ⟨rfl, hb⟩; refine ⟨_, rfl, ?_⟩; have n0_ := Aside0.mk (Kd.R_below (by (with_reducible repeat (first | apply Kd.R_alloc | apply Kd.R_drewN | apply Kd.R_drew)); exact HO278.out) hb); have n1_ := Aside0.mk (Kd.R_below (by (with_reducible repeat (first | apply Kd.R_alloc | apply Kd.R_drewN | apply Kd.R_drew)); exact HO282.out) hb); have n2_ := Aside0.mk (below_step (by repeat (first | (with_reducible first | exact HB.out | apply below_alloc | apply pw_below_drewN | apply below_drew1) | exact HB.out)) hb); clear HO278; clear HO282; clear HB; have HO278 := n0_; have HO282 := n1_; have HB := n2_; clear n0_ n1_ n2_; (try clear hb); (try clear hb2); (try clear hk); (try clear hi)) | ((with_reducible refine gate_callee (f := 15) rfl ?_); refine goesL_ (some 30) rfl rfl Tryz.func15 (by kernel_rfl) rfl #[.slice A1 l1.length c1] rfl (by (try simp only [List.map_toArray, List.map_cons, List.map_nil]); first | done | rfl | (simp only [List.length_drop, List.length_take]; rfl)) ?_; (with_reducible refine (barscanref14_Format.calls k _ _ l1 t285 t286 _ ?side1 ?side2 A6.out).mono ?_); (case side1 => repeat (first | exact (Kd.C_below HR1.out HB.out) | (with_reducible refine Kd.C_alloc ?_ _) | (with_reducible refine Kd.C_drewN ?_ _) | (with_reducible refine Kd.C_drew ?_))); (case side2 => exact HC1.out); rintro e w29 ⟨rfl, hb⟩; refine ⟨_, rfl, ?_⟩; have n0_ := Aside0.mk (Kd.R_below (by (with_reducible repeat (first | apply Kd.R_alloc | apply Kd.R_drewN | apply Kd.R_drew)); exact HO278.out) hb); have n1_ := Aside0.mk (Kd.R_below (by (with_reducible repeat (first | apply Kd.R_alloc | apply Kd.R_drewN | apply Kd.R_drew)); exact HO282.out) hb); have n2_ := Aside0.mk (below_step (by repeat (first | (with_reducible first | exact HB.out | apply below_alloc | apply pw_below_drewN | apply below_drew1) | exact HB.out)) hb); clear HO278; clear HO282; clear HB; have HO278 := n0_; have HO282 := n1_; have HB := n2_; clear n0_ n1_ n2_; (try clear hb); (try clear hb2); (try clear hk); (try clear hi); obtain ⟨Ao30, co30, eo30⟩ := Kd.R_slice HO278.out; subst eo30; obtain ⟨Ao31, co31, eo31⟩ := Kd.R_slice HO282.out; subst eo31) | ((with_reducible refine gate_callee (f := 16) rfl ?_); refine goesL_ (some 35) rfl rfl Tryz.func16 (by kernel_rfl) rfl #[.slice Ao30 t275.length co30, .slice Ao31 t279.length co31] rfl (by (try simp only [List.map_toArray, List.map_cons, List.map_nil]); first | done | rfl | (simp only [List.length_drop, List.length_take]; rfl)) ?_; (with_reducible refine (barscanlaw14_same.calls k _ _ t275 _ _ t279 true _ ?side1 ?side2 ?side3 ?side4 A7.out).mono ?_); (case side1 => repeat (first | exact (Kd.R_reads' HO278.out).2.2 | (with_reducible refine Kd.C_alloc ?_ _) | (with_reducible refine Kd.C_drewN ?_ _) | (with_reducible refine Kd.C_drew ?_))); (case side2 => exact (Kd.R_reads' HO278.out).2.1); (case side3 => repeat (first | exact (Kd.R_reads' HO282.out).2.2 | (with_reducible refine Kd.C_alloc ?_ _) | (with_reducible refine Kd.C_drewN ?_ _) | (with_reducible refine Kd.C_drew ?_))); (case side4 => exact (Kd.R_reads' HO282.out).2.1); rintro e w' ⟨rfl, ⟨nd, rfl⟩⟩; refine ⟨_, rfl, ?_⟩))
    go_ret
    exact ⟨by first | rfl | (simp [errW_none, errW_some] <;> rfl) | (simp [*, errW_none, errW_some] <;> rfl), by repeat (first | (with_reducible first | exact HB.out | apply below_alloc | apply pw_below_drewN | apply below_drew1) | exact HB.out)⟩
  ·rw [if_neg c9] at H
   have c9b0 : (t276 == t280) = false := beq_eq_false_iff_ne.mpr c9
   have c9b1 : (t276 != t280) = true := bne_iff_ne.mpr c9
   obtain rfl := Option.some.inj H
   go_enter Tryz.func4, Tryz.ntmps4
   go_wp2_with (first | ((with_reducible refine gate_callee (f := 12) rfl ?_); refine goesL_ (some 15) rfl rfl Tryz.func12 (by kernel_rfl) rfl #[.string a0] rfl (by (try simp only [List.map_toArray, List.map_cons, List.map_nil]); first | done | rfl | (simp only [List.length_drop, List.length_take]; rfl)) ?_; (with_reducible refine (gs1_Parse.calls k a0 t275 t276 _ ?side1 A3.out).mono ?_); (case side1 => exact Tabs.below HT.out (by repeat (first | (with_reducible first | exact HB.out | apply below_alloc | apply pw_below_drewN | apply below_drew1) | exact HB.out))); rintro e w32 ⟨v277, rfl, ho0, hb⟩; refine ⟨_, rfl, ?_⟩; have n0_ := Aside0.mk (Kd.R_lower ho0 (below_size (by repeat (first | (with_reducible first | exact HB.out | apply below_alloc | apply pw_below_drewN | apply below_drew1) | exact HB.out)))); have n1_ := Aside0.mk (below_step (by repeat (first | (with_reducible first | exact HB.out | apply below_alloc | apply pw_below_drewN | apply below_drew1) | exact HB.out)) hb); clear HB; have HO278 := n0_; have HB := n1_; clear n0_ n1_; (try clear hb); (try clear hb2); (try clear hk); (try clear hi); (try clear ho0)) | ((with_reducible refine gate_callee (f := 13) rfl ?_); refine goesL_ (some 20) rfl rfl Tryz.func13 (by kernel_rfl) rfl #[.string a0] rfl (by (try simp only [List.map_toArray, List.map_cons, List.map_nil]); first | done | rfl | (simp only [List.length_drop, List.length_take]; rfl)) ?_; (with_reducible refine (barscanref14_Parse.calls k a0 t279 t280 _ A4.out).mono ?_); rintro e w33 ⟨v281, rfl, ho0, hb⟩; refine ⟨_, rfl, ?_⟩; have n0_ := Aside0.mk (Kd.R_elder' (by (with_reducible repeat (first | apply Kd.R_alloc | apply Kd.R_drewN | apply Kd.R_drew)); exact HO278.out) (Kd.R_base ho0) hb); have n1_ := Aside0.mk (Kd.R_lower (Kd.R_new' ho0 (Kd.R_lt (by (with_reducible repeat (first | apply Kd.R_alloc | apply Kd.R_drewN | apply Kd.R_drew)); exact HO278.out))) (below_size (by repeat (first | (with_reducible first | exact HB.out | apply below_alloc | apply pw_below_drewN | apply below_drew1) | exact HB.out)))); have n2_ := Aside0.mk (below_step (by repeat (first | (with_reducible first | exact HB.out | apply below_alloc | apply pw_below_drewN | apply below_drew1) | exact HB.out)) hb); clear HO278; clear HB; have HO278 := n0_; have HO282 := n1_; have HB := n2_; clear n0_ n1_ n2_; (try clear hb); (try clear hb2); (try clear hk); (try clear hi); (try clear ho0)) | ((with_reducible refine gate_callee (f := 14) rfl ?_); refine goesL_ (some 25) rfl rfl Tryz.func14 (by kernel_rfl) rfl #[.slice A1 l1.length c1] rfl (by (try simp only [List.map_toArray, List.map_cons, List.map_nil]); first | done | rfl | (simp only [List.length_drop, List.length_take]; rfl)) ?_; (with_reducible refine (gs1_Format.calls k _ _ l1 t283 t284 _ ?side3 ?side1 ?side2 A5.out).mono ?_); (case side1 => repeat (first | exact (Kd.C_below HR1.out HB.out) | (with_reducible refine Kd.C_alloc ?_ _) | (with_reducible refine Kd.C_drewN ?_ _) | (with_reducible refine Kd.C_drew ?_))); (case side2 => exact HC1.out); (case side3 => exact Tabs.below HT.out (by repeat (first | (with_reducible first | exact HB.out | apply below_alloc | apply pw_below_drewN | apply below_drew1) | exact HB.out))); rintro e w34 ⟨rfl, hb⟩; refine ⟨_, rfl, ?_⟩; have n0_ := Aside0.mk (Kd.R_below (by (with_reducible repeat (first | apply Kd.R_alloc | apply Kd.R_drewN | apply Kd.R_drew)); exact HO278.out) hb); have n1_ := Aside0.mk (Kd.R_below (by (with_reducible repeat (first | apply Kd.R_alloc | apply Kd.R_drewN | apply Kd.R_drew)); exact HO282.out) hb); have n2_ := Aside0.mk (below_step (by repeat (first | (with_reducible first | exact HB.out | apply below_alloc | apply pw_below_drewN | apply below_drew1) | exact HB.out)) hb); clear HO278; clear HO282; clear HB; have HO278 := n0_; have HO282 := n1_; have HB := n2_; clear n0_ n1_ n2_; (try clear hb); (try clear hb2); (try clear hk); (try clear hi)) | ((with_reducible refine gate_callee (f := 15) rfl ?_); refine goesL_ (some 30) rfl rfl Tryz.func15 (by kernel_rfl) rfl #[.slice A1 l1.length c1] rfl (by (try simp only [List.map_toArray, List.map_cons, List.map_nil]); first | done | rfl | (simp only [List.length_drop, List.length_take]; rfl)) ?_; (with_reducible refine (barscanref14_Format.calls k _ _ l1 t285 t286 _ ?side1 ?side2 A6.out).mono ?_); (case side1 => repeat (first | exact (Kd.C_below HR1.out HB.out) | (with_reducible refine Kd.C_alloc ?_ _) | (with_reducible refine Kd.C_drewN ?_ _) | (with_reducible refine Kd.C_drew ?_))); (case side2 => exact HC1.out); rintro e w35 ⟨rfl, hb⟩; refine ⟨_, rfl, ?_⟩; have n0_ := Aside0.mk (Kd.R_below (by (with_reducible repeat (first | apply Kd.R_alloc | apply Kd.R_drewN | apply Kd.R_drew)); exact HO278.out) hb); have n1_ := Aside0.mk (Kd.R_below (by (with_reducible repeat (first | apply Kd.R_alloc | apply Kd.R_drewN | apply Kd.R_drew)); exact HO282.out) hb); have n2_ := Aside0.mk (below_step (by repeat (first | (with_reducible first | exact HB.out | apply below_alloc | apply pw_below_drewN | apply below_drew1) | exact HB.out)) hb); clear HO278; clear HO282; clear HB; have HO278 := n0_; have HO282 := n1_; have HB := n2_; clear n0_ n1_ n2_; (try clear hb); (try clear hb2); (try clear hk); (try clear hi); obtain ⟨Ao36, co36, eo36⟩ := Kd.R_slice HO278.out; subst eo36; obtain ⟨Ao37, co37, eo37⟩ := Kd.R_slice HO282.out; subst eo37) | ((with_reducible refine gate_callee (f := 16) rfl ?_); refine goesL_ (some 35) rfl rfl Tryz.func16 (by kernel_rfl) rfl #[.slice Ao36 t275.length co36, .slice Ao37 t279.length co37] rfl (by (try simp only [List.map_toArray, List.map_cons, List.map_nil]); first | done | rfl | (simp only [List.length_drop, List.length_take]; rfl)) ?_; (with_reducible refine (barscanlaw14_same.calls k _ _ t275 _ _ t279 true _ ?side1 ?side2 ?side3 ?side4 A7.out).mono ?_); (case side1 => repeat (first | exact (Kd.R_reads' HO278.out).2.2 | (with_reducible refine Kd.C_alloc ?_ _) | (with_reducible refine Kd.C_drewN ?_ _) | (with_reducible refine Kd.C_drew ?_))); (case side2 => exact (Kd.R_reads' HO278.out).2.1); (case side3 => repeat (first | exact (Kd.R_reads' HO282.out).2.2 | (with_reducible refine Kd.C_alloc ?_ _) | (with_reducible refine Kd.C_drewN ?_ _) | (with_reducible refine Kd.C_drew ?_))); (case side4 => exact (Kd.R_reads' HO282.out).2.1); rintro e w' ⟨rfl, ⟨nd, rfl⟩⟩; refine ⟨_, rfl, ?_⟩))
   go_ret
   exact ⟨by first | rfl | (simp [errW_none, errW_some] <;> rfl) | (simp [*, errW_none, errW_some] <;> rfl), by repeat (first | (with_reducible first | exact HB.out | apply below_alloc | apply pw_below_drewN | apply below_drew1) | exact HB.out)⟩
 ·replace c8 := Bool.eq_false_iff.mpr c8
  subst c8
  have H1 : (some false) = some r := by rw [if_neg (show ¬ (false = true) by decide)] at H; exact H
  clear H
  have H := H1
  clear H1
  obtain rfl := Option.some.inj H
  go_enter Tryz.func4, Tryz.ntmps4
  go_wp2_with (first | ((with_reducible refine gate_callee (f := 12) rfl ?_); refine goesL_ (some 15) rfl rfl Tryz.func12 (by kernel_rfl) rfl #[.string a0] rfl (by (try simp only [List.map_toArray, List.map_cons, List.map_nil]); first | done | rfl | (simp only [List.length_drop, List.length_take]; rfl)) ?_; (with_reducible refine (gs1_Parse.calls k a0 t275 t276 _ ?side1 A3.out).mono ?_); (case side1 => exact Tabs.below HT.out (by repeat (first | (with_reducible first | exact HB.out | apply below_alloc | apply pw_below_drewN | apply below_drew1) | exact HB.out))); rintro e w38 ⟨v277, rfl, ho0, hb⟩; refine ⟨_, rfl, ?_⟩; have n0_ := Aside0.mk (Kd.R_lower ho0 (below_size (by repeat (first | (with_reducible first | exact HB.out | apply below_alloc | apply pw_below_drewN | apply below_drew1) | exact HB.out)))); have n1_ := Aside0.mk (below_step (by repeat (first | (with_reducible first | exact HB.out | apply below_alloc | apply pw_below_drewN | apply below_drew1) | exact HB.out)) hb); clear HB; have HO278 := n0_; have HB := n1_; clear n0_ n1_; (try clear hb); (try clear hb2); (try clear hk); (try clear hi); (try clear ho0)) | ((with_reducible refine gate_callee (f := 13) rfl ?_); refine goesL_ (some 20) rfl rfl Tryz.func13 (by kernel_rfl) rfl #[.string a0] rfl (by (try simp only [List.map_toArray, List.map_cons, List.map_nil]); first | done | rfl | (simp only [List.length_drop, List.length_take]; rfl)) ?_; (with_reducible refine (barscanref14_Parse.calls k a0 t279 t280 _ A4.out).mono ?_); rintro e w39 ⟨v281, rfl, ho0, hb⟩; refine ⟨_, rfl, ?_⟩; have n0_ := Aside0.mk (Kd.R_elder' (by (with_reducible repeat (first | apply Kd.R_alloc | apply Kd.R_drewN | apply Kd.R_drew)); exact HO278.out) (Kd.R_base ho0) hb); have n1_ := Aside0.mk (Kd.R_lower (Kd.R_new' ho0 (Kd.R_lt (by (with_reducible repeat (first | apply Kd.R_alloc | apply Kd.R_drewN | apply Kd.R_drew)); exact HO278.out))) (below_size (by repeat (first | (with_reducible first | exact HB.out | apply below_alloc | apply pw_below_drewN | apply below_drew1) | exact HB.out)))); have n2_ := Aside0.mk (below_step (by repeat (first | (with_reducible first | exact HB.out | apply below_alloc | apply pw_below_drewN | apply below_drew1) | exact HB.out)) hb); clear HO278; clear HB; have HO278 := n0_; have HO282 := n1_; have HB := n2_; clear n0_ n1_ n2_; (try clear hb); (try clear hb2); (try clear hk); (try clear hi); (try clear ho0)) | ((with_reducible refine gate_callee (f := 14) rfl ?_); refine goesL_ (some 25) rfl rfl Tryz.func14 (by kernel_rfl) rfl #[.slice A1 l1.length c1] rfl (by (try simp only [List.map_toArray, List.map_cons, List.map_nil]); first | done | rfl | (simp only [List.length_drop, List.length_take]; rfl)) ?_; (with_reducible refine (gs1_Format.calls k _ _ l1 t283 t284 _ ?side3 ?side1 ?side2 A5.out).mono ?_); (case side1 => repeat (first | exact (Kd.C_below HR1.out HB.out) | (with_reducible refine Kd.C_alloc ?_ _) | (with_reducible refine Kd.C_drewN ?_ _) | (with_reducible refine Kd.C_drew ?_))); (case side2 => exact HC1.out); (case side3 => exact Tabs.below HT.out (by repeat (first | (with_reducible first | exact HB.out | apply below_alloc | apply pw_below_drewN | apply below_drew1) | exact HB.out))); rintro e w40 ⟨rfl, hb⟩; refine ⟨_, rfl, ?_⟩; have n0_ := Aside0.mk (Kd.R_below (by (with_reducible repeat (first | apply Kd.R_alloc | apply Kd.R_drewN | apply Kd.R_drew)); exact HO278.out) hb); have n1_ := Aside0.mk (Kd.R_below (by (with_reducible repeat (first | apply Kd.R_alloc | apply Kd.R_drewN | apply Kd.R_drew)); exact HO282.out) hb); have n2_ := Aside0.mk (below_step (by repeat (first | (with_reducible first | exact HB.out | apply below_alloc | apply pw_below_drewN | apply below_drew1) | exact HB.out)) hb); clear HO278; clear HO282; clear HB; have HO278 := n0_; have HO282 := n1_; have HB := n2_; clear n0_ n1_ n2_; (try clear hb); (try clear hb2); (try clear hk); (try clear hi)) | ((with_reducible refine gate_callee (f := 15) rfl ?_); refine goesL_ (some 30) rfl rfl Tryz.func15 (by kernel_rfl) rfl #[.slice A1 l1.length c1] rfl (by (try simp only [List.map_toArray, List.map_cons, List.map_nil]); first | done | rfl | (simp only [List.length_drop, List.length_take]; rfl)) ?_; (with_reducible refine (barscanref14_Format.calls k _ _ l1 t285 t286 _ ?side1 ?side2 A6.out).mono ?_); (case side1 => repeat (first | exact (Kd.C_below HR1.out HB.out) | (with_reducible refine Kd.C_alloc ?_ _) | (with_reducible refine Kd.C_drewN ?_ _) | (with_reducible refine Kd.C_drew ?_))); (case side2 => exact HC1.out); rintro e w41 ⟨rfl, hb⟩; refine ⟨_, rfl, ?_⟩; have n0_ := Aside0.mk (Kd.R_below (by (with_reducible repeat (first | apply Kd.R_alloc | apply Kd.R_drewN | apply Kd.R_drew)); exact HO278.out) hb); have n1_ := Aside0.mk (Kd.R_below (by (with_reducible repeat (first | apply Kd.R_alloc | apply Kd.R_drewN | apply Kd.R_drew)); exact HO282.out) hb); have n2_ := Aside0.mk (below_step (by repeat (first | (with_reducible first | exact HB.out | apply below_alloc | apply pw_below_drewN | apply below_drew1) | exact HB.out)) hb); clear HO278; clear HO282; clear HB; have HO278 := n0_; have HO282 := n1_; have HB := n2_; clear n0_ n1_ n2_; (try clear hb); (try clear hb2); (try clear hk); (try clear hi); obtain ⟨Ao42, co42, eo42⟩ := Kd.R_slice HO278.out; subst eo42; obtain ⟨Ao43, co43, eo43⟩ := Kd.R_slice HO282.out; subst eo43) | ((with_reducible refine gate_callee (f := 16) rfl ?_); refine goesL_ (some 35) rfl rfl Tryz.func16 (by kernel_rfl) rfl #[.slice Ao42 t275.length co42, .slice Ao43 t279.length co43] rfl (by (try simp only [List.map_toArray, List.map_cons, List.map_nil]); first | done | rfl | (simp only [List.length_drop, List.length_take]; rfl)) ?_; (with_reducible refine (barscanlaw14_same.calls k _ _ t275 _ _ t279 false _ ?side1 ?side2 ?side3 ?side4 A7.out).mono ?_); (case side1 => repeat (first | exact (Kd.R_reads' HO278.out).2.2 | (with_reducible refine Kd.C_alloc ?_ _) | (with_reducible refine Kd.C_drewN ?_ _) | (with_reducible refine Kd.C_drew ?_))); (case side2 => exact (Kd.R_reads' HO278.out).2.1); (case side3 => repeat (first | exact (Kd.R_reads' HO282.out).2.2 | (with_reducible refine Kd.C_alloc ?_ _) | (with_reducible refine Kd.C_drewN ?_ _) | (with_reducible refine Kd.C_drew ?_))); (case side4 => exact (Kd.R_reads' HO282.out).2.1); rintro e w' ⟨rfl, ⟨nd, rfl⟩⟩; refine ⟨_, rfl, ?_⟩))
  go_ret
  exact ⟨by first | rfl | (simp [errW_none, errW_some] <;> rfl) | (simp [*, errW_none, errW_some] <;> rfl), by repeat (first | (with_reducible first | exact HB.out | apply below_alloc | apply pw_below_drewN | apply below_drew1) | exact HB.out)⟩

end Go.Proofs.YtghlbdemlmbijaaGreatDoor.Q

/- The plain law Gs1Texts. -/
namespace Go.Proofs.YtghlbdemlmbijaaGreatDoor.Q
open Go.RowKit Go.Proofs.YtghlbdemlmbijaaGreatDoorW.PrintWords Go.Proofs.YtghlbdemlmbijaaGreatDoorW.PrintLast Go.Proofs.YtghlbdemlmbijaaGreatDoorW.PrintMore
theorem fmR_bd (l : List El) (B : Nat) (h : ∀ i : Nat, (piece (rd_T23 l i)).size ≤ B) (n : Nat) : ∀ (i : Nat) (out : ByteArray), (fmR l n i out).size ≤ out.size + n * B := by
  induction n with
  | zero => intro i out; simp [fmR]
  | succ n ih =>
    intro i out
    have h1 := ih (i + 1) (out ++ piece (rd_T23 l i))
    have h2 := h i
    rw [ByteArray.size_append] at h1
    simp only [fmR]
    rw [Nat.succ_mul]
    omega
theorem texts_ev (s : ByteArray) (l : List El) (hz : SzL l) (hl : (fmR l l.length 0 ⟨#[]⟩).size < 140737488355328) : ∃ K, barscanlaw14_Gs1Texts.f K s l = some true := by
  have h : Ev (fun k => barscanlaw14_Gs1Texts.f k s l) true := by
    unfold barscanlaw14_Gs1Texts.f
    refine Ev.bind (gparse_ev s) (Ev.bind (rparse_ev s) (Ev.bind (gfm_ev l hz hl) (Ev.bind (rfm_ev l hz) (Ev.bind (a := true) ?_ (Ev.pos rfl (Ev.pos rfl (Ev.pos rfl (Ev.pos rfl (Ev.bind ⟨60, examples_at⟩ (Ev.const rfl))))))))))
    unfold barscanlaw14_same.f
    have := parS_len s
    exact Ev.bind (same_ev _ (by omega)) (Ev.const rfl)
  exact h.get
end Go.Proofs.YtghlbdemlmbijaaGreatDoor.Q

/- The law Gs1Texts: its row and its card, where what it reads is of bulk at most 1048576. -/
namespace Go.Proofs.YtghlbdemlmbijaaGreatDoor.gs1Texts
open Go.ChangeShapes Go.WideShapes Go.ChangeAt Go.RowKit
open Go.ChangeMaps (open_string shut_string)
set_option linter.unusedVariables false
set_option maxRecDepth 2000000 in
/-- WHAT THE WALK GIVES. -/
theorem contract (H : Type) (enc : TypeId × Value → H) (W : World) (base : Nat) (args : Array Value) (ds gs : List (DataW H)) (before : List MemPlace)
    (hval : ∀ (j : Nat) t v, Tryz.f4.params[j]? = some t → args[j]? = some v → Value.okWide Tryz.prog W .any base t v)
    (hW : DataW.Whole enc Tryz.prog Tryz.f4.params.toList Rows.gs1TextsSpec.vars false W args.toList ds gs before) (hk : Rows.uptoSmall H (ds ++ gs) = true) (hL : laidMetH Tryz.prog Rows.gs1TextsRow.laid W) :
    Calls Tryz.prog 4 args W fun e W' => ∃ v, e = .returned v ∧ Rows.gs1TextsSpec.post enc Tryz.prog Tryz.f4 false true false false W args v W' := by
  have hW' := hW
  obtain ⟨p, q, hA0, hV, rfl, hfz, hnd⟩ := hW
  have hA : DataW.TrodAll enc Tryz.prog W 0 (fun _ => true) true Tryz.f4.params.toList args.toList ds p := hA0
  rw [Tryz.params4] at hA hval
  obtain ⟨v0, vs0, d0, ds0, p0, q0, hargs, rfl, rfl, h0, r0⟩ := trodAll_cons hA
  obtain ⟨v1, vs1, d1, ds1, p1, q1, rfl, rfl, rfl, h1, r1⟩ := trodAll_cons r0
  obtain ⟨rfl, rfl, rfl⟩ := trodAll_nil r1
  obtain rfl : args = #[v0, v1] := by cases args; simp_all
  obtain ⟨rfl, rfl⟩ := trodVars_none hV
  obtain ⟨a0, rfl, rfl, rfl, y0⟩ := open_string Tryz.underlying9 (hval 0 9 v0 rfl rfl) h0
  have k1 := h1
  obtain ⟨u1, len1, cap1, rfl⟩ := okWide_slice Tryz.underlying30 (hval 1 30 v1 rfl rfl)
  have lt1 : ∀ x ∈ p1, x.block < W.heap.size := by obtain ⟨m, hm⟩ := k1; exact DataW.trod_lt m _ _ _ hm
  obtain ⟨fuel, hf⟩ := h1
  obtain ⟨A, l, c, hv, hlc, hC, hw⟩ := Els.open_els hf
  have hb : Rows.uptoBulkAll ([.lit (.string a0.data.toList), d1] ++ [] : List (DataW H)) ≤ 1048576 := of_decide_eq_true hk
  simp only [List.append_nil, Rows.uptoBulkAll] at hb
  have hwl : Els.weight l ≤ 1048576 := by simp only at hw; omega
  have hz := Els.szl l hwl
  have hfm : (Q.fmR l l.length 0 ⟨#[]⟩).size < 140737488355328 := by
    have h1 := Els.weight_len l
    have h2 := Q.fmR_bd l 1048580 (fun i => by
      have h3 := Els.weight_at l i
      have e1 : (⟨#[40]⟩ : ByteArray).size = 1 := rfl
      have e2 : (⟨#[41]⟩ : ByteArray).size = 1 := rfl
      unfold Q.piece
      simp only [ByteArray.size_append, e1, e2]
      omega) l.length 0 ⟨#[]⟩
    have h4 : (⟨#[]⟩ : ByteArray).size = 0 := rfl
    have h5 : l.length * 1048580 ≤ 349525 * 1048580 := Nat.mul_le_mul_right _ (by omega)
    omega
  clear hA0
  obtain ⟨K, hK⟩ := Q.texts_ev a0 l hz hfm
  have walk := Q.barscanlaw14_Gs1Texts.calls K a0 A c l true W (Wit.tabs hL) hC hlc hK
  rw [← hv] at walk
  refine walk.mono fun e W' ⟨he, hg⟩ => ?_
  subst he
  exact ⟨_, rfl, _, _, _, [], _, [], hW', trodAll_mk1 (shut_bool Tryz.underlying4 _), (trodAll_cons_mk (shut_string Tryz.underlying9 y0) (trodAll_cons_mk (Below.trod Els.laidOut (by kernel_rfl) (of_decide_eq_true (by kernel_rfl)) k1 hg lt1) trodAll_mk0)), rfl, hg.frame _, fun h => by cases h⟩
theorem reads (os : Os) {H : Type} (enc : TypeId × Value → H) : ∃ places, DataW.whole enc Tryz.prog ((Wit.laidWorld os).forCall (fun _ _ => 0) ⟨#[], #[.string ⟨#[]⟩, .slice none 0 0], []⟩).memory Tryz.f4.params.toList Rows.gs1TextsSpec.vars false #[Value.string ⟨#[]⟩, Value.slice none 0 0].toList 8 = some ([.lit (.string []), .nil], [], places) :=
  ⟨[], by kernel_rfl⟩
set_option maxRecDepth 100000 in
theorem liftedUpto (os : Os) (started : os.Started) (H : Type) (enc : TypeId × Value → H) (F : Stop.Interp) :
    ReturnsInHanded {} Tryz.checked os 4 .any ((Rows.OpenSpec.upto Rows.gs1TextsSpec).preRow enc Tryz.prog Tryz.f4 Rows.gs1TextsUptoRow.domain false Rows.gs1TextsUptoRow.laid) (((Rows.OpenSpec.upto Rows.gs1TextsSpec).at F).post enc Tryz.prog Tryz.f4 false true false false) := by
  obtain ⟨places, hx⟩ := reads os enc
  refine returnsInHanded_of_row (C := Tryz.checked) (s := Rows.OpenSpec.upto Rows.gs1TextsSpec) Wit.own started (by kernel_rfl) Tryz.func4
    (witness_row_atRef (enc := enc) (C := Tryz.checked) false (Wit.laidWorld os) #[.string ⟨#[]⟩, .slice none 0 0] rfl (by kernel_rfl) (by kernel_rfl) (by kernel_rfl)
      (OpenSpec.preRow_of_cond 8 hx (by kernel_rfl) (fun k hk => by cases hk; kernel_rfl) (by kernel_rfl) (Wit.laid_met os _))) ?_
  intro W base args ds gs before hval hW _ hcond _ hL _ _
  exact contract H enc W base args ds gs before hval hW (hcond _ rfl) hL
theorem saidUpto : Rows.Gs1TextsUptoSaid :=
  OpenClaim.holds_of_cond 4 Tryz.f4 rfl rfl rfl rfl rfl rfl rfl ⟨rfl, rfl, rfl, rfl, rfl⟩ rfl rfl rfl rfl rfl (by kernel_rfl) Tryz.func4 (by kernel_rfl)
    (of_decide_eq_true (by kernel_rfl)) (by unfold Func.isWrapper; first | (rw [if_pos (by decide +kernel)]; kernel_rfl) | (rw [if_neg (by decide +kernel)]; exact ⟨rfl, rfl⟩))
    (fun os started H enc _ F => by rw [OpenClaim.pre_eq_preRow]; exact liftedUpto os started H enc F)
theorem plain (f : FuncId) (fn : Func) (hf : Tryz.pinned.checked.prog.funcNamed "barscan/barscanlaw14.Gs1Texts" = some f) (hfn : Tryz.pinned.checked.prog.funcs[f]? = some fn) :
    false = Tryz.pinned.checked.prog.looks [] ∧ ∀ (j : Nat) t, fn.params[j]? = some t → Tryz.pinned.checked.prog.wantsStandIn t = false := by
  obtain rfl : f = 4 := Option.some.inj ((show Tryz.prog.funcNamed "barscan/barscanlaw14.Gs1Texts" = some 4 by kernel_rfl).symm.trans hf) |>.symm
  obtain rfl : fn = Tryz.f4 := (Option.some.inj (Tryz.func4.symm.trans hfn)).symm
  refine ⟨by kernel_rfl, fun j t ht => ?_⟩
  rw [Tryz.params4] at ht
  obtain rfl | rfl : t = 9 ∨ t = 30 := by simpa using Array.mem_of_getElem? ht
  · exact (show Tryz.prog.wantsStandIn 9 = false by kernel_rfl)
  · exact (show Tryz.prog.wantsStandIn 30 = false by kernel_rfl)
/-- THE CARD. -/
theorem cardUpto : Rows.Gs1TextsUptoCardSaid :=
  Claim7.holds_tied_plain_at .later [] _ _ _ _ saidUpto (fun _ h => by cases h) (by kernel_rfl) (fun _ h => by cases h) gs1TextsUpto_row_tie rfl ⟨rfl, rfl⟩ (by kernel_rfl) rfl plain (by kernel_rfl)
end Go.Proofs.YtghlbdemlmbijaaGreatDoor.gs1Texts
