/- Joined by a program of this work (pack.py) out of the texts Wit, Qbarscanref11digits, Qbarscanref11length, Qbarscanref11expand, Qbarscanref11check, Qbarscanref11checkOf, Qbarscanref11Complete, Sp1, Qbarscanref11complete, Sp2, Qbarscanref11Expand, Qbarscanref11Compress, Sp3 of this seat, in build order. -/
import Derived.Test.YtjmeekceecpemaaGreatDoorPG4
import Derived.Test.YtjmeekceecpemaaGreatDoorWWords
import Derived.Test.YtjmeekceecpemaaGreatDoorWLast
import Derived.Test.YtjmeekceecpemaaGreatDoorWApart
import Derived.Test.YtjmeekceecpemaaGreatDoorWArr
import Derived.Test.YtjmeekceecpemaaGreatDoorWEqStruct
import Derived.Test.YtjmeekceecpemaaGreatDoorWGuard
import Derived.Test.YtjmeekceecpemaaGreatDoorWZeros
import Derived.Test.YtjmeekceecpemaaGreatDoorWShare
import Derived.Test.YtjmeekceecpemaaGreatDoorWN
import Derived.Test.YtjmeekceecpemaaGreatDoorWNEv
import Derived.Test.YtjmeekceecpemaaGreatDoorWMore
import Derived.Test.YtjmeekceecpemaaGreatDoorWRepsOne
import Derived.Test.YtjmeekceecpemaaGreatDoorWTab
import Derived.Test.YtjmeekceecpemaaGreatDoorCards
import Derived.Test.YtjmeekceecpemaaGreatDoorTie
import Derived.Test.YtjmeekceecpemaaGreatDoorProg
import Derived.WalkKit
import Derived.ProofKit
import Derived.OpenShut
import Derived.Deep.DeepHandedRow
import Derived.Deep.DeepWitnessRowRef
import Derived.Lib.LaidTab
import Derived.Lib.LaidU8
/- What the four rows share: a world that holds the laid variables; what the list gives the walks. -/
namespace Go.Proofs.YtjmeekceecpemaaGreatDoor.Wit
open Go.RowKit
theorem own : ownKnob Tryz.prog.godebug = none := by kernel_rfl
abbrev laidL : List (String × DataW Unit) := [("unicode/utf8.acceptRanges", Rows.laid_unicode_utf8_acceptRanges), ("unicode/utf8.first", Rows.laid_unicode_utf8_first)]
/-- A WORLD FOR THE WITNESS: the settled one, the two variables holding what their initialisers lay. -/
noncomputable def laidWorld (os : Os) : World :=
  let w0 := World.holding Tryz.prog os ⟨#[], #[], []⟩
  let put (h : Array Obj) (g : Nat) (cs : Array Value) : Array Obj := h.modify g fun
    | .cells _ t frozen => .cells cs t frozen
    | o => o
  let h1 := put w0.heap 1 (Lib.firstTab.map fun z => Value.int .u8 z).toArray
  let h2 := put h1 2 #[.int .u8 128, .int .u8 191, .int .u8 160, .int .u8 191, .int .u8 128, .int .u8 159, .int .u8 144, .int .u8 191, .int .u8 128, .int .u8 143, .int .u8 0, .int .u8 0, .int .u8 0, .int .u8 0, .int .u8 0, .int .u8 0, .int .u8 0, .int .u8 0, .int .u8 0, .int .u8 0, .int .u8 0, .int .u8 0, .int .u8 0, .int .u8 0, .int .u8 0, .int .u8 0, .int .u8 0, .int .u8 0, .int .u8 0, .int .u8 0, .int .u8 0, .int .u8 0]
  { w0 with heap := h2 }
theorem laid_met (os : Os) (args : Array Value) : laidMet Tryz.prog laidL ((laidWorld os).forCall (fun _ _ => 0) ⟨#[], args, []⟩).memory :=
  laidMet_of_run' 8 (by kernel_rfl) (by kernel_rfl)
end Go.Proofs.YtjmeekceecpemaaGreatDoor.Wit

namespace Go.Proofs.YtjmeekceecpemaaGreatDoor.Q
open Go.RowKit Go.Proofs.YtjmeekceecpemaaGreatDoorW.PrintWords Go.Proofs.YtjmeekceecpemaaGreatDoorW.PrintLast Go.Proofs.YtjmeekceecpemaaGreatDoorW.PrintMore

set_option linter.unusedVariables false
set_option linter.unusedSimpArgs false

/-! ### barscanref11_digits: function 35 -/
def barscanref11_digits.l0 : Nat → ByteArray → Int → Option (Bool)
  | 0, _, _ => none
  | k + 1, x0, x3 => if x3 < (x0.size : Int) then (if 0 ≤ x3 then (if (bt x0 x3) < 48 then (some false) else (if (bt x0 x3) > 57 then (some false) else (barscanref11_digits.l0 k x0 (wrap64 (x3 + 1))))) else (none)) else (some true)
def barscanref11_digits.f (k : Nat) (a0 : ByteArray) : Option (Bool) := barscanref11_digits.l0 k a0 0
theorem barscanref11_digits.mono_l : ∀ k, (∀ y0 y1, LeO (barscanref11_digits.l0 k y0 y1) (barscanref11_digits.l0 (k + 1) y0 y1))
  | 0 => fun _ _ r h => by simp [barscanref11_digits.l0] at h
  | k + 1 => by
    have ih0 := barscanref11_digits.mono_l k
    · intro y0 y1
      unfold barscanref11_digits.l0
      repeat' with_reducible first | exact ih0 _ _ | exact LeO.refl _ | exact LeO.none _ | refine LeO.ite ?_ ?_ | refine LeO.bind ?_ (fun _ => ?_)
theorem barscanref11_digits.mono : ∀ a0 k, LeO (barscanref11_digits.f k a0) (barscanref11_digits.f (k + 1) a0) := by
  intro a0 k
  have ih0 := barscanref11_digits.mono_l k
  unfold barscanref11_digits.f
  repeat' with_reducible first | exact ih0 _ _ | exact LeO.refl _ | exact LeO.none _ | refine LeO.ite ?_ ?_ | refine LeO.bind ?_ (fun _ => ?_)
set_option maxHeartbeats 8000000 in
set_option maxRecDepth 100000 in
theorem barscanref11_digits.calls (k : Nat) (a0 : ByteArray) (r : Bool) (w : World) (h : barscanref11_digits.f k a0 = some r) :
    Calls Tryz.prog 35 #[.string a0] w fun e w' => e = .returned (.bool r) ∧ Drawn0 w w' := by
 have H := h
 clear h
 unfold barscanref11_digits.f at H
 have H' := Aside0.mk H
 clear H
 go_enter Tryz.func35, Tryz.ntmps35
 go_wp2
 go_loopg [3] k (fun kq v3 w' => ∃ (x3_1 : Int), v3 = .int .i64 x3_1 ∧ Aside0 (barscanref11_digits.l0 kq a0 x3_1 = some r) ∧ Aside0 (kq ≤ k) ∧ Drawn0 w w')
 case atStart => exact ⟨(0), rs, H', ⟨Nat.le_refl _⟩, by repeat (first | exact Drawn0.refl _ | apply Drawn0.step)⟩
 case round =>
  clear H'
  obtain ⟨x3_1, rfl, HA, HK1, ⟨m1, rfl⟩⟩ := hrel
  cases gk with
  | zero => exact absurd HA.out (by simp [barscanref11_digits.l0])
  | succ k1 =>
   have H := HA.out
   clear HA
   simp only [barscanref11_digits.l0] at H
   replace H := ifc H
   obtain ⟨c2, H⟩ | ⟨c2, H⟩ := H
   rotate_left
   ·have c2b0 : decide (x3_1 < (a0.size : Int)) = false := decide_eq_false c2
    clear c2
    obtain rfl := Option.some.inj H
    go_wp2
    go_ret
    exact ⟨rs, by repeat (first | exact Drawn0.refl _ | apply Drawn0.step)⟩
   have c2b0 : decide (x3_1 < (a0.size : Int)) = true := decide_eq_true c2
   clear c2
   replace H := ifn H
   obtain ⟨c3, H⟩ := H
   have c3b0 : decide (0 ≤ x3_1) = true := decide_eq_true c3
   clear c3
   by_cases c5 : (bt a0 x3_1) < 48
   ·rw [if_pos c5] at H
    have c5b0 : decide ((bt a0 x3_1) < 48) = true := decide_eq_true c5
    clear c5
    obtain rfl := Option.some.inj H
    have p4 : 0 ≤ (x3_1 : Int) := of_decide_eq_true am
    have q4 : x3_1 < (a0.size : Int) := of_decide_eq_true am
    have hx4 := bt_at a0 x3_1
    replace p4 := eq_true p4
    replace q4 := eq_true q4
    go_wp2
    go_ret
    exact ⟨rs, by repeat (first | exact Drawn0.refl _ | apply Drawn0.step)⟩
   rw [if_neg c5] at H
   have c5b0 : decide ((bt a0 x3_1) < 48) = false := decide_eq_false c5
   clear c5
   replace H := ifc H
   obtain ⟨c7, H⟩ | ⟨c7, H⟩ := H
   ·have c7b0 : decide (57 < (bt a0 x3_1)) = true := decide_eq_true c7
    clear c7
    obtain rfl := Option.some.inj H
    have p4 : 0 ≤ (x3_1 : Int) := of_decide_eq_true am
    have q4 : x3_1 < (a0.size : Int) := of_decide_eq_true am
    have hx4 := bt_at a0 x3_1
    replace p4 := eq_true p4
    replace q4 := eq_true q4
    have p6 : 0 ≤ (x3_1 : Int) := of_decide_eq_true am
    have q6 : x3_1 < (a0.size : Int) := of_decide_eq_true am
    have hx6 := bt_at a0 x3_1
    replace p6 := eq_true p6
    replace q6 := eq_true q6
    go_wp2
    go_ret
    exact ⟨rs, by repeat (first | exact Drawn0.refl _ | apply Drawn0.step)⟩
   have c7b0 : decide (57 < (bt a0 x3_1)) = false := decide_eq_false c7
   clear c7
   have H' := Aside0.mk H
   clear H
   have p4 : 0 ≤ (x3_1 : Int) := of_decide_eq_true am
   have q4 : x3_1 < (a0.size : Int) := of_decide_eq_true am
   have hx4 := bt_at a0 x3_1
   replace p4 := eq_true p4
   replace q4 := eq_true q4
   have p6 : 0 ≤ (x3_1 : Int) := of_decide_eq_true am
   have q6 : x3_1 < (a0.size : Int) := of_decide_eq_true am
   have hx6 := bt_at a0 x3_1
   replace p6 := eq_true p6
   replace q6 := eq_true q6
   go_wp2
   go_roundg k1
   case measure => have := HK1.out; omega
   case rel => exact ⟨(wrap64 (x3_1 + 1)), rs, H', ⟨by have := HK1.out; omega⟩, by repeat (first | exact Drawn0.refl _ | apply Drawn0.step)⟩

end Go.Proofs.YtjmeekceecpemaaGreatDoor.Q

namespace Go.Proofs.YtjmeekceecpemaaGreatDoor.Q
open Go.RowKit Go.Proofs.YtjmeekceecpemaaGreatDoorW.PrintWords Go.Proofs.YtjmeekceecpemaaGreatDoorW.PrintLast Go.Proofs.YtjmeekceecpemaaGreatDoorW.PrintMore

set_option linter.unusedVariables false
set_option linter.unusedSimpArgs false

/-! ### barscanref11_length: function 49 -/
def barscanref11_length.j0 : Nat → Int → Bool → Option (Int)
  | 0, _, _ => none
  | k + 1, x3, x6 => if x6 = true then (some 8) else (if x3 = 3 then (some 12) else (some 0))
def barscanref11_length.f (k : Nat) (a0 : Int) : Option (Int) := if a0 = 1 then (some 13) else (if a0 = 2 then (barscanref11_length.j0 k a0 (a0 == 2)) else (barscanref11_length.j0 k a0 (a0 == 4)))
theorem barscanref11_length.mono_l : ∀ k, (∀ y0 y1, LeO (barscanref11_length.j0 k y0 y1) (barscanref11_length.j0 (k + 1) y0 y1))
  | 0 => fun _ _ r h => by simp [barscanref11_length.j0] at h
  | k + 1 => by
    have ih0 := barscanref11_length.mono_l k
    · intro y0 y1
      unfold barscanref11_length.j0
      repeat' with_reducible first | exact ih0 _ _ | exact LeO.refl _ | exact LeO.none _ | refine LeO.ite ?_ ?_ | refine LeO.bind ?_ (fun _ => ?_)
theorem barscanref11_length.mono : ∀ a0 k, LeO (barscanref11_length.f k a0) (barscanref11_length.f (k + 1) a0) := by
  intro a0 k
  have ih0 := barscanref11_length.mono_l k
  unfold barscanref11_length.f
  repeat' with_reducible first | exact ih0 _ _ | exact LeO.refl _ | exact LeO.none _ | refine LeO.ite ?_ ?_ | refine LeO.bind ?_ (fun _ => ?_)
set_option maxHeartbeats 8000000 in
set_option maxRecDepth 100000 in
theorem barscanref11_length.calls (k : Nat) (a0 : Int) (r : Int) (w : World) (h : barscanref11_length.f k a0 = some r) :
    Calls Tryz.prog 49 #[.int .i64 a0] w fun e w' => e = .returned (.int .i64 r) ∧ Drawn0 w w' := by
 have H := h
 clear h
 unfold barscanref11_length.f at H
 replace H := ifc H
 obtain ⟨c2, H⟩ | ⟨c2, H⟩ := H
 ·have c2b0 : (a0 == 1) = true := beq_iff_eq.mpr c2
  have c2b1 : (a0 != 1) = false := bne_eq_false_iff_eq.mpr c2
  clear c2
  obtain rfl := Option.some.inj H
  go_enter Tryz.func49, Tryz.ntmps49
  go_wp2
  go_ret
  exact ⟨rs, by repeat (first | exact Drawn0.refl _ | apply Drawn0.step)⟩
 have c2b0 : (a0 == 1) = false := beq_eq_false_iff_ne.mpr c2
 have c2b1 : (a0 != 1) = true := bne_iff_ne.mpr c2
 have HC3 := Aside0.mk H
 clear H
 go_enter Tryz.func49, Tryz.ntmps49
 go_upto_if 6 with (fail)
 go_cut [6] (fun v6 wc => ∃ (kq : Nat) (x6_2 : Bool), v6 = .bool x6_2 ∧ Aside0 (barscanref11_length.j0 kq a0 x6_2 = some r) ∧ Aside0 (kq ≤ k) ∧ Drawn0 w wc)
 case first =>
  have H := HC3.out
  clear HC3
  replace H := ifc H
  obtain ⟨c4, H⟩ | ⟨c4, H⟩ := H
  rotate_left
  ·have c4b0 : (a0 == 2) = false := beq_eq_false_iff_ne.mpr c4
   have c4b1 : (a0 != 2) = true := bne_iff_ne.mpr c4
   (first | rw [c4b0] | (simp only [i64_w]; rw [c4b0]) | skip)
   have H' := Aside0.mk H
   clear H
   go_wp2
   go_meet
   case rel => exact ⟨_, ((a0 == 4)), rs, H', ⟨la⟩, by repeat (first | exact Drawn0.refl _ | apply Drawn0.step)⟩
  have c4b0 : (a0 == 2) = true := beq_iff_eq.mpr c4
  have c4b1 : (a0 != 2) = false := bne_eq_false_iff_eq.mpr c4
  clear c4
  (first | rw [c4b0] | (simp only [i64_w]; rw [c4b0]) | skip)
  have H' := Aside0.mk H
  clear H
  go_wp2
  go_meet
  case rel => exact ⟨_, ((a0 == 2)), rs, H', ⟨la⟩, by repeat (first | exact Drawn0.refl _ | apply Drawn0.step)⟩
 case rest =>
  clear HC3
  obtain ⟨kq, x6_2, rfl, HA, HJ2, ⟨mc2, rfl⟩⟩ := hcut
  cases kq with
  | zero => exact absurd HA.out (by simp [barscanref11_length.j0])
  | succ kj2 =>
   have H := HA.out
   clear HA
   simp only [barscanref11_length.j0] at H
   by_cases c5 : x6_2 = true
   ·subst c5
    rw [if_pos rfl] at H
    obtain rfl := Option.some.inj H
    go_wp2
    go_ret
    exact ⟨rs, by repeat (first | exact Drawn0.refl _ | apply Drawn0.step)⟩
   replace c5 := Bool.eq_false_iff.mpr c5
   subst c5
   rw [if_neg (show ¬ (false = true) by decide)] at H
   replace H := ifc H
   obtain ⟨c6, H⟩ | ⟨c6, H⟩ := H
   rotate_left
   ·have c6b0 : (a0 == 3) = false := beq_eq_false_iff_ne.mpr c6
    have c6b1 : (a0 != 3) = true := bne_iff_ne.mpr c6
    obtain rfl := Option.some.inj H
    go_wp2
    go_ret
    exact ⟨rs, by repeat (first | exact Drawn0.refl _ | apply Drawn0.step)⟩
   have c6b0 : (a0 == 3) = true := beq_iff_eq.mpr c6
   have c6b1 : (a0 != 3) = false := bne_eq_false_iff_eq.mpr c6
   clear c6
   obtain rfl := Option.some.inj H
   go_wp2
   go_ret
   exact ⟨rs, by repeat (first | exact Drawn0.refl _ | apply Drawn0.step)⟩

end Go.Proofs.YtjmeekceecpemaaGreatDoor.Q

namespace Go.Proofs.YtjmeekceecpemaaGreatDoor.Q
open Go.RowKit Go.Proofs.YtjmeekceecpemaaGreatDoorW.PrintWords Go.Proofs.YtjmeekceecpemaaGreatDoorW.PrintLast Go.Proofs.YtjmeekceecpemaaGreatDoorW.PrintMore

set_option linter.unusedVariables false
set_option linter.unusedSimpArgs false

/-! ### barscanref11_expand: function 52 -/
def barscanref11_expand.j0 : Nat → ByteArray → Int → Bool → Option (ByteArray)
  | 0, _, _, _ => none
  | k + 1, x0, x4, x5 => if x5 = true then (if 0 ≤ 3 then (if 3 ≤ (x0.size : Int) then (if 6 ≤ 7 then (if 7 ≤ (x0.size : Int) then (if (x0.extract 0 3).size + (x0.extract 6 7).size ≤ 9223372036854775807 then (if ((x0.extract 0 3) ++ (x0.extract 6 7)).size + 4 ≤ 9223372036854775807 then (if 3 ≤ 6 then (if 6 ≤ (x0.size : Int) then (if (((x0.extract 0 3) ++ (x0.extract 6 7)) ++ (⟨#[48, 48, 48, 48]⟩ : ByteArray)).size + (x0.extract 3 6).size ≤ 9223372036854775807 then (some ((((x0.extract 0 3) ++ (x0.extract 6 7)) ++ (⟨#[48, 48, 48, 48]⟩ : ByteArray)) ++ (x0.extract 3 6))) else (none)) else (none)) else (none)) else (none)) else (none)) else (none)) else (none)) else (none)) else (none)) else (if x4 = 51 then (if 0 ≤ 4 then (if 4 ≤ (x0.size : Int) then (if (x0.extract 0 4).size + 5 ≤ 9223372036854775807 then (if 4 ≤ 6 then (if 6 ≤ (x0.size : Int) then (if ((x0.extract 0 4) ++ (⟨#[48, 48, 48, 48, 48]⟩ : ByteArray)).size + (x0.extract 4 6).size ≤ 9223372036854775807 then (some (((x0.extract 0 4) ++ (⟨#[48, 48, 48, 48, 48]⟩ : ByteArray)) ++ (x0.extract 4 6))) else (none)) else (none)) else (none)) else (none)) else (none)) else (none)) else (if x4 = 52 then (if 0 ≤ 5 then (if 5 ≤ (x0.size : Int) then (if (x0.extract 0 5).size + 5 ≤ 9223372036854775807 then (if 5 ≤ 6 then (if 6 ≤ (x0.size : Int) then (if ((x0.extract 0 5) ++ (⟨#[48, 48, 48, 48, 48]⟩ : ByteArray)).size + (x0.extract 5 6).size ≤ 9223372036854775807 then (some (((x0.extract 0 5) ++ (⟨#[48, 48, 48, 48, 48]⟩ : ByteArray)) ++ (x0.extract 5 6))) else (none)) else (none)) else (none)) else (none)) else (none)) else (none)) else (if 0 ≤ 6 then (if 6 ≤ (x0.size : Int) then (if (x0.extract 0 6).size + 4 ≤ 9223372036854775807 then (if 6 ≤ 7 then (if 7 ≤ (x0.size : Int) then (if ((x0.extract 0 6) ++ (⟨#[48, 48, 48, 48]⟩ : ByteArray)).size + (x0.extract 6 7).size ≤ 9223372036854775807 then (some (((x0.extract 0 6) ++ (⟨#[48, 48, 48, 48]⟩ : ByteArray)) ++ (x0.extract 6 7))) else (none)) else (none)) else (none)) else (none)) else (none)) else (none))))
def barscanref11_expand.f (k : Nat) (a0 : ByteArray) : Option (ByteArray) := if 6 < (a0.size : Int) then (if (bt a0 6) = 48 then (barscanref11_expand.j0 k a0 (bt a0 6) ((bt a0 6) == 48)) else (if (bt a0 6) = 49 then (barscanref11_expand.j0 k a0 (bt a0 6) ((bt a0 6) == 49)) else (barscanref11_expand.j0 k a0 (bt a0 6) ((bt a0 6) == 50)))) else (none)
theorem barscanref11_expand.mono_l : ∀ k, (∀ y0 y1 y2, LeO (barscanref11_expand.j0 k y0 y1 y2) (barscanref11_expand.j0 (k + 1) y0 y1 y2))
  | 0 => fun _ _ _ r h => by simp [barscanref11_expand.j0] at h
  | k + 1 => by
    have ih0 := barscanref11_expand.mono_l k
    · intro y0 y1 y2
      unfold barscanref11_expand.j0
      repeat' with_reducible first | exact ih0 _ _ _ | exact LeO.refl _ | exact LeO.none _ | refine LeO.ite ?_ ?_ | refine LeO.bind ?_ (fun _ => ?_)
theorem barscanref11_expand.mono : ∀ a0 k, LeO (barscanref11_expand.f k a0) (barscanref11_expand.f (k + 1) a0) := by
  intro a0 k
  have ih0 := barscanref11_expand.mono_l k
  unfold barscanref11_expand.f
  repeat' with_reducible first | exact ih0 _ _ _ | exact LeO.refl _ | exact LeO.none _ | refine LeO.ite ?_ ?_ | refine LeO.bind ?_ (fun _ => ?_)
set_option maxHeartbeats 8000000 in
set_option maxRecDepth 100000 in
theorem barscanref11_expand.calls (k : Nat) (a0 : ByteArray) (r : ByteArray) (w : World) (h : barscanref11_expand.f k a0 = some r) :
    Calls Tryz.prog 52 #[.string a0] w fun e w' => e = .returned (.string r) ∧ Drawn0 w w' := by
 have H := h
 clear h
 unfold barscanref11_expand.f at H
 replace H := ifc H
 obtain ⟨c2, H⟩ | ⟨c2, H⟩ := H
 rotate_left
 ·exact absurd H (by simp)
 have c2b0 : decide (6 < (a0.size : Int)) = true := decide_eq_true c2
 have c2b1 : decide (6 < a0.size) = true := decide_eq_true om
 clear c2
 have HC4 := Aside0.mk H
 clear H
 have p3 : 0 ≤ (6 : Int) := om
 have q3 : 6 < a0.size := (by have : (6 : Int) < (a0.size : Int) := of_decide_eq_true am; omega)
 have hx3 : ∀ h : 6 < a0.size, ((a0[6]'h).toNat : Int) = bt a0 6 := bt_at a0 6
 clear p3
 have qi3 : (6 < (a0.size : Int)) = True := eq_true (of_decide_eq_true am)
 replace q3 := eq_true q3
 go_enter Tryz.func52, Tryz.ntmps52
 go_upto_if 5 with (fail)
 repeat (go_quiet (fail); go_upto_if 5 with (fail))
 go_cut [5] (fun v5 wc => ∃ (kq : Nat) (x5_3 : Bool), v5 = .bool x5_3 ∧ Aside0 (barscanref11_expand.j0 kq a0 (bt a0 6) x5_3 = some r) ∧ Aside0 (kq ≤ k) ∧ Drawn0 w wc)
 case first =>
  have H := HC4.out
  clear HC4
  replace H := ifc H
  obtain ⟨c5, H⟩ | ⟨c5, H⟩ := H
  ·have c5b0 : ((bt a0 6) == 48) = true := beq_iff_eq.mpr c5
   have c5b1 : ((bt a0 6) != 48) = false := bne_eq_false_iff_eq.mpr c5
   clear c5
   (first | rw [c5b0] | (simp only [i64_w]; rw [c5b0]) | skip)
   have H' := Aside0.mk H
   clear H
   go_wp2
   repeat (go_quiet (fail); try go_wp2)
   go_meet
   case rel => exact ⟨_, (((bt a0 6) == 48)), rs, H', ⟨la⟩, by repeat (first | exact Drawn0.refl _ | apply Drawn0.step)⟩
  have c5b0 : ((bt a0 6) == 48) = false := beq_eq_false_iff_ne.mpr c5
  have c5b1 : ((bt a0 6) != 48) = true := bne_iff_ne.mpr c5
  (first | rw [c5b0] | (simp only [i64_w]; rw [c5b0]) | skip)
  replace H := ifc H
  obtain ⟨c6, H⟩ | ⟨c6, H⟩ := H
  rotate_left
  ·have c6b0 : ((bt a0 6) == 49) = false := beq_eq_false_iff_ne.mpr c6
   have c6b1 : ((bt a0 6) != 49) = true := bne_iff_ne.mpr c6
   have H' := Aside0.mk H
   clear H
   go_wp2
   repeat (go_quiet (fail); try go_wp2)
   go_meet
   case rel => exact ⟨_, (((bt a0 6) == 50)), rs, H', ⟨la⟩, by repeat (first | exact Drawn0.refl _ | apply Drawn0.step)⟩
  have c6b0 : ((bt a0 6) == 49) = true := beq_iff_eq.mpr c6
  have c6b1 : ((bt a0 6) != 49) = false := bne_eq_false_iff_eq.mpr c6
  clear c6
  have H' := Aside0.mk H
  clear H
  go_wp2
  repeat (go_quiet (fail); try go_wp2)
  go_meet
  case rel => exact ⟨_, (((bt a0 6) == 49)), rs, H', ⟨la⟩, by repeat (first | exact Drawn0.refl _ | apply Drawn0.step)⟩
 case rest =>
  clear HC4
  obtain ⟨kq, x5_3, rfl, HA, HJ3, ⟨mc3, rfl⟩⟩ := hcut
  cases kq with
  | zero => exact absurd HA.out (by simp [barscanref11_expand.j0])
  | succ kj3 =>
   have H := HA.out
   clear HA
   simp only [barscanref11_expand.j0] at H
   by_cases c7 : x5_3 = true
   ·subst c7
    rw [if_pos rfl] at H
    replace H := ifn H
    obtain ⟨c8, H⟩ := H
    have c8b0 := eq_true c8
    have c8b1 : decide (0 ≤ 3) = true := decide_eq_true c8
    clear c8
    by_cases c9 : 3 ≤ (a0.size : Int)
    rotate_left
    ·rw [if_neg c9] at H
     exact absurd H (by simp)
    rw [if_pos c9] at H
    have c9b0 := eq_true c9
    have c9b1 : decide (3 ≤ (a0.size : Int)) = true := decide_eq_true c9
    clear c9
    replace H := ifn H
    obtain ⟨c10, H⟩ := H
    have c10b0 := eq_true c10
    have c10b1 : decide (6 ≤ 7) = true := decide_eq_true c10
    clear c10
    by_cases c11 : 7 ≤ (a0.size : Int)
    rotate_left
    ·rw [if_neg c11] at H
     exact absurd H (by simp)
    rw [if_pos c11] at H
    have c11b0 := eq_true c11
    have c11b1 : decide (7 ≤ (a0.size : Int)) = true := decide_eq_true c11
    clear c11
    replace H := ifn H
    obtain ⟨c12, H⟩ := H
    have c12b0 := eq_true c12
    have c12b1 : decide ((a0.extract 0 3).size + (a0.extract 6 7).size ≤ 9223372036854775807) = true := decide_eq_true c12
    by_cases c13 : ((a0.extract 0 3) ++ (a0.extract 6 7)).size + 4 ≤ 9223372036854775807
    rotate_left
    ·rw [if_neg c13] at H
     exact absurd H (by simp)
    rw [if_pos c13] at H
    have c13b0 := eq_true c13
    have c13b1 : decide (((a0.extract 0 3) ++ (a0.extract 6 7)).size + 4 ≤ 9223372036854775807) = true := decide_eq_true c13
    replace H := ifn H
    obtain ⟨c14, H⟩ := H
    have c14b0 := eq_true c14
    have c14b1 : decide (3 ≤ 6) = true := decide_eq_true c14
    clear c14
    by_cases c15 : 6 ≤ (a0.size : Int)
    rotate_left
    ·rw [if_neg c15] at H
     exact absurd H (by simp)
    rw [if_pos c15] at H
    have c15b0 := eq_true c15
    have c15b1 : decide (6 ≤ (a0.size : Int)) = true := decide_eq_true c15
    clear c15
    replace H := ifn H
    obtain ⟨c16, H⟩ := H
    have c16b0 := eq_true c16
    have c16b1 : decide ((((a0.extract 0 3) ++ (a0.extract 6 7)) ++ (⟨#[48, 48, 48, 48]⟩ : ByteArray)).size + (a0.extract 3 6).size ≤ 9223372036854775807) = true := decide_eq_true c16
    obtain rfl := Option.some.inj H
    go_wp2
    repeat (go_quiet (fail); try go_wp2)
    go_ret
    exact ⟨rs, by repeat (first | exact Drawn0.refl _ | apply Drawn0.step)⟩
   replace c7 := Bool.eq_false_iff.mpr c7
   subst c7
   rw [if_neg (show ¬ (false = true) by decide)] at H
   replace H := ifc H
   obtain ⟨c17, H⟩ | ⟨c17, H⟩ := H
   ·have c17b0 : ((bt a0 6) == 51) = true := beq_iff_eq.mpr c17
    have c17b1 : ((bt a0 6) != 51) = false := bne_eq_false_iff_eq.mpr c17
    clear c17
    replace H := ifn H
    obtain ⟨c18, H⟩ := H
    have c18b0 := eq_true c18
    have c18b1 : decide (0 ≤ 4) = true := decide_eq_true c18
    clear c18
    by_cases c19 : 4 ≤ (a0.size : Int)
    rotate_left
    ·rw [if_neg c19] at H
     exact absurd H (by simp)
    rw [if_pos c19] at H
    have c19b0 := eq_true c19
    have c19b1 : decide (4 ≤ (a0.size : Int)) = true := decide_eq_true c19
    clear c19
    replace H := ifn H
    obtain ⟨c20, H⟩ := H
    have c20b0 := eq_true c20
    have c20b1 : decide ((a0.extract 0 4).size + 5 ≤ 9223372036854775807) = true := decide_eq_true c20
    by_cases c21 : 4 ≤ 6
    rotate_left
    ·rw [if_neg c21] at H
     exact absurd H (by simp)
    rw [if_pos c21] at H
    have c21b0 := eq_true c21
    have c21b1 : decide (4 ≤ 6) = true := decide_eq_true c21
    clear c21
    replace H := ifn H
    obtain ⟨c22, H⟩ := H
    have c22b0 := eq_true c22
    have c22b1 : decide (6 ≤ (a0.size : Int)) = true := decide_eq_true c22
    clear c22
    by_cases c23 : ((a0.extract 0 4) ++ (⟨#[48, 48, 48, 48, 48]⟩ : ByteArray)).size + (a0.extract 4 6).size ≤ 9223372036854775807
    rotate_left
    ·rw [if_neg c23] at H
     exact absurd H (by simp)
    rw [if_pos c23] at H
    have c23b0 := eq_true c23
    have c23b1 : decide (((a0.extract 0 4) ++ (⟨#[48, 48, 48, 48, 48]⟩ : ByteArray)).size + (a0.extract 4 6).size ≤ 9223372036854775807) = true := decide_eq_true c23
    obtain rfl := Option.some.inj H
    go_wp2
    repeat (go_quiet (fail); try go_wp2)
    go_ret
    exact ⟨rs, by repeat (first | exact Drawn0.refl _ | apply Drawn0.step)⟩
   have c17b0 : ((bt a0 6) == 51) = false := beq_eq_false_iff_ne.mpr c17
   have c17b1 : ((bt a0 6) != 51) = true := bne_iff_ne.mpr c17
   replace H := ifc H
   obtain ⟨c24, H⟩ | ⟨c24, H⟩ := H
   rotate_left
   ·have c24b0 : ((bt a0 6) == 52) = false := beq_eq_false_iff_ne.mpr c24
    have c24b1 : ((bt a0 6) != 52) = true := bne_iff_ne.mpr c24
    replace H := ifn H
    obtain ⟨c31, H⟩ := H
    have c31b0 := eq_true c31
    have c31b1 : decide (0 ≤ 6) = true := decide_eq_true c31
    clear c31
    by_cases c32 : 6 ≤ (a0.size : Int)
    rotate_left
    ·rw [if_neg c32] at H
     exact absurd H (by simp)
    rw [if_pos c32] at H
    have c32b0 := eq_true c32
    have c32b1 : decide (6 ≤ (a0.size : Int)) = true := decide_eq_true c32
    clear c32
    replace H := ifn H
    obtain ⟨c33, H⟩ := H
    have c33b0 := eq_true c33
    have c33b1 : decide ((a0.extract 0 6).size + 4 ≤ 9223372036854775807) = true := decide_eq_true c33
    by_cases c34 : 6 ≤ 7
    rotate_left
    ·rw [if_neg c34] at H
     exact absurd H (by simp)
    rw [if_pos c34] at H
    have c34b0 := eq_true c34
    have c34b1 : decide (6 ≤ 7) = true := decide_eq_true c34
    clear c34
    replace H := ifn H
    obtain ⟨c35, H⟩ := H
    have c35b0 := eq_true c35
    have c35b1 : decide (7 ≤ (a0.size : Int)) = true := decide_eq_true c35
    clear c35
    by_cases c36 : ((a0.extract 0 6) ++ (⟨#[48, 48, 48, 48]⟩ : ByteArray)).size + (a0.extract 6 7).size ≤ 9223372036854775807
    rotate_left
    ·rw [if_neg c36] at H
     exact absurd H (by simp)
    rw [if_pos c36] at H
    have c36b0 := eq_true c36
    have c36b1 : decide (((a0.extract 0 6) ++ (⟨#[48, 48, 48, 48]⟩ : ByteArray)).size + (a0.extract 6 7).size ≤ 9223372036854775807) = true := decide_eq_true c36
    obtain rfl := Option.some.inj H
    go_wp2
    repeat (go_quiet (fail); try go_wp2)
    go_ret
    exact ⟨rs, by repeat (first | exact Drawn0.refl _ | apply Drawn0.step)⟩
   have c24b0 : ((bt a0 6) == 52) = true := beq_iff_eq.mpr c24
   have c24b1 : ((bt a0 6) != 52) = false := bne_eq_false_iff_eq.mpr c24
   clear c24
   replace H := ifn H
   obtain ⟨c25, H⟩ := H
   have c25b0 := eq_true c25
   have c25b1 : decide (0 ≤ 5) = true := decide_eq_true c25
   clear c25
   by_cases c26 : 5 ≤ (a0.size : Int)
   rotate_left
   ·rw [if_neg c26] at H
    exact absurd H (by simp)
   rw [if_pos c26] at H
   have c26b0 := eq_true c26
   have c26b1 : decide (5 ≤ (a0.size : Int)) = true := decide_eq_true c26
   clear c26
   replace H := ifn H
   obtain ⟨c27, H⟩ := H
   have c27b0 := eq_true c27
   have c27b1 : decide ((a0.extract 0 5).size + 5 ≤ 9223372036854775807) = true := decide_eq_true c27
   by_cases c28 : 5 ≤ 6
   rotate_left
   ·rw [if_neg c28] at H
    exact absurd H (by simp)
   rw [if_pos c28] at H
   have c28b0 := eq_true c28
   have c28b1 : decide (5 ≤ 6) = true := decide_eq_true c28
   clear c28
   replace H := ifn H
   obtain ⟨c29, H⟩ := H
   have c29b0 := eq_true c29
   have c29b1 : decide (6 ≤ (a0.size : Int)) = true := decide_eq_true c29
   clear c29
   by_cases c30 : ((a0.extract 0 5) ++ (⟨#[48, 48, 48, 48, 48]⟩ : ByteArray)).size + (a0.extract 5 6).size ≤ 9223372036854775807
   rotate_left
   ·rw [if_neg c30] at H
    exact absurd H (by simp)
   rw [if_pos c30] at H
   have c30b0 := eq_true c30
   have c30b1 : decide (((a0.extract 0 5) ++ (⟨#[48, 48, 48, 48, 48]⟩ : ByteArray)).size + (a0.extract 5 6).size ≤ 9223372036854775807) = true := decide_eq_true c30
   obtain rfl := Option.some.inj H
   go_wp2
   repeat (go_quiet (fail); try go_wp2)
   go_ret
   exact ⟨rs, by repeat (first | exact Drawn0.refl _ | apply Drawn0.step)⟩

end Go.Proofs.YtjmeekceecpemaaGreatDoor.Q

namespace Go.Proofs.YtjmeekceecpemaaGreatDoor.Q
open Go.RowKit Go.Proofs.YtjmeekceecpemaaGreatDoorW.PrintWords Go.Proofs.YtjmeekceecpemaaGreatDoorW.PrintLast Go.Proofs.YtjmeekceecpemaaGreatDoorW.PrintMore

set_option linter.unusedVariables false
set_option linter.unusedSimpArgs false

/-! ### barscanref11_check: function 87 -/
def barscanref11_check.l0 : Nat → ByteArray → Int → Int → Int → Option (ByteArray)
  | 0, _, _, _, _ => none
  | k + 1, x0, x3, x4, x5 => if x5 ≥ 0 then (if 0 ≤ x5 then (if x5 < (x0.size : Int) then (barscanref11_check.l0 k x0 (wrap64 (x3 + (wrap64 (x4 * (((bt x0 x5) - 48) % 256))))) (wrap64 (4 - x4)) (wrap64 (x5 - 1))) else (none)) else (none)) else (some (strOfNums (([(wrap64 (48 + (Int.tmod (wrap64 (10 - (Int.tmod x3 10))) 10))) % 256] : List Int))))
def barscanref11_check.f (k : Nat) (a0 : ByteArray) : Option (ByteArray) := barscanref11_check.l0 k a0 0 3 (wrap64 ((a0.size : Int) - 1))
theorem barscanref11_check.mono_l : ∀ k, (∀ y0 y1 y2 y3, LeO (barscanref11_check.l0 k y0 y1 y2 y3) (barscanref11_check.l0 (k + 1) y0 y1 y2 y3))
  | 0 => fun _ _ _ _ r h => by simp [barscanref11_check.l0] at h
  | k + 1 => by
    have ih0 := barscanref11_check.mono_l k
    · intro y0 y1 y2 y3
      unfold barscanref11_check.l0
      repeat' with_reducible first | exact ih0 _ _ _ _ | exact LeO.refl _ | exact LeO.none _ | refine LeO.ite ?_ ?_ | refine LeO.bind ?_ (fun _ => ?_)
theorem barscanref11_check.mono : ∀ a0 k, LeO (barscanref11_check.f k a0) (barscanref11_check.f (k + 1) a0) := by
  intro a0 k
  have ih0 := barscanref11_check.mono_l k
  unfold barscanref11_check.f
  repeat' with_reducible first | exact ih0 _ _ _ _ | exact LeO.refl _ | exact LeO.none _ | refine LeO.ite ?_ ?_ | refine LeO.bind ?_ (fun _ => ?_)
set_option maxHeartbeats 8000000 in
set_option maxRecDepth 100000 in
theorem barscanref11_check.calls (k : Nat) (a0 : ByteArray) (r : ByteArray) (w : World) (h : barscanref11_check.f k a0 = some r) :
    Calls Tryz.prog 87 #[.string a0] w fun e w' => e = .returned (.string r) ∧ Below w.heap.size w w' := by
 have HB := Aside0.mk (Below.refl w.heap.size w)
 have H := h
 clear h
 unfold barscanref11_check.f at H
 have H' := Aside0.mk H
 clear H
 go_enter Tryz.func87, Tryz.ntmps87
 go_wp2
 go_loopg [3, 4, 5] k (fun kq v3 v4 v5 w' => ∃ (x3_1 : Int) (x4_1 : Int) (x5_1 : Int), v3 = .int .i64 x3_1 ∧ v4 = .int .i64 x4_1 ∧ v5 = .int .i64 x5_1 ∧ Aside0 (barscanref11_check.l0 kq a0 x3_1 x4_1 x5_1 = some r) ∧ Aside0 (kq ≤ k) ∧ Aside0 (Below w.heap.size w w'))
 case atStart => exact ⟨(0), (3), (wrap64 ((a0.size : Int) - 1)), rs, rs, rs, H', ⟨Nat.le_refl _⟩, ⟨bw⟩⟩
 case round =>
  clear H'
  obtain ⟨x3_1, x4_1, x5_1, rfl, rfl, rfl, HA, HK1, HB⟩ := hrel
  cases gk with
  | zero => exact absurd HA.out (by simp [barscanref11_check.l0])
  | succ k1 =>
   have H := HA.out
   clear HA
   simp only [barscanref11_check.l0] at H
   replace H := ifc H
   obtain ⟨c2, H⟩ | ⟨c2, H⟩ := H
   ·have c2b0 : decide (0 ≤ x5_1) = true := decide_eq_true c2
    clear c2
    replace H := ifn H
    obtain ⟨c3, H⟩ := H
    have c3b0 : decide (0 ≤ x5_1) = true := decide_eq_true c3
    clear c3
    by_cases c4 : x5_1 < (a0.size : Int)
    rotate_left
    ·rw [if_neg c4] at H
     exact absurd H (by simp)
    rw [if_pos c4] at H
    have c4b0 : decide (x5_1 < (a0.size : Int)) = true := decide_eq_true c4
    clear c4
    have H' := Aside0.mk H
    clear H
    have p5 : 0 ≤ (x5_1 : Int) := of_decide_eq_true am
    have q5 : x5_1 < (a0.size : Int) := of_decide_eq_true am
    have hx5 := bt_at a0 x5_1
    replace p5 := eq_true p5
    replace q5 := eq_true q5
    go_wp2
    go_roundg k1
    case measure => have := HK1.out; omega
    case rel => exact ⟨(wrap64 (x3_1 + (wrap64 (x4_1 * (((bt a0 x5_1) - 48) % 256))))), (wrap64 (4 - x4_1)), (wrap64 (x5_1 - 1)), rs, rs, rs, H', ⟨by have := HK1.out; omega⟩, ⟨bw⟩⟩
   have c2b0 : decide (0 ≤ x5_1) = false := decide_eq_false c2
   clear c2
   obtain ⟨y181, hy181⟩ : ∃ y_ : List Int, y_ = (([(wrap64 (48 + (Int.tmod (wrap64 (10 - (Int.tmod x3_1 10))) 10))) % 256] : List Int)) := ⟨_, rfl⟩
   replace H : (some (strOfNums y181)) = some r := by first | (rw [hy181]; with_reducible exact H) | (have H2_ := (Option.bind_some _ _).symm.trans H; rw [hy181]; with_reducible exact H2_) | (have H2_ := (Option.bind_some _ _).symm.trans H; with_reducible exact H2_) | with_reducible exact H | (rw [hy181]; exact H) | exact H
   have Ny181 := Aside0.mk hy181
   clear hy181
   obtain rfl := Option.some.inj H
   go_wp2_with (first | ((with_reducible refine gate_dst (N := 30) rfl ?_); refine Kd.R_lit (Kd.int .u8) _ 5 ?hg (N := 30) ?hd (xs := ([(wrap64 (48 + (Int.tmod (wrap64 (10 - (Int.tmod x3_1 10))) 10))) % 256] : List Int)) (inner := [.int .u8 ((wrap64 (48 + (Int.tmod (wrap64 (10 - (Int.tmod x3_1 10))) 10))) % 256)]) (ok := fun _ => True) (okp := fun _ => True) ?hr ?hp (fun _ hk => hk) trivial (Below.refl _ _) (Nat.le_refl _) (by simp) ?_; (case hd => rfl); (case hg => rfl); (case hr => first | (go_simp; done) | (go_simp; rfl)); (case hp => exact (Reps.one (show Kd.M (Kd.int .u8) _ _ _ ((wrap64 (48 + (Int.tmod (wrap64 (10 - (Int.tmod x3_1 10))) 10))) % 256) [.int .u8 ((wrap64 (48 + (Int.tmod (wrap64 (10 - (Int.tmod x3_1 10))) 10))) % 256)] from rfl) (Reps.none _ _))); intro v182 w6 ho7 hb hg_ hnew_; clear hg_ hnew_; (first | rw [← Ny181.out] at ho7 | (simp only [Int.reduceToNat] at ho7; rw [← Ny181.out] at ho7)); have n0_ := Aside0.mk (Kd.R_lower ho7 (below_size bw)); have n1_ := Aside0.mk (below_step bw hb); clear HB; have HO183 := n0_; have HB := n1_; clear n0_ n1_; clear hb ho7; have hcv8 := own_string (P := Tryz.prog) Tryz.underlying40 Tryz.underlying5 Tryz.underlying9 (Kd.own_of_R HO183.out)))
   go_ret
   exact ⟨es, bw⟩

end Go.Proofs.YtjmeekceecpemaaGreatDoor.Q

namespace Go.Proofs.YtjmeekceecpemaaGreatDoor.Q
open Go.RowKit Go.Proofs.YtjmeekceecpemaaGreatDoorW.PrintWords Go.Proofs.YtjmeekceecpemaaGreatDoorW.PrintLast Go.Proofs.YtjmeekceecpemaaGreatDoorW.PrintMore

set_option linter.unusedVariables false
set_option linter.unusedSimpArgs false

/-! ### barscanref11_checkOf: function 50 -/
def barscanref11_checkOf.f (k : Nat) (a0 : Int) (a1 : ByteArray) : Option (ByteArray) := if a0 = 4 then ((barscanref11_expand.f k a1).bind fun t184 => ((barscanref11_check.f k t184).bind fun t185 => (some t185))) else ((barscanref11_check.f k a1).bind fun t186 => (some t186))
theorem barscanref11_checkOf.mono : ∀ a0 a1 k, LeO (barscanref11_checkOf.f k a0 a1) (barscanref11_checkOf.f (k + 1) a0 a1) := by
  intro a0 a1 k
  unfold barscanref11_checkOf.f
  repeat' with_reducible first | exact barscanref11_check.mono _ _ | exact barscanref11_expand.mono _ _ | exact LeO.refl _ | exact LeO.none _ | refine LeO.ite ?_ ?_ | refine LeO.bind ?_ (fun _ => ?_)
set_option maxHeartbeats 8000000 in
set_option maxRecDepth 100000 in
theorem barscanref11_checkOf.calls (k : Nat) (a0 : Int) (a1 : ByteArray) (r : ByteArray) (w : World) (h : barscanref11_checkOf.f k a0 a1 = some r) :
    Calls Tryz.prog 50 #[.int .i64 a0, .string a1] w fun e w' => e = .returned (.string r) ∧ Below w.heap.size w w' := by
 have HB := Aside0.mk (Below.refl w.heap.size w)
 have H := h
 clear h
 unfold barscanref11_checkOf.f at H
 replace H := ifc H
 obtain ⟨c3, H⟩ | ⟨c3, H⟩ := H
 rotate_left
 ·have c3b0 : (a0 == 4) = false := beq_eq_false_iff_ne.mpr c3
  have c3b1 : (a0 != 4) = true := bne_iff_ne.mpr c3
  replace H := bd H
  obtain ⟨t186, A7, H⟩ := H
  obtain rfl := Option.some.inj H
  go_enter Tryz.func50, Tryz.ntmps50
  go_wp2_with (first | ((with_reducible refine gate_callee (f := 87) rfl ?_); refine goesL_ (some 11) rfl rfl Tryz.func87 kr rfl #[.string a1] rfl ar ?_; (with_reducible refine (barscanref11_check.calls k a1 t186 _ A7.out).mono ?_); rintro e w8 ⟨rfl, hb⟩; refine ⟨_, rfl, ?_⟩; replace HB := Aside0.mk (below_step bw hb); clear hb))
  go_ret
  exact ⟨es, bw⟩
 have c3b0 : (a0 == 4) = true := beq_iff_eq.mpr c3
 have c3b1 : (a0 != 4) = false := bne_eq_false_iff_eq.mpr c3
 clear c3
 replace H := bd H
 obtain ⟨t184, A4, H⟩ := H
 replace H := bd H
 obtain ⟨t185, A5, H⟩ := H
 obtain rfl := Option.some.inj H
 go_enter Tryz.func50, Tryz.ntmps50
 go_wp2_with (first | ((with_reducible refine gate_callee (f := 52) rfl ?_); refine goesL_ (some 8) rfl rfl Tryz.func52 kr rfl #[.string a1] rfl ar ?_; (with_reducible refine (barscanref11_expand.calls k a1 t184 _ A4.out).mono ?_); rintro e w' ⟨rfl, ⟨nd, rfl⟩⟩; refine ⟨_, rfl, ?_⟩) | ((with_reducible refine gate_callee (f := 87) rfl ?_); refine goesL_ (some 9) rfl rfl Tryz.func87 kr rfl #[.string t184] rfl ar ?_; (with_reducible refine (barscanref11_check.calls k t184 t185 _ A5.out).mono ?_); rintro e w6 ⟨rfl, hb⟩; refine ⟨_, rfl, ?_⟩; replace HB := Aside0.mk (below_step bw hb); clear hb))
 go_ret
 exact ⟨es, bw⟩

end Go.Proofs.YtjmeekceecpemaaGreatDoor.Q

namespace Go.Proofs.YtjmeekceecpemaaGreatDoor.Q
open Go.RowKit Go.Proofs.YtjmeekceecpemaaGreatDoorW.PrintWords Go.Proofs.YtjmeekceecpemaaGreatDoorW.PrintLast Go.Proofs.YtjmeekceecpemaaGreatDoorW.PrintMore

set_option linter.unusedVariables false
set_option linter.unusedSimpArgs false

/-! ### barscanref11_Complete: function 18 -/
mutual
def barscanref11_Complete.j0 : Nat → Int → ByteArray → Int → Bool → Option (ByteArray × Int)
  | 0, _, _, _, _ => none
  | k + 1, x0, x1, x6, x25 => if x25 = true then (some ((⟨#[]⟩ : ByteArray), 7)) else (if x0 = 4 then (if 0 < (x1.size : Int) then (barscanref11_Complete.j1 k x0 x1 x6 (decide ((bt x1 0) > 49))) else (none)) else (barscanref11_Complete.j1 k x0 x1 x6 false))
def barscanref11_Complete.j1 : Nat → Int → ByteArray → Int → Bool → Option (ByteArray × Int)
  | 0, _, _, _, _ => none
  | k + 1, x0, x1, x6, x32 => if x32 = true then (some ((⟨#[]⟩ : ByteArray), 9)) else (if 0 ≤ (wrap64 (x6 - 1)) then (if (wrap64 (x6 - 1)) ≤ (x1.size : Int) then ((barscanref11_checkOf.f k x0 (x1.extract 0 ((wrap64 (x6 - 1)) : Int).toNat)).bind fun t189 => (if (x1.extract 0 ((wrap64 (x6 - 1)) : Int).toNat).size + t189.size ≤ 9223372036854775807 then (if (x1.size : Int) = x6 then (if x1.toList = ((x1.extract 0 ((wrap64 (x6 - 1)) : Int).toNat) ++ t189).toList then (some ((x1.extract 0 ((wrap64 (x6 - 1)) : Int).toNat) ++ t189, 0)) else (some ((⟨#[]⟩ : ByteArray), 8))) else (some ((x1.extract 0 ((wrap64 (x6 - 1)) : Int).toNat) ++ t189, 0))) else (none))) else (none)) else (none))
end
def barscanref11_Complete.f (k : Nat) (a0 : Int) (a1 : ByteArray) : Option (ByteArray × Int) := (barscanref11_length.f k a0).bind fun t187 => (if t187 = 0 then (some ((⟨#[]⟩ : ByteArray), 1)) else ((barscanref11_digits.f k a1).bind fun t188 => (if t188 = true then (if (a1.size : Int) = t187 then (barscanref11_Complete.j0 k a0 a1 t187 false) else (barscanref11_Complete.j0 k a0 a1 t187 ((a1.size : Int) != (wrap64 (t187 - 1))))) else (some ((⟨#[]⟩ : ByteArray), 6)))))
theorem barscanref11_Complete.mono_l : ∀ k, (∀ y0 y1 y2 y3, LeO (barscanref11_Complete.j0 k y0 y1 y2 y3) (barscanref11_Complete.j0 (k + 1) y0 y1 y2 y3)) ∧ (∀ y0 y1 y2 y3, LeO (barscanref11_Complete.j1 k y0 y1 y2 y3) (barscanref11_Complete.j1 (k + 1) y0 y1 y2 y3))
  | 0 => ⟨fun _ _ _ _ r h => by simp [barscanref11_Complete.j0] at h, fun _ _ _ _ r h => by simp [barscanref11_Complete.j1] at h⟩
  | k + 1 => by
    obtain ⟨ih0, ih1⟩ := barscanref11_Complete.mono_l k
    refine ⟨?_, ?_⟩
    · intro y0 y1 y2 y3
      unfold barscanref11_Complete.j0
      repeat' with_reducible first | exact ih0 _ _ _ _ | exact ih1 _ _ _ _ | exact barscanref11_checkOf.mono _ _ _ | exact barscanref11_digits.mono _ _ | exact barscanref11_length.mono _ _ | exact LeO.refl _ | exact LeO.none _ | refine LeO.ite ?_ ?_ | refine LeO.bind ?_ (fun _ => ?_)
    · intro y0 y1 y2 y3
      unfold barscanref11_Complete.j1
      repeat' with_reducible first | exact ih0 _ _ _ _ | exact ih1 _ _ _ _ | exact barscanref11_checkOf.mono _ _ _ | exact barscanref11_digits.mono _ _ | exact barscanref11_length.mono _ _ | exact LeO.refl _ | exact LeO.none _ | refine LeO.ite ?_ ?_ | refine LeO.bind ?_ (fun _ => ?_)
theorem barscanref11_Complete.mono : ∀ a0 a1 k, LeO (barscanref11_Complete.f k a0 a1) (barscanref11_Complete.f (k + 1) a0 a1) := by
  intro a0 a1 k
  obtain ⟨ih0, ih1⟩ := barscanref11_Complete.mono_l k
  unfold barscanref11_Complete.f
  repeat' with_reducible first | exact ih0 _ _ _ _ | exact ih1 _ _ _ _ | exact barscanref11_checkOf.mono _ _ _ | exact barscanref11_digits.mono _ _ | exact barscanref11_length.mono _ _ | exact LeO.refl _ | exact LeO.none _ | refine LeO.ite ?_ ?_ | refine LeO.bind ?_ (fun _ => ?_)
def barscanref11_Complete.T10 : Bool × List (List Nat × List Nat) := (true, [([], []), ([], []), ([1], [1]), ([0, 2], [0, 2]), ([], []), ([], []), ([], []), ([6], [6]), ([5, 7], [5, 7]), ([4, 8], [4, 8]), ([3, 9], [3, 9]), ([10, 9, 0, 1, 2, 3, 4, 5, 6, 7, 8, 9, 10], [10])])
def barscanref11_Complete.B10 : List Nat := [0, 0, 2, 7, 0, 0, 0, 64, 224, 496, 1023, 2047]
theorem barscanref11_Complete.tab10 : rtab .any (opsOf Tryz.f18 10) = barscanref11_Complete.T10 := kr
theorem barscanref11_Complete.bits10 : waitsOk barscanref11_Complete.T10.2 barscanref11_Complete.B10 = true := kr
set_option maxHeartbeats 8000000 in
set_option maxRecDepth 100000 in
theorem barscanref11_Complete.calls (k : Nat) (a0 : Int) (a1 : ByteArray) (r1 : ByteArray) (r2 : Int) (w : World) (h : barscanref11_Complete.f k a0 a1 = some (r1, r2)) :
    Calls Tryz.prog 18 #[.int .i64 a0, .string a1] w fun e w' => e = .returned (.tuple #[.string r1, .int .i64 r2]) ∧ Below w.heap.size w w' := by
 have HB := Aside0.mk (Below.refl w.heap.size w)
 have H := h
 clear h
 unfold barscanref11_Complete.f at H
 replace H := bd H
 obtain ⟨t187, A3, H⟩ := H
 replace H := ifc H
 obtain ⟨c4, H⟩ | ⟨c4, H⟩ := H
 ·have c4b0 : (t187 == 0) = true := beq_iff_eq.mpr c4
  have c4b1 : (t187 != 0) = false := bne_eq_false_iff_eq.mpr c4
  clear c4
  simp only [Option.some.injEq, Prod.mk.injEq] at H
  obtain ⟨rfl, rfl⟩ := H
  go_enter Tryz.func18, Tryz.ntmps18
  go_wp2_with (first | ((with_reducible refine gate_callee (f := 49) rfl ?_); refine goesL_ (some 9) rfl rfl Tryz.func49 kr rfl #[.int .i64 a0] rfl ar ?_; (with_reducible refine (barscanref11_length.calls k a0 t187 _ A3.out).mono ?_); rintro e w' ⟨rfl, ⟨nd, rfl⟩⟩; refine ⟨_, rfl, ?_⟩))
  go_ret2
  exact ⟨es, bw⟩
 have c4b0 : (t187 == 0) = false := beq_eq_false_iff_ne.mpr c4
 have c4b1 : (t187 != 0) = true := bne_iff_ne.mpr c4
 replace H := bd H
 obtain ⟨t188, A5, H⟩ := H
 by_cases c6 : t188 = true
 rotate_left
 ·replace c6 := Bool.eq_false_iff.mpr c6
  subst c6
  rw [if_neg (show ¬ (false = true) by decide)] at H
  simp only [Option.some.injEq, Prod.mk.injEq] at H
  obtain ⟨rfl, rfl⟩ := H
  go_enter Tryz.func18, Tryz.ntmps18
  go_wp2_with (first | ((with_reducible refine gate_callee (f := 49) rfl ?_); refine goesL_ (some 9) rfl rfl Tryz.func49 kr rfl #[.int .i64 a0] rfl ar ?_; (with_reducible refine (barscanref11_length.calls k a0 t187 _ A3.out).mono ?_); rintro e w' ⟨rfl, ⟨nd, rfl⟩⟩; refine ⟨_, rfl, ?_⟩) | ((with_reducible refine gate_callee (f := 35) rfl ?_); refine goesL_ (some 13) rfl rfl Tryz.func35 kr rfl #[.string a1] rfl ar ?_; (with_reducible refine (barscanref11_digits.calls k a1 false _ A5.out).mono ?_); rintro e w' ⟨rfl, ⟨nd, rfl⟩⟩; refine ⟨_, rfl, ?_⟩))
  go_ret2
  exact ⟨es, bw⟩
 subst c6
 rw [if_pos rfl] at H
 have HC7 := Aside0.mk H
 clear H
 go_enter Tryz.func18, Tryz.ntmps18
 go_upto_region 6 with (first | ((with_reducible refine gate_callee (f := 49) rfl ?_); refine goesL_ (some 9) rfl rfl Tryz.func49 kr rfl #[.int .i64 a0] rfl ar ?_; (with_reducible refine (barscanref11_length.calls k a0 t187 _ A3.out).mono ?_); rintro e w' ⟨rfl, ⟨nd, rfl⟩⟩; refine ⟨_, rfl, ?_⟩) | ((with_reducible refine gate_callee (f := 35) rfl ?_); refine goesL_ (some 13) rfl rfl Tryz.func35 kr rfl #[.string a1] rfl ar ?_; (with_reducible refine (barscanref11_digits.calls k a1 true _ A5.out).mono ?_); rintro e w' ⟨rfl, ⟨nd, rfl⟩⟩; refine ⟨_, rfl, ?_⟩))
 (try simp only [Act.put, List.setIfInBounds_toArray, List.set_cons_zero, List.set_cons_succ])
 go_cut [25] (fun v25 wc => ∃ (kq : Nat) (x25_6 : Bool), v25 = .bool x25_6 ∧ Aside0 (barscanref11_Complete.j0 kq a0 a1 t187 x25_6 = some (r1, r2)) ∧ Aside0 (kq ≤ k) ∧ Aside0 (Below w.heap.size w wc))
 case first =>
  have H := HC7.out
  clear HC7
  replace H := ifc H
  obtain ⟨c8, H⟩ | ⟨c8, H⟩ := H
  ·have c8b0 : ((a1.size : Int) == t187) = true := beq_iff_eq.mpr c8
   have c8b1 : ((a1.size : Int) != t187) = false := bne_eq_false_iff_eq.mpr c8
   clear c8
   (first | rw [c8b0] | (simp only [i64_w]; rw [c8b0]) | skip)
   have H' := Aside0.mk H
   clear H
   go_wp2
   go_meet
   case rel => exact ⟨_, (false), rs, H', ⟨la⟩, ⟨bw⟩⟩
  have c8b0 : ((a1.size : Int) == t187) = false := beq_eq_false_iff_ne.mpr c8
  have c8b1 : ((a1.size : Int) != t187) = true := bne_iff_ne.mpr c8
  (first | rw [c8b0] | (simp only [i64_w]; rw [c8b0]) | skip)
  have H' := Aside0.mk H
  clear H
  go_wp2
  go_meet
  case rel => exact ⟨_, (((a1.size : Int) != (wrap64 (t187 - 1)))), rs, H', ⟨la⟩, ⟨bw⟩⟩
 case rest =>
  clear HC7
  obtain ⟨kq, x25_6, rfl, HA, HJ6, HB⟩ := hcut
  cases kq with
  | zero => exact absurd HA.out (by simp [barscanref11_Complete.j0])
  | succ kj6 =>
   have H := HA.out
   clear HA
   simp only [barscanref11_Complete.j0] at H
   by_cases c9 : x25_6 = true
   ·subst c9
    rw [if_pos rfl] at H
    simp only [Option.some.injEq, Prod.mk.injEq] at H
    obtain ⟨rfl, rfl⟩ := H
    go_wp2
    go_ret2
    exact ⟨es, bw⟩
   replace c9 := Bool.eq_false_iff.mpr c9
   subst c9
   rw [if_neg (show ¬ (false = true) by decide)] at H
   have HC10 := Aside0.mk H
   clear H
   go_upto_region 8 with (fail)
   go_cut [32] (fun v32 wc => ∃ (kq : Nat) (x32_9 : Bool), v32 = .bool x32_9 ∧ Aside0 (barscanref11_Complete.j1 kq a0 a1 t187 x32_9 = some (r1, r2)) ∧ Aside0 (kq ≤ kj6) ∧ Aside0 (Below w.heap.size w wc))
   case first =>
    have H := HC10.out
    clear HC10
    replace H := ifc H
    obtain ⟨c11, H⟩ | ⟨c11, H⟩ := H
    rotate_left
    ·have c11b0 : (a0 == 4) = false := beq_eq_false_iff_ne.mpr c11
     have c11b1 : (a0 != 4) = true := bne_iff_ne.mpr c11
     (first | rw [c11b0] | (simp only [i64_w]; rw [c11b0]) | skip)
     have H' := Aside0.mk H
     clear H
     go_wp2
     go_meet
     case rel => exact ⟨_, (false), rs, H', ⟨by have := HJ6.out; first | omega | exact Nat.le_refl _⟩, ⟨bw⟩⟩
    have c11b0 : (a0 == 4) = true := beq_iff_eq.mpr c11
    have c11b1 : (a0 != 4) = false := bne_eq_false_iff_eq.mpr c11
    clear c11
    (first | rw [c11b0] | (simp only [i64_w]; rw [c11b0]) | skip)
    replace H := ifn H
    obtain ⟨c12, H⟩ := H
    have c12b0 : decide (0 < (a1.size : Int)) = true := decide_eq_true c12
    have c12b1 : decide (0 < a1.size) = true := decide_eq_true om
    clear c12
    have H' := Aside0.mk H
    clear H
    have p13 : 0 ≤ (0 : Int) := om
    have q13 : 0 < a1.size := (by have : (0 : Int) < (a1.size : Int) := of_decide_eq_true am; omega)
    have hx13 : ∀ h : 0 < a1.size, ((a1[0]'h).toNat : Int) = bt a1 0 := bt_at a1 0
    clear p13
    have qi13 : (0 < (a1.size : Int)) = True := eq_true (of_decide_eq_true am)
    replace q13 := eq_true q13
    go_wp2
    go_meet
    case rel => exact ⟨_, (decide ((bt a1 0) > 49)), rs, H', ⟨by have := HJ6.out; first | omega | exact Nat.le_refl _⟩, ⟨bw⟩⟩
   case rest =>
    clear HC10
    obtain ⟨kq, x32_9, rfl, HA, HJ9, HB⟩ := hcut
    cases kq with
    | zero => exact absurd HA.out (by simp [barscanref11_Complete.j1])
    | succ kj9 =>
     have H := HA.out
     clear HA
     simp only [barscanref11_Complete.j1] at H
     by_cases c14 : x32_9 = true
     ·subst c14
      rw [if_pos rfl] at H
      simp only [Option.some.injEq, Prod.mk.injEq] at H
      obtain ⟨rfl, rfl⟩ := H
      go_wp2
      go_ret2
      exact ⟨es, bw⟩
     replace c14 := Bool.eq_false_iff.mpr c14
     subst c14
     rw [if_neg (show ¬ (false = true) by decide)] at H
     obtain ⟨ji15, hji15⟩ : ∃ j_ : Int, (wrap64 (t187 - 1)) = j_ := ⟨_, rfl⟩
     replace H : (if 0 ≤ (ji15) then (if (ji15) ≤ (a1.size : Int) then ((barscanref11_checkOf.f kj9 a0 (a1.extract 0 ((ji15) : Int).toNat)).bind fun t189 => (if (a1.extract 0 ((ji15) : Int).toNat).size + t189.size ≤ 9223372036854775807 then (if (a1.size : Int) = t187 then (if a1.toList = ((a1.extract 0 ((ji15) : Int).toNat) ++ t189).toList then (some ((a1.extract 0 ((ji15) : Int).toNat) ++ t189, 0)) else (some ((⟨#[]⟩ : ByteArray), 8))) else (some ((a1.extract 0 ((ji15) : Int).toNat) ++ t189, 0))) else (none))) else (none)) else (none)) = some (r1, r2) := by first | (rw [hji15] at H; exact H) | (simp only [hji15] at H ⊢; exact H)
     have hji15w : (IntKind.i64.wrap (t187 - 1)) = ji15 := (i64_w _).trans hji15
     replace H := ifn H
     obtain ⟨c16, H⟩ := H
     have c16b0 := eq_true c16
     have c16b1 : decide (0 ≤ (ji15)) = true := decide_eq_true c16
     clear c16
     by_cases c17 : (ji15) ≤ (a1.size : Int)
     rotate_left
     ·rw [if_neg c17] at H
      exact absurd H (by simp)
     rw [if_pos c17] at H
     have c17b0 := eq_true c17
     have c17b1 : decide ((ji15) ≤ (a1.size : Int)) = true := decide_eq_true c17
     clear c17
     have c18b0 := eq_true (of_decide_eq_true am : 0 ≤ (ji15))
     have c19b0 := eq_true (of_decide_eq_true am : (ji15) ≤ (a1.size : Int))
     replace H := bd H
     obtain ⟨t189, A20, H⟩ := H
     replace H := ifn H
     obtain ⟨c21, H⟩ := H
     have c21b0 := eq_true c21
     have c21b1 : decide ((a1.extract 0 ((ji15) : Int).toNat).size + t189.size ≤ 9223372036854775807) = true := decide_eq_true c21
     have c21z : (9223372036854775807 < ji15.toNat + t189.size) = False := eq_false (by have h1_ := of_decide_eq_true c21b1; have h2_ : ji15 ≤ (a1.size : Int) := of_decide_eq_true am; rw [ByteArray.size_extract] at h1_; omega)
     by_cases c22 : (a1.size : Int) = t187
     rotate_left
     ·rw [if_neg c22] at H
      have c22b0 : ((a1.size : Int) == t187) = false := beq_eq_false_iff_ne.mpr c22
      have c22b1 : ((a1.size : Int) != t187) = true := bne_iff_ne.mpr c22
      simp only [Option.some.injEq, Prod.mk.injEq] at H
      obtain ⟨rfl, rfl⟩ := H
      try go_wp2
      have n0_ := Aside0.mk (below_drew1 HB.out)
      clear HB
      have HB := n0_
      clear n0_
      refine start_ (n := 12) (S := fun w' => True) (ds := []) #[false, false, false, false, false, false, false, false, false, false, false, false] kr rfl rfl trivial (fun hHeld => ?_); refine with_tabW barscanref11_Complete.tab10 barscanref11_Complete.bits10 (fun HT_ HW_ => ?_)
      generalize wc.drew = w28 at HB hHeld ⊢
      refine pu HT_ 0 33 (h := ?_)
      refine pu HT_ 1 34 (h := ?_)
      refine pu HT_ 2 35 (h := ?_)
      refine pu HT_ 3 36 (h := ?_)
      refine pu HT_ 4 37 (h := ?_)
      refine pu HT_ 5 38 (h := ?_)
      refine pu HT_ 6 39 (h := ?_)
      refine pu HT_ 7 40 (h := ?_)
      refine pu HT_ 8 41 (h := ?_)
      refine on HT_ 9 42 (h := fun K hK => ?_)
      refine goes_ Tryz.func50 kr rfl #[.int .i64 a0, .string (a1.extract 0 ((ji15) : Int).toNat)] (by rfl) rfl rfl (by (try simp only [List.map_toArray, List.map_cons, List.map_nil]); first | done | (simp only [hji15]; rfl) | rfl | (simp only [List.length_drop, List.length_take]; rfl)) ?_
      with_reducible refine (barscanref11_checkOf.calls kj9 a0 (a1.extract 0 ((ji15) : Int).toNat) t189 _ A20.out).mono ?_
      rintro e w29 ⟨rfl, hb⟩
      refine ⟨_, rfl, ?_⟩
      have n0_ := Aside0.mk (below_step bw hb)
      clear HB
      have HB := n0_
      clear n0_
      refine hK.out _ _ trivial (fun hHeld => ?_)
      clear hK K
      refine nm (h := ?_)
      refine pu HT_ 10 43 (h := ?_)
      refine pu HT_ 11 7 (h := ?_)
      refine done_ (done_of HT_.out kr) ?_
      try go_wp2
      go_ret2
      exact ⟨by first | rfl | (simp [errW_none, errW_some] <;> rfl) | (simp only [← hji15]; first | rfl | (simp [errW_none, errW_some] <;> rfl)) | (simp [*, errW_none, errW_some] <;> rfl), bw⟩
     rw [if_pos c22] at H
     have c22b0 : ((a1.size : Int) == t187) = true := beq_iff_eq.mpr c22
     have c22b1 : ((a1.size : Int) != t187) = false := bne_eq_false_iff_eq.mpr c22
     clear c22
     replace H := ifc H
     obtain ⟨c23, H⟩ | ⟨c23, H⟩ := H
     rotate_left
     ·have c23b0 : (a1.toList == ((a1.extract 0 ((ji15) : Int).toNat) ++ t189).toList) = false := beq_eq_false_iff_ne.mpr c23
      have c23b1 : (a1.toList != ((a1.extract 0 ((ji15) : Int).toNat) ++ t189).toList) = true := bne_iff_ne.mpr c23
      simp only [Option.some.injEq, Prod.mk.injEq] at H
      obtain ⟨rfl, rfl⟩ := H
      try go_wp2
      have n0_ := Aside0.mk (below_drew1 HB.out)
      clear HB
      have HB := n0_
      clear n0_
      refine start_ (n := 12) (S := fun w' => True) (ds := []) #[false, false, false, false, false, false, false, false, false, false, false, false] kr rfl rfl trivial (fun hHeld => ?_); refine with_tabW barscanref11_Complete.tab10 barscanref11_Complete.bits10 (fun HT_ HW_ => ?_)
      generalize wc.drew = w26 at HB hHeld ⊢
      refine pu HT_ 0 33 (h := ?_)
      refine pu HT_ 1 34 (h := ?_)
      refine pu HT_ 2 35 (h := ?_)
      refine pu HT_ 3 36 (h := ?_)
      refine pu HT_ 4 37 (h := ?_)
      refine pu HT_ 5 38 (h := ?_)
      refine pu HT_ 6 39 (h := ?_)
      refine pu HT_ 7 40 (h := ?_)
      refine pu HT_ 8 41 (h := ?_)
      refine on HT_ 9 42 (h := fun K hK => ?_)
      refine goes_ Tryz.func50 kr rfl #[.int .i64 a0, .string (a1.extract 0 ((ji15) : Int).toNat)] (by rfl) rfl rfl (by (try simp only [List.map_toArray, List.map_cons, List.map_nil]); first | done | (simp only [hji15]; rfl) | rfl | (simp only [List.length_drop, List.length_take]; rfl)) ?_
      with_reducible refine (barscanref11_checkOf.calls kj9 a0 (a1.extract 0 ((ji15) : Int).toNat) t189 _ A20.out).mono ?_
      rintro e w27 ⟨rfl, hb⟩
      refine ⟨_, rfl, ?_⟩
      have n0_ := Aside0.mk (below_step bw hb)
      clear HB
      have HB := n0_
      clear n0_
      refine hK.out _ _ trivial (fun hHeld => ?_)
      clear hK K
      refine nm (h := ?_)
      refine pu HT_ 10 43 (h := ?_)
      refine pu HT_ 11 7 (h := ?_)
      refine done_ (done_of HT_.out kr) ?_
      try go_wp2
      go_ret2
      exact ⟨by first | rfl | (simp [errW_none, errW_some] <;> rfl) | (simp only [← hji15]; first | rfl | (simp [errW_none, errW_some] <;> rfl)) | (simp [*, errW_none, errW_some] <;> rfl), bw⟩
     have c23b0 : (a1.toList == ((a1.extract 0 ((ji15) : Int).toNat) ++ t189).toList) = true := beq_iff_eq.mpr c23
     have c23b1 : (a1.toList != ((a1.extract 0 ((ji15) : Int).toNat) ++ t189).toList) = false := bne_eq_false_iff_eq.mpr c23
     clear c23
     simp only [Option.some.injEq, Prod.mk.injEq] at H
     obtain ⟨rfl, rfl⟩ := H
     try go_wp2
     have n0_ := Aside0.mk (below_drew1 HB.out)
     clear HB
     have HB := n0_
     clear n0_
     refine start_ (n := 12) (S := fun w' => True) (ds := []) #[false, false, false, false, false, false, false, false, false, false, false, false] kr rfl rfl trivial (fun hHeld => ?_); refine with_tabW barscanref11_Complete.tab10 barscanref11_Complete.bits10 (fun HT_ HW_ => ?_)
     generalize wc.drew = w24 at HB hHeld ⊢
     refine pu HT_ 0 33 (h := ?_)
     refine pu HT_ 1 34 (h := ?_)
     refine pu HT_ 2 35 (h := ?_)
     refine pu HT_ 3 36 (h := ?_)
     refine pu HT_ 4 37 (h := ?_)
     refine pu HT_ 5 38 (h := ?_)
     refine pu HT_ 6 39 (h := ?_)
     refine pu HT_ 7 40 (h := ?_)
     refine pu HT_ 8 41 (h := ?_)
     refine on HT_ 9 42 (h := fun K hK => ?_)
     refine goes_ Tryz.func50 kr rfl #[.int .i64 a0, .string (a1.extract 0 ((ji15) : Int).toNat)] (by rfl) rfl rfl (by (try simp only [List.map_toArray, List.map_cons, List.map_nil]); first | done | (simp only [hji15]; rfl) | rfl | (simp only [List.length_drop, List.length_take]; rfl)) ?_
     with_reducible refine (barscanref11_checkOf.calls kj9 a0 (a1.extract 0 ((ji15) : Int).toNat) t189 _ A20.out).mono ?_
     rintro e w25 ⟨rfl, hb⟩
     refine ⟨_, rfl, ?_⟩
     have n0_ := Aside0.mk (below_step bw hb)
     clear HB
     have HB := n0_
     clear n0_
     refine hK.out _ _ trivial (fun hHeld => ?_)
     clear hK K
     refine nm (h := ?_)
     refine pu HT_ 10 43 (h := ?_)
     refine pu HT_ 11 7 (h := ?_)
     refine done_ (done_of HT_.out kr) ?_
     try go_wp2
     go_ret2
     exact ⟨by first | rfl | (simp [errW_none, errW_some] <;> rfl) | (simp only [← hji15]; first | rfl | (simp [errW_none, errW_some] <;> rfl)) | (simp [*, errW_none, errW_some] <;> rfl), bw⟩

end Go.Proofs.YtjmeekceecpemaaGreatDoor.Q

/- Lengths, digits, check digits, expanded texts: what both sides answer. -/
namespace Go.Proofs.YtjmeekceecpemaaGreatDoor.Q
open Go.RowKit Go.Proofs.YtjmeekceecpemaaGreatDoorW.PrintWords Go.Proofs.YtjmeekceecpemaaGreatDoorW.PrintLast Go.Proofs.YtjmeekceecpemaaGreatDoorW.PrintMore
set_option linter.unusedVariables false
set_option linter.unusedSimpArgs false
/-! ### From some number of rounds on -/
def Ev {α : Type} (F : Nat → Option α) (r : α) : Prop := ∃ K, ∀ k, K ≤ k → F k = some r
section
variable {α β : Type} {F G : Nat → Option α} {r : α} {a : β} {c : Prop} [Decidable c]
theorem Ev.const {o : Option α} (h : o = some r) : Ev (fun _ => o) r := ⟨0, fun _ _ => h⟩
theorem Ev.bind {F : Nat → Option β} {G : β → Nat → Option α} (h : Ev F a) (g : Ev (G a) r) : Ev (fun k => (F k).bind fun x => G x k) r := by
  obtain ⟨K1, h1⟩ := h
  obtain ⟨K2, h2⟩ := g
  refine ⟨max K1 K2, fun k hk => ?_⟩
  show (F k).bind (fun x => G x k) = some r
  rw [h1 k (by omega)]
  exact h2 k (by omega)
theorem Ev.succ (h : Ev (fun k => F (k + 1)) r) : Ev F r := by
  obtain ⟨K, h⟩ := h
  refine ⟨K + 1, fun k hk => ?_⟩
  obtain ⟨j, rfl⟩ : ∃ j, k = j + 1 := ⟨k - 1, by omega⟩
  exact h j (by omega)
theorem Ev.pos (hc : c) (h : Ev F r) : Ev (fun k => if c then F k else G k) r := by
  simpa [hc] using h
theorem Ev.neg (hc : ¬ c) (h : Ev G r) : Ev (fun k => if c then F k else G k) r := by
  simpa [hc] using h
theorem Ev.congr (h : Ev F r) (e : ∀ k, G k = F k) : Ev G r := by
  obtain ⟨K, h⟩ := h
  exact ⟨K, fun k hk => (e k).trans (h k hk)⟩
theorem Ev.of (K : Nat) (h : ∀ k, K ≤ k → F k = some r) : Ev F r := ⟨K, h⟩
theorem Ev.get (h : Ev F r) : ∃ k, F k = some r := by
  obtain ⟨K, h⟩ := h
  exact ⟨K, h K (Nat.le_refl _)⟩
end
theorem all_not_digits (l : List UInt8) (h : ∀ x ∈ l, isDig x = true) : l.dropWhile ((bs digitsS).contains ·) = [] := by
  induction l with
  | nil => rfl
  | cons a l ih =>
    have ha : (bs digitsS).contains a = true := by have := mem_digits a; rw [h a (by simp)] at this; simpa using this
    rw [List.dropWhile_cons_of_pos ha]
    exact ih fun x hx => h x (by simp [hx])
theorem not_digit (x : UInt8) (hd : isDig x = false) : (bs digitsS).contains x = false := by
  have := mem_digits x; rw [hd] at this; simpa using this
theorem mem_drop (x : UInt8) (hd : isDig x = false) (l : List UInt8) (h : x ∈ l) : x ∈ l.dropWhile ((bs digitsS).contains ·) := by
  induction l with
  | nil => exact h
  | cons a l ih =>
    by_cases ha : (bs digitsS).contains a = true
    · rw [List.dropWhile_cons_of_pos ha]
      rcases List.mem_cons.1 h with rfl | h
      · rw [not_digit _ hd] at ha; cases ha
      · exact ih h
    · rw [List.dropWhile_cons_of_neg (by simpa using ha)]; exact h
theorem trim_empty (l : List UInt8) : (Lib.trimS l (bs digitsS)).isEmpty = l.all isDig := by
  unfold Lib.trimS Lib.trimLeftS Lib.trimRightS
  rcases h : l.all isDig with _ | _
  · rw [List.all_eq_false] at h
    obtain ⟨x, hx, hd⟩ := h
    have hd : isDig x = false := by simpa using hd
    rw [List.isEmpty_eq_false_iff]
    exact List.ne_nil_of_mem (mem_drop x hd _ (List.mem_reverse.2 (mem_drop x hd _ (List.mem_reverse.2 hx))))
  · rw [List.all_eq_true] at h
    rw [List.isEmpty_iff]
    have : (l.reverse.dropWhile ((bs digitsS).contains ·)) = [] := all_not_digits _ fun x hx => h x (List.mem_reverse.1 hx)
    rw [this]; rfl

def lenS (a : Int) : Int := if a = 1 then 13 else if a = 2 ∨ a = 4 then 8 else if a = 3 then 12 else 0
theorem glen (a : Int) (k : Nat) : ean_length.f (k + 1) a = some (lenS a) := by
  unfold ean_length.f lenS
  simp only [ean_length.j0]
  by_cases h1 : a = 1
  · rw [if_pos h1, if_pos h1]
  rw [if_neg h1, if_neg h1]
  by_cases h2 : a = 2
  · rw [if_pos h2, if_pos (Or.inl h2), if_pos (beq_iff_eq.2 h2)]
  rw [if_neg h2]
  by_cases h4 : a = 4
  · rw [if_pos (beq_iff_eq.2 h4), if_pos (Or.inr h4)]
  rw [if_neg (show ¬ (a == 4) = true by simpa using h4)]
  have h5 : ¬ (a = 2 ∨ a = 4) := fun h => h.elim h2 h4
  by_cases h3 : a = 3
  · rw [if_pos h3, if_neg h5, if_pos h3]
  · rw [if_neg h3, if_neg h5, if_neg h3]
theorem rlen (a : Int) (k : Nat) : barscanref11_length.f (k + 1) a = some (lenS a) := by
  unfold barscanref11_length.f lenS
  simp only [barscanref11_length.j0]
  by_cases h1 : a = 1
  · rw [if_pos h1, if_pos h1]
  rw [if_neg h1, if_neg h1]
  by_cases h2 : a = 2
  · rw [if_pos h2, if_pos (Or.inl h2), if_pos (beq_iff_eq.2 h2)]
  rw [if_neg h2]
  by_cases h4 : a = 4
  · rw [if_pos (beq_iff_eq.2 h4), if_pos (Or.inr h4)]
  rw [if_neg (show ¬ (a == 4) = true by simpa using h4)]
  have h5 : ¬ (a = 2 ∨ a = 4) := fun h => h.elim h2 h4
  by_cases h3 : a = 3
  · rw [if_pos h3, if_neg h5, if_pos h3]
  · rw [if_neg h3, if_neg h5, if_neg h3]
theorem gdig (s : ByteArray) (hs : s.size ≤ 9223372036854775807) : ean_digits.f s = some (allDig s) := by
  unfold ean_digits.f strings_Trim.f
  rw [if_pos ⟨hs, by decide, by decide⟩, Option.bind_some]
  congr 1
  have h := trim_empty (bs s)
  rw [bs_toList]
  show (Lib.trimS (bs s) (bs digitsS) == []) = _
  rw [← show (Lib.trimS (bs s) (bs digitsS)).isEmpty = allDig s from h]
  cases Lib.trimS (bs s) (bs digitsS) <;> rfl
theorem wrap_next (i : Nat) (h : i < 9223372036854775807) : wrap64 ((i : Int) + 1) = ((i + 1 : Nat) : Int) := by unfold wrap64; omega
theorem rdig_l (s : ByteArray) (hs : s.size ≤ 9223372036854775807) (n : Nat) : ∀ i : Nat, i + n = s.size → Ev (fun k => barscanref11_digits.l0 k s i) (((bs s).drop i).all isDig) := by
  have hl := bs_len s
  induction n with
  | zero =>
    intro i h
    refine Ev.succ ?_
    simp only [barscanref11_digits.l0]
    rw [List.drop_of_length_le (by omega)]
    exact Ev.neg (by omega) (Ev.const rfl)
  | succ n ih =>
    intro i h
    have hlt : i < (bs s).length := by omega
    have hd : (bs s).drop i = (bs s)[i] :: (bs s).drop (i + 1) := List.drop_eq_getElem_cons hlt
    refine Ev.succ ?_
    simp only [barscanref11_digits.l0]
    rw [bt_nat s i hlt, hd, List.all_cons, wrap_next i (by omega)]
    refine Ev.pos (by omega) (Ev.pos (by omega) ?_)
    unfold isDig
    by_cases h1 : (((bs s)[i].toNat : Nat) : Int) < 48
    · rw [decide_eq_false (show ¬ 48 ≤ (bs s)[i].toNat by omega), Bool.false_and, Bool.false_and]
      exact Ev.pos h1 (Ev.const rfl)
    · rw [decide_eq_true (show 48 ≤ (bs s)[i].toNat by omega), Bool.true_and]
      refine Ev.neg h1 ?_
      by_cases h2 : (((bs s)[i].toNat : Nat) : Int) > 57
      · rw [decide_eq_false (show ¬ (bs s)[i].toNat ≤ 57 by omega), Bool.false_and]
        exact Ev.pos h2 (Ev.const rfl)
      · rw [decide_eq_true (show (bs s)[i].toNat ≤ 57 by omega), Bool.true_and]
        exact Ev.neg h2 (ih (i + 1) (by omega))
theorem rdig (s : ByteArray) (hs : s.size ≤ 9223372036854775807) : Ev (fun k => barscanref11_digits.f k s) (allDig s) := by
  unfold barscanref11_digits.f
  have := rdig_l s hs s.size 0 (by omega)
  simpa [allDig] using this
/-! ### Check digits -/
theorem back_rd (s : ByteArray) (i d : Nat) (h : i + d + 1 = s.size) : rd (backL s) (i : Int) = ((bt s (d : Int)) - 48) % 256 := by
  have hl := bs_len s
  have hd : d < (bs s).length := by omega
  rw [bt_nat s d hd, rd_nat _ i (by rw [backL_len]; omega)]
  unfold backL
  rw [List.getElem_map, List.getElem_reverse]
  have e : (bs s).length - 1 - i = d := by omega
  simp only [e]
theorem last_char (g : Int) (h : 0 ≤ g) : strOfNums [(wrap64 (48 + (Int.tmod (wrap64 (10 - (Int.tmod g 10))) 10))) % 256] = ⟨(Lib.decDigits (-(g % 10) % 10).toNat).toArray⟩ := by
  apply bs_inj
  rw [Int.tmod_eq_emod_of_nonneg h, wrap_id (10 - g % 10) (by omega) (by omega), Int.tmod_eq_emod_of_nonneg (by omega), wrap_id _ (by omega) (by omega), decDigit _ (by omega), bs_mk]
  show [UInt8.ofNat _] = _
  congr 2
  omega
theorem rcheck_l (s : ByteArray) (hs : s.size ≤ 4096) (d : Nat) : ∀ i : Nat, i + d = s.size → Ev (fun k => barscanref11_check.l0 k s (gsumTo (backL s) i) (3 - (i : Int) % 2 * 2) ((d : Int) - 1)) (gchk s) := by
  induction d with
  | zero =>
    intro i h
    refine Ev.succ ?_
    simp only [barscanref11_check.l0]
    obtain rfl : i = s.size := by omega
    have hg := gsumTo_bd (backL s) (backL_bd s) s.size
    refine Ev.neg (by omega) ?_
    rw [last_char _ hg.1]
    unfold gchk
    rw [backL_len]
    exact Ev.const rfl
  | succ d ih =>
    intro i h
    have hr := back_rd s i d (by omega)
    have hb := backL_bd s i
    have hg := gsumTo_bd (backL s) (backL_bd s) i
    refine Ev.succ ?_
    simp only [barscanref11_check.l0]
    rw [show (((d + 1 : Nat) : Int) - 1) = (d : Int) by omega, ← hr, wrap_dn d (by omega)]
    refine Ev.pos (by omega) (Ev.pos (by omega) (Ev.pos (by omega) ?_))
    have e : gsumTo (backL s) (i + 1) = gsumTo (backL s) i + (3 - (i : Int) % 2 * 2) * rd (backL s) i := rfl
    have ih2 := ih (i + 1) (by omega)
    rcases (show (i : Int) % 2 = 0 ∨ (i : Int) % 2 = 1 by omega) with e2 | e2
    · rw [e2] at e ⊢
      rw [wrap_id ((3 - 0 * 2) * _) (by omega) (by omega), wrap_id (gsumTo _ _ + _) (by omega) (by omega), ← e, show wrap64 (4 - (3 - 0 * 2)) = 3 - ((i + 1 : Nat) : Int) % 2 * 2 from by rw [wrap_id _ (by omega) (by omega)]; omega]
      exact ih2
    · rw [e2] at e ⊢
      rw [wrap_id ((3 - 1 * 2) * _) (by omega) (by omega), wrap_id (gsumTo _ _ + _) (by omega) (by omega), ← e, show wrap64 (4 - (3 - 1 * 2)) = 3 - ((i + 1 : Nat) : Int) % 2 * 2 from by rw [wrap_id _ (by omega) (by omega)]; omega]
      exact ih2
theorem rcheck (s : ByteArray) (hs : s.size ≤ 4096) : Ev (fun k => barscanref11_check.f k s) (gchk s) := by
  unfold barscanref11_check.f
  rw [wrap_id _ (by omega) (by omega)]
  exact rcheck_l s hs s.size 0 (by omega)
end Go.Proofs.YtjmeekceecpemaaGreatDoor.Q

namespace Go.Proofs.YtjmeekceecpemaaGreatDoor.Q
open Go.RowKit Go.Proofs.YtjmeekceecpemaaGreatDoorW.PrintWords Go.Proofs.YtjmeekceecpemaaGreatDoorW.PrintLast Go.Proofs.YtjmeekceecpemaaGreatDoorW.PrintMore

set_option linter.unusedVariables false
set_option linter.unusedSimpArgs false

/-! ### barscanref11_complete: function 34 -/
def barscanref11_complete.f (k : Nat) (a0 : Int) (a1 : ByteArray) : Option (Int) := (barscanref11_length.f k a0).bind fun t190 => (if t190 > 0 then ((barscanref11_digits.f k a1).bind fun t191 => (if t191 = true then ((barscanref11_length.f k a0).bind fun t192 => (if (a1.size : Int) = (wrap64 (t192 - 1)) then (some 7) else ((barscanref11_Complete.f k a0 a1).bind fun bt193 => (some bt193.2)))) else ((barscanref11_Complete.f k a0 a1).bind fun bt195 => (some bt195.2)))) else ((barscanref11_Complete.f k a0 a1).bind fun bt197 => (some bt197.2)))
theorem barscanref11_complete.mono : ∀ a0 a1 k, LeO (barscanref11_complete.f k a0 a1) (barscanref11_complete.f (k + 1) a0 a1) := by
  intro a0 a1 k
  unfold barscanref11_complete.f
  repeat' with_reducible first | exact barscanref11_Complete.mono _ _ _ | exact barscanref11_digits.mono _ _ | exact barscanref11_length.mono _ _ | exact LeO.refl _ | exact LeO.none _ | refine LeO.ite ?_ ?_ | refine LeO.bind ?_ (fun _ => ?_)
set_option maxHeartbeats 8000000 in
set_option maxRecDepth 100000 in
theorem barscanref11_complete.calls (k : Nat) (a0 : Int) (a1 : ByteArray) (r : Int) (w : World) (h : barscanref11_complete.f k a0 a1 = some r) :
    Calls Tryz.prog 34 #[.int .i64 a0, .string a1] w fun e w' => e = .returned (.int .i64 r) ∧ Below w.heap.size w w' := by
 have HB := Aside0.mk (Below.refl w.heap.size w)
 have H := h
 clear h
 unfold barscanref11_complete.f at H
 replace H := bd H
 obtain ⟨t190, A3, H⟩ := H
 replace H := ifc H
 obtain ⟨c4, H⟩ | ⟨c4, H⟩ := H
 rotate_left
 ·have c4b0 : decide (0 < t190) = false := decide_eq_false c4
  clear c4
  replace H := bd H
  obtain ⟨⟨t197, t198⟩, A13, H⟩ := H
  obtain rfl := Option.some.inj H
  go_enter Tryz.func34, Tryz.ntmps34
  go_wp2_with (first | ((with_reducible refine gate_callee (f := 49) rfl ?_); refine goesL_ (some 8) rfl rfl Tryz.func49 kr rfl #[.int .i64 a0] rfl ar ?_; (with_reducible refine (barscanref11_length.calls k a0 t190 _ A3.out).mono ?_); rintro e w' ⟨rfl, ⟨nd, rfl⟩⟩; refine ⟨_, rfl, ?_⟩) | ((with_reducible refine gate_callee (f := 18) rfl ?_); refine goesL_ (some 25) rfl rfl Tryz.func18 kr rfl #[.int .i64 a0, .string a1] rfl ar ?_; (with_reducible refine (barscanref11_Complete.calls k a0 a1 t197 t198 _ A13.out).mono ?_); rintro e w14 ⟨rfl, hb⟩; refine ⟨_, rfl, ?_⟩; replace HB := Aside0.mk (below_step bw hb); clear hb))
  go_ret
  exact ⟨es, bw⟩
 have c4b0 : decide (0 < t190) = true := decide_eq_true c4
 clear c4
 replace H := bd H
 obtain ⟨t191, A5, H⟩ := H
 by_cases c6 : t191 = true
 rotate_left
 ·replace c6 := Bool.eq_false_iff.mpr c6
  subst c6
  rw [if_neg (show ¬ (false = true) by decide)] at H
  replace H := bd H
  obtain ⟨⟨t195, t196⟩, A11, H⟩ := H
  obtain rfl := Option.some.inj H
  go_enter Tryz.func34, Tryz.ntmps34
  go_wp2_with (first | ((with_reducible refine gate_callee (f := 49) rfl ?_); refine goesL_ (some 8) rfl rfl Tryz.func49 kr rfl #[.int .i64 a0] rfl ar ?_; (with_reducible refine (barscanref11_length.calls k a0 t190 _ A3.out).mono ?_); rintro e w' ⟨rfl, ⟨nd, rfl⟩⟩; refine ⟨_, rfl, ?_⟩) | (go_at_call 35; (with_reducible refine (barscanref11_digits.calls k a1 false _ A5.out).mono ?_); rintro e w' ⟨rfl, ⟨nd, rfl⟩⟩) | ((with_reducible refine gate_callee (f := 18) rfl ?_); refine goesL_ (some 25) rfl rfl Tryz.func18 kr rfl #[.int .i64 a0, .string a1] rfl ar ?_; (with_reducible refine (barscanref11_Complete.calls k a0 a1 t195 t196 _ A11.out).mono ?_); rintro e w12 ⟨rfl, hb⟩; refine ⟨_, rfl, ?_⟩; replace HB := Aside0.mk (below_step bw hb); clear hb))
  go_ret
  exact ⟨es, bw⟩
 subst c6
 rw [if_pos rfl] at H
 replace H := bd H
 obtain ⟨t192, A7, H⟩ := H
 replace H := ifc H
 obtain ⟨c8, H⟩ | ⟨c8, H⟩ := H
 ·have c8b0 : ((a1.size : Int) == (wrap64 (t192 - 1))) = true := beq_iff_eq.mpr c8
  have c8b1 : ((a1.size : Int) != (wrap64 (t192 - 1))) = false := bne_eq_false_iff_eq.mpr c8
  clear c8
  obtain rfl := Option.some.inj H
  go_enter Tryz.func34, Tryz.ntmps34
  go_wp2_with (first | ((with_reducible refine gate_callee (f := 49) rfl ?_); refine goesL_ (some 8) rfl rfl Tryz.func49 kr rfl #[.int .i64 a0] rfl ar ?_; (with_reducible refine (barscanref11_length.calls k a0 t190 _ A3.out).mono ?_); rintro e w' ⟨rfl, ⟨nd, rfl⟩⟩; refine ⟨_, rfl, ?_⟩) | (go_at_call 35; (with_reducible refine (barscanref11_digits.calls k a1 true _ A5.out).mono ?_); rintro e w' ⟨rfl, ⟨nd, rfl⟩⟩) | (go_at_call 49; (with_reducible refine (barscanref11_length.calls k a0 t192 _ A7.out).mono ?_); rintro e w' ⟨rfl, ⟨nd, rfl⟩⟩))
  go_ret
  exact ⟨es, bw⟩
 have c8b0 : ((a1.size : Int) == (wrap64 (t192 - 1))) = false := beq_eq_false_iff_ne.mpr c8
 have c8b1 : ((a1.size : Int) != (wrap64 (t192 - 1))) = true := bne_iff_ne.mpr c8
 replace H := bd H
 obtain ⟨⟨t193, t194⟩, A9, H⟩ := H
 obtain rfl := Option.some.inj H
 go_enter Tryz.func34, Tryz.ntmps34
 go_wp2_with (first | ((with_reducible refine gate_callee (f := 49) rfl ?_); refine goesL_ (some 8) rfl rfl Tryz.func49 kr rfl #[.int .i64 a0] rfl ar ?_; (with_reducible refine (barscanref11_length.calls k a0 t190 _ A3.out).mono ?_); rintro e w' ⟨rfl, ⟨nd, rfl⟩⟩; refine ⟨_, rfl, ?_⟩) | (go_at_call 35; (with_reducible refine (barscanref11_digits.calls k a1 true _ A5.out).mono ?_); rintro e w' ⟨rfl, ⟨nd, rfl⟩⟩) | (go_at_call 49; (with_reducible refine (barscanref11_length.calls k a0 t192 _ A7.out).mono ?_); rintro e w' ⟨rfl, ⟨nd, rfl⟩⟩) | ((with_reducible refine gate_callee (f := 18) rfl ?_); refine goesL_ (some 25) rfl rfl Tryz.func18 kr rfl #[.int .i64 a0, .string a1] rfl ar ?_; (with_reducible refine (barscanref11_Complete.calls k a0 a1 t193 t194 _ A9.out).mono ?_); rintro e w10 ⟨rfl, hb⟩; refine ⟨_, rfl, ?_⟩; replace HB := Aside0.mk (below_step bw hb); clear hb))
 go_ret
 exact ⟨es, bw⟩

end Go.Proofs.YtjmeekceecpemaaGreatDoor.Q

/- Complete texts: what both sides answer. -/
namespace Go.Proofs.YtjmeekceecpemaaGreatDoor.Q
open Go.RowKit Go.Proofs.YtjmeekceecpemaaGreatDoorW.PrintWords Go.Proofs.YtjmeekceecpemaaGreatDoorW.PrintLast Go.Proofs.YtjmeekceecpemaaGreatDoorW.PrintMore
set_option linter.unusedVariables false
set_option linter.unusedSimpArgs false
theorem ex_size (s : ByteArray) (a b : Nat) : (s.extract a b).size = min b s.size - a := by
  rw [← bs_len, bs_extract, List.length_take, List.length_drop, bs_len]; omega
theorem ap_size (s t : ByteArray) : (s ++ t).size = s.size + t.size := by
  rw [← bs_len, bs_append, List.length_append, bs_len, bs_len]
theorem tl_iff (a b : ByteArray) : a.toList = b.toList ↔ a = b := by
  rw [bs_toList, bs_toList]
  exact ⟨bs_inj, fun h => by rw [h]⟩
theorem dig_append (s t : ByteArray) : allDig (s ++ t) = (allDig s && allDig t) := by unfold allDig; rw [bs_append, List.all_append]
theorem dig_extract {s : ByteArray} (h : allDig s = true) (a b : Nat) : allDig (s.extract a b) = true := by
  unfold allDig at *
  rw [bs_extract]
  rw [List.all_eq_true] at h ⊢
  exact fun x hx => h x (List.mem_of_mem_drop (List.mem_of_mem_take hx))
theorem dig_at {s : ByteArray} (h : allDig s = true) (i : Nat) (hi : i < s.size) : 48 ≤ bt s (i : Int) ∧ bt s (i : Int) ≤ 57 := by
  have hl : i < (bs s).length := by rw [bs_len]; exact hi
  rw [bt_nat s i hl]
  unfold allDig at h
  rw [List.all_eq_true] at h
  have := h _ (List.getElem_mem hl)
  unfold isDig at this
  rw [Bool.and_eq_true, decide_eq_true_iff, decide_eq_true_iff] at this
  omega
def expB (s : ByteArray) : ByteArray :=
  if bt s 6 ≤ 50 then ((s.extract 0 3 ++ s.extract 6 7) ++ (⟨#[48, 48, 48, 48]⟩ : ByteArray)) ++ s.extract 3 6
  else if bt s 6 = 51 then (s.extract 0 4 ++ (⟨#[48, 48, 48, 48, 48]⟩ : ByteArray)) ++ s.extract 4 6
  else if bt s 6 = 52 then (s.extract 0 5 ++ (⟨#[48, 48, 48, 48, 48]⟩ : ByteArray)) ++ s.extract 5 6
  else (s.extract 0 6 ++ (⟨#[48, 48, 48, 48]⟩ : ByteArray)) ++ s.extract 6 7
theorem z4 : (⟨#[48, 48, 48, 48]⟩ : ByteArray).size = 4 := rfl
theorem z5 : (⟨#[48, 48, 48, 48, 48]⟩ : ByteArray).size = 5 := rfl
theorem exp_size (s : ByteArray) (h : 7 ≤ s.size) : (expB s).size = 11 := by
  unfold expB
  split
  · simp only [ap_size, ex_size, z4, z5]; omega
  split
  · simp only [ap_size, ex_size, z4, z5]; omega
  split
  · simp only [ap_size, ex_size, z4, z5]; omega
  · simp only [ap_size, ex_size, z4, z5]; omega
theorem exp_dig (s : ByteArray) (h : allDig s = true) : allDig (expB s) = true := by
  have e4 : allDig ⟨#[48, 48, 48, 48]⟩ = true := by decide
  have e5 : allDig ⟨#[48, 48, 48, 48, 48]⟩ = true := by decide
  unfold expB
  split
  · simp only [dig_append, dig_extract h, e4, e5, Bool.and_true]
  split
  · simp only [dig_append, dig_extract h, e4, e5, Bool.and_true]
  split
  · simp only [dig_append, dig_extract h, e4, e5, Bool.and_true]
  · simp only [dig_append, dig_extract h, e4, e5, Bool.and_true]
theorem gexp (s : ByteArray) (h : 7 ≤ s.size) : ean_expanded.f s = some (expB s) := by
  unfold ean_expanded.f expB
  rw [if_pos (by omega)]
  by_cases h1 : bt s 6 ≤ 50
  · rw [if_pos h1, if_pos h1]
    repeat rw [if_pos (by first | omega | (simp only [ap_size, ex_size, z4, z5]; omega))]
  rw [if_neg h1, if_neg h1]
  by_cases h2 : bt s 6 = 51
  · rw [if_pos h2, if_pos h2]
    repeat rw [if_pos (by first | omega | (simp only [ap_size, ex_size, z4, z5]; omega))]
  rw [if_neg h2, if_neg h2]
  by_cases h3 : bt s 6 = 52
  · rw [if_pos h3, if_pos h3]
    repeat rw [if_pos (by first | omega | (simp only [ap_size, ex_size, z4, z5]; omega))]
  rw [if_neg h3, if_neg h3]
  repeat rw [if_pos (by first | omega | (simp only [ap_size, ex_size, z4, z5]; omega))]
theorem rexp_j (k : Nat) (s : ByteArray) (h : 7 ≤ s.size) (c : Bool) (hc : c = decide (bt s 6 ≤ 50)) : barscanref11_expand.j0 (k + 1) s (bt s 6) c = some (expB s) := by
  subst hc
  simp only [barscanref11_expand.j0]
  unfold expB
  by_cases h1 : bt s 6 ≤ 50
  · rw [if_pos (decide_eq_true h1), if_pos h1]
    repeat rw [if_pos (by first | omega | (simp only [ap_size, ex_size, z4, z5]; omega))]
  rw [if_neg (by simpa using h1), if_neg h1]
  by_cases h2 : bt s 6 = 51
  · rw [if_pos h2, if_pos h2]
    repeat rw [if_pos (by first | omega | (simp only [ap_size, ex_size, z4, z5]; omega))]
  rw [if_neg h2, if_neg h2]
  by_cases h3 : bt s 6 = 52
  · rw [if_pos h3, if_pos h3]
    repeat rw [if_pos (by first | omega | (simp only [ap_size, ex_size, z4, z5]; omega))]
  rw [if_neg h3, if_neg h3]
  repeat rw [if_pos (by first | omega | (simp only [ap_size, ex_size, z4, z5]; omega))]
theorem rexp (k : Nat) (s : ByteArray) (h : 7 ≤ s.size) (h0 : 48 ≤ bt s 6) : barscanref11_expand.f (k + 1) s = some (expB s) := by
  unfold barscanref11_expand.f
  rw [if_pos (by omega)]
  by_cases h1 : bt s 6 = 48
  · rw [if_pos h1]
    exact rexp_j k s h _ (by rw [decide_eq_true (by omega)]; exact beq_iff_eq.2 h1)
  rw [if_neg h1]
  by_cases h2 : bt s 6 = 49
  · rw [if_pos h2]
    exact rexp_j k s h _ (by rw [decide_eq_true (by omega)]; exact beq_iff_eq.2 h2)
  rw [if_neg h2]
  refine rexp_j k s h _ ?_
  by_cases h3 : bt s 6 = 50
  · rw [decide_eq_true (by omega)]; exact beq_iff_eq.2 h3
  · rw [decide_eq_false (by omega)]; exact beq_eq_false_iff_ne.2 h3
theorem gchk_digit (s : ByteArray) : ∃ c : UInt8, gchk s = ⟨#[c]⟩ ∧ isDig c = true := by
  unfold gchk
  rw [decDigit _ (by omega)]
  refine ⟨_, rfl, ?_⟩
  have h : (-(gsumTo (backL s) (backL s).length % 10) % 10).toNat < 10 := by omega
  unfold isDig
  rw [UInt8.toNat_ofNat', Nat.mod_eq_of_lt (by omega)]
  rw [Bool.and_eq_true, decide_eq_true_iff, decide_eq_true_iff]
  omega
theorem gchk_size (s : ByteArray) : (gchk s).size = 1 := by obtain ⟨c, h, _⟩ := gchk_digit s; rw [h]; rfl
theorem gchk_dig (s : ByteArray) : allDig (gchk s) = true := by
  obtain ⟨c, h, hc⟩ := gchk_digit s
  rw [h]
  show [c].all isDig = true
  simp [hc]
def checkS (a : Int) (s : ByteArray) : ByteArray := if a = 4 then gchk (expB s) else gchk s
theorem checkS_size (a : Int) (s : ByteArray) : (checkS a s).size = 1 := by unfold checkS; split <;> exact gchk_size _
theorem checkS_dig (a : Int) (s : ByteArray) : allDig (checkS a s) = true := by unfold checkS; split <;> exact gchk_dig _
theorem compute_at (s : ByteArray) (h0 : 0 < s.size) (h1 : s.size ≤ 4096) (hd : allDig s = true) : checkdigit_Compute.f 1 s = some (gchk s, 0) := by
  unfold checkdigit_Compute.f
  rw [if_pos rfl, if_neg (by omega), if_neg (by omega), if_pos hd]
theorem gcd_at (a : Int) (s : ByteArray) (h0 : 7 ≤ s.size) (h1 : s.size ≤ 4096) (hd : allDig s = true) : ean_checkDigit.f a s = some (checkS a s) := by
  unfold ean_checkDigit.f checkS
  by_cases h4 : a = 4
  · have hz := exp_size s h0
    rw [if_pos h4, if_pos h4, gexp s h0, Option.bind_some, compute_at _ (by omega) (by omega) (exp_dig s hd)]
    rfl
  · rw [if_neg h4, if_neg h4, compute_at _ (by omega) h1 hd]
    rfl
theorem rcd_at (a : Int) (s : ByteArray) (h0 : 7 ≤ s.size) (h1 : s.size ≤ 4096) (hd : allDig s = true) : Ev (fun k => barscanref11_checkOf.f k a s) (checkS a s) := by
  unfold barscanref11_checkOf.f checkS
  by_cases h4 : a = 4
  · rw [if_pos h4]
    have hz := exp_size s h0
    have hr : Ev (fun k => barscanref11_expand.f k s) (expB s) := ⟨1, fun k hk => by obtain ⟨j, rfl⟩ : ∃ j, k = j + 1 := ⟨k - 1, by omega⟩; exact rexp j s h0 (dig_at hd 6 (by omega)).1⟩
    exact Ev.pos h4 (Ev.bind hr (Ev.bind (rcheck _ (by omega)) (Ev.const rfl)))
  · rw [if_neg h4]
    exact Ev.neg h4 (Ev.bind (rcheck _ h1) (Ev.const rfl))
def bodyB (a : Int) (s : ByteArray) : ByteArray := s.extract 0 (lenS a - 1).toNat
def outB (a : Int) (s : ByteArray) : ByteArray := bodyB a s ++ checkS a (bodyB a s)
def cmpS (a : Int) (s : ByteArray) : Int :=
  if lenS a = 0 then 1 else if allDig s = true then (if (s.size : Int) = lenS a then (if a = 4 ∧ bt s 0 > 49 then 9 else if s = outB a s then 0 else 8) else 7) else 6
def compS (a : Int) (s : ByteArray) : ByteArray × Int :=
  if lenS a = 0 then (⟨#[]⟩, 1) else if allDig s = true then (if (s.size : Int) = lenS a ∨ (s.size : Int) = lenS a - 1 then (if a = 4 ∧ bt s 0 > 49 then (⟨#[]⟩, 9)
    else if (s.size : Int) = lenS a ∧ ¬ s = outB a s then (⟨#[]⟩, 8) else (outB a s, 0)) else (⟨#[]⟩, 7)) else (⟨#[]⟩, 6)
theorem len_bd (a : Int) : lenS a = 0 ∨ 8 ≤ lenS a ∧ lenS a ≤ 13 := by unfold lenS; repeat' split <;> omega
theorem body_size (a : Int) (s : ByteArray) (hn : lenS a ≠ 0) (h : (s.size : Int) = lenS a ∨ (s.size : Int) = lenS a - 1) : ((bodyB a s).size : Int) = lenS a - 1 := by
  have := len_bd a
  unfold bodyB
  rw [ex_size]
  omega
theorem out_split (a : Int) (s : ByteArray) (hn : lenS a ≠ 0) (h : (s.size : Int) = lenS a) : s = outB a s ↔ checkS a (bodyB a s) = s.extract (lenS a - 1).toNat s.size := by
  have hb := len_bd a
  have hs : s = bodyB a s ++ s.extract (lenS a - 1).toNat s.size := by
    apply bs_inj
    unfold bodyB
    rw [bs_append, bs_extract, bs_extract, List.drop_zero, Nat.sub_zero, List.take_of_length_le (i := s.size - _) (by rw [List.length_drop, bs_len]; omega), List.take_append_drop]
  constructor
  · intro h2
    unfold outB at h2
    rw [hs] at h2
    have h3 := congrArg bs h2
    rw [← hs] at h3
    rw [bs_append, hs, bs_append] at h3
    rw [← hs] at h3
    exact bs_inj (List.append_cancel_left h3).symm
  · intro h2
    unfold outB
    rw [h2]
    exact hs
theorem gcomplete (k : Nat) (a : Int) (s : ByteArray) (hs : s.size ≤ 9223372036854775807) : ean_complete.f (k + 1) a s = some (cmpS a s) := by
  have hb := len_bd a
  have hj : ∀ c : Bool, lenS a ≠ 0 → (s.size : Int) = lenS a → allDig s = true → ean_complete.j0 (k + 1) a s (lenS a) c = some (if c = true then 9 else if s = outB a s then 0 else 8) := by
    intro c hn hz hd
    simp only [ean_complete.j0]
    have hbz := body_size a s hn (Or.inl hz)
    rw [wrap_id (lenS a - 1) (by omega) (by omega), if_pos (show 0 ≤ lenS a - 1 by omega), if_pos (show lenS a - 1 ≤ (s.size : Int) by omega)]
    show (if c = true then some 9 else ((ean_checkDigit.f a (bodyB a s)).bind _)) = _
    rw [gcd_at a (bodyB a s) (by omega) (by omega) (dig_extract hd _ _), Option.bind_some]
    simp only [tl_iff, out_split a s hn hz]
    split
    · rfl
    split <;> rfl
  unfold ean_complete.f cmpS
  rw [glen, Option.bind_some]
  by_cases hn : lenS a = 0
  · rw [if_pos hn, if_pos hn]
  rw [if_neg hn, if_neg hn, gdig s hs, Option.bind_some]
  by_cases hd : allDig s = true
  · rw [if_pos hd, if_pos hd]
    by_cases hz : (s.size : Int) = lenS a
    · rw [if_pos hz, if_pos hz]
      by_cases h4 : a = 4
      · rw [if_pos h4, if_pos (by omega), hj _ hn hz hd]
        by_cases h5 : bt s 0 > 49
        · rw [if_pos (decide_eq_true h5), if_pos ⟨h4, h5⟩]
        · rw [if_neg (show ¬ decide (bt s 0 > 49) = true by simpa using h5), if_neg (show ¬ (a = 4 ∧ bt s 0 > 49) from fun h => h5 h.2)]
      · rw [if_neg h4, hj _ hn hz hd, if_neg (show ¬ false = true by decide), if_neg (show ¬ (a = 4 ∧ bt s 0 > 49) from fun h => h4 h.1)]
    · rw [if_neg hz, if_neg hz]
  · rw [if_neg hd, if_neg hd]
theorem body_full (a : Int) (s : ByteArray) (hz : (s.size : Int) = lenS a - 1) : bodyB a s = s := by
  apply bs_inj
  unfold bodyB
  rw [bs_extract, List.drop_zero]
  exact List.take_of_length_le (by rw [bs_len]; omega)
theorem body_grown (a : Int) (s t : ByteArray) (hz : (s.size : Int) = lenS a - 1) : bodyB a (s ++ t) = s := by
  apply bs_inj
  unfold bodyB
  rw [bs_extract, List.drop_zero, bs_append]
  exact List.take_left' (by rw [bs_len]; omega)
theorem bt_left (s t : ByteArray) (h : 0 < s.size) : bt (s ++ t) 0 = bt s 0 := by
  have h1 : 0 < (bs s).length := by rw [bs_len]; exact h
  have h2 : 0 < (bs (s ++ t)).length := by rw [bs_len, ap_size]; omega
  have e1 := bt_nat s 0 h1
  have e2 := bt_nat (s ++ t) 0 h2
  rw [show ((0 : Nat) : Int) = 0 from rfl] at e1 e2
  rw [e1, e2]
  simp only [bs_append, List.getElem_append_left h1]
/-- A completed text is complete. -/
theorem cmp_grown (a : Int) (s : ByteArray) (hn : lenS a ≠ 0) (hz : (s.size : Int) = lenS a - 1) (hd : allDig s = true) (h4 : ¬ (a = 4 ∧ bt s 0 > 49)) : cmpS a (s ++ checkS a s) = 0 := by
  have hb := len_bd a
  unfold cmpS
  rw [if_neg hn, if_pos (by rw [dig_append, hd, checkS_dig]; rfl), if_pos (by rw [ap_size, checkS_size]; omega), if_neg (by rw [bt_left s _ (by omega)]; exact h4), if_pos]
  unfold outB
  rw [body_grown a s _ hz]
theorem comp_other (a : Int) (s : ByteArray) (h : ¬ (lenS a ≠ 0 ∧ (s.size : Int) = lenS a - 1 ∧ allDig s = true)) : (if cmpS a s = 0 then (s, (0 : Int)) else (⟨#[]⟩, cmpS a s)) = compS a s := by
  unfold cmpS compS
  by_cases hn : lenS a = 0
  · simp only [if_pos hn]; rfl
  simp only [if_neg hn]
  by_cases hd : allDig s = true
  · simp only [if_pos hd]
    have hz1 : ¬ (s.size : Int) = lenS a - 1 := fun hz => h ⟨hn, hz, hd⟩
    by_cases hz : (s.size : Int) = lenS a
    · simp only [if_pos hz, if_pos (Or.inl hz : (s.size : Int) = lenS a ∨ (s.size : Int) = lenS a - 1)]
      by_cases h4 : a = 4 ∧ bt s 0 > 49
      · simp only [if_pos h4]; rfl
      simp only [if_neg h4]
      by_cases ho : s = outB a s
      · rw [if_neg (fun h : (s.size : Int) = lenS a ∧ ¬ s = outB a s => h.2 ho)]
        simp only [if_pos ho]
        rw [← ho]; rfl
      · rw [if_pos (show (s.size : Int) = lenS a ∧ ¬ s = outB a s from ⟨hz, ho⟩)]
        simp only [if_neg ho]; rfl
    · simp only [if_neg hz, if_neg (fun h => h.elim hz hz1 : ¬ ((s.size : Int) = lenS a ∨ (s.size : Int) = lenS a - 1))]; rfl
  · simp only [if_neg hd]; rfl
theorem gComplete (k : Nat) (a : Int) (s : ByteArray) (hs : s.size ≤ 9223372036854775807) : ean_Complete.f (k + 4) a s = some (compS a s) := by
  have hb := len_bd a
  have hw : lenS a ≠ 0 → wrap64 (lenS a - 1) = lenS a - 1 := fun _ => wrap_id _ (by omega) (by omega)
  have j2 : ∀ s : ByteArray, s.size ≤ 9223372036854775807 → ean_Complete.j2 (k + 2) a s false = some (if cmpS a s = 0 then (s, 0) else (⟨#[]⟩, cmpS a s)) := by
    intro s hs
    simp only [ean_Complete.j2]
    rw [if_neg (show ¬ false = true by decide), gcomplete k a s hs, Option.bind_some]
    split <;> rfl
  have j1 : ∀ s : ByteArray, s.size ≤ 9223372036854775807 → ¬ (lenS a ≠ 0 ∧ (s.size : Int) = lenS a - 1 ∧ allDig s = true) → ean_Complete.j1 (k + 3) a s (lenS a) = some (compS a s) := by
    intro s hs h
    simp only [ean_Complete.j1]
    rw [← comp_other a s h]
    by_cases hn : lenS a > 0
    · rw [if_pos hn, hw (by omega)]
      by_cases hz : (s.size : Int) = lenS a - 1
      · have hd : allDig s = false := by
          cases hd : allDig s with
          | false => rfl
          | true => exact absurd ⟨by omega, hz, hd⟩ h
        rw [if_pos hz, gdig s hs, Option.bind_some, hd]
        exact j2 s hs
      · rw [if_neg hz]; exact j2 s hs
    · rw [if_neg hn]; exact j2 s hs
  have j0 : lenS a ≠ 0 → (s.size : Int) = lenS a - 1 → allDig s = true → ¬ (a = 4 ∧ bt s 0 > 49) → ean_Complete.j0 (k + 4) a s (lenS a) true = some (compS a s) := by
    intro hn hz hd h4
    simp only [ean_Complete.j0]
    have hg : (s ++ checkS a s).size = s.size + 1 := by rw [ap_size, checkS_size]
    have hc := cmp_grown a s hn hz hd h4
    have hx : ¬ (lenS a ≠ 0 ∧ ((s ++ checkS a s).size : Int) = lenS a - 1 ∧ allDig (s ++ checkS a s) = true) := fun h => by have := h.2.1; omega
    rw [if_pos trivial, gcd_at a s (by omega) (by omega) hd, Option.bind_some, if_pos (by rw [checkS_size]; omega), j1 _ (by omega) hx, ← comp_other a _ hx, if_pos hc]
    unfold compS
    rw [if_neg hn, if_pos hd, if_pos (Or.inr hz), if_neg h4, if_neg (fun h => by have := h.1; omega)]
    unfold outB
    rw [body_full a s hz]
  have jf : ¬ (lenS a ≠ 0 ∧ (s.size : Int) = lenS a - 1 ∧ allDig s = true) → ean_Complete.j0 (k + 4) a s (lenS a) false = some (compS a s) := by
    intro h
    simp only [ean_Complete.j0]
    rw [if_neg (show ¬ false = true by decide)]
    exact j1 s hs h
  unfold ean_Complete.f
  rw [glen, Option.bind_some]
  by_cases hn : lenS a > 0
  · rw [if_pos hn, hw (by omega)]
    by_cases hz : (s.size : Int) = lenS a - 1
    · rw [if_pos hz, gdig s hs, Option.bind_some]
      by_cases hd : allDig s = true
      · rw [if_pos hd]
        by_cases h4 : a = 4
        · rw [if_pos h4, if_pos (by omega)]
          by_cases h5 : bt s 0 ≤ 49
          · rw [decide_eq_true h5]; exact j0 (by omega) hz hd (fun h => by have := h.2; omega)
          · rw [decide_eq_false h5]
            simp only [ean_Complete.j0]
            rw [if_neg (show ¬ false = true by decide)]
            simp only [ean_Complete.j1]
            rw [if_pos hn, hw (by omega), if_pos hz, gdig s hs, Option.bind_some]
            simp only [ean_Complete.j2]
            rw [if_pos hd]
            unfold compS
            rw [if_neg (by omega), if_pos hd, if_pos (Or.inr hz), if_pos ⟨h4, by omega⟩]
        · rw [if_neg h4]; exact j0 (by omega) hz hd (fun h => h4 h.1)
      · rw [if_neg hd]; exact jf (fun h => hd h.2.2)
    · rw [if_neg hz]; exact jf (fun h => hz h.2.1)
  · rw [if_neg hn]; exact jf (fun h => by have := h.1; omega)
theorem rlen_ev (a : Int) : Ev (fun k => barscanref11_length.f k a) (lenS a) := ⟨1, fun k hk => by obtain ⟨j, rfl⟩ : ∃ j, k = j + 1 := ⟨k - 1, by omega⟩; exact rlen a j⟩
theorem rComplete (a : Int) (s : ByteArray) (hs : s.size ≤ 9223372036854775807) : Ev (fun k => barscanref11_Complete.f k a s) (compS a s) := by
  have hb := len_bd a
  have j1 : ∀ c : Bool, lenS a ≠ 0 → ((s.size : Int) = lenS a ∨ (s.size : Int) = lenS a - 1) → allDig s = true → Ev (fun k => barscanref11_Complete.j1 k a s (lenS a) c) (if c = true then (⟨#[]⟩, 9) else if (s.size : Int) = lenS a ∧ ¬ s = outB a s then (⟨#[]⟩, 8) else (outB a s, 0)) := by
    intro c hn hz hd
    refine Ev.succ ?_
    simp only [barscanref11_Complete.j1]
    have hbz := body_size a s hn hz
    rw [wrap_id (lenS a - 1) (by omega) (by omega)]
    by_cases hc : c = true
    · rw [if_pos hc]; exact Ev.pos hc (Ev.const rfl)
    rw [if_neg hc]
    refine Ev.neg hc (Ev.pos (by omega) (Ev.pos (by omega) (Ev.bind (rcd_at a (bodyB a s) (by omega) (by omega) (dig_extract hd _ _)) (Ev.pos ?_ ?_))))
    · show (bodyB a s).size + (checkS a (bodyB a s)).size ≤ _
      rw [checkS_size]; omega
    by_cases hz1 : (s.size : Int) = lenS a
    · refine Ev.pos hz1 ?_
      by_cases ho : s = outB a s
      · rw [if_neg (fun h : (s.size : Int) = lenS a ∧ ¬ s = outB a s => h.2 ho)]
        exact Ev.pos ((tl_iff _ _).2 ho) (Ev.const rfl)
      · rw [if_pos (show (s.size : Int) = lenS a ∧ ¬ s = outB a s from ⟨hz1, ho⟩)]
        exact Ev.neg (fun h => ho ((tl_iff _ _).1 h)) (Ev.const rfl)
    · rw [if_neg (fun h : (s.size : Int) = lenS a ∧ ¬ s = outB a s => hz1 h.1)]
      exact Ev.neg hz1 (Ev.const rfl)
  have j0 : lenS a ≠ 0 → ((s.size : Int) = lenS a ∨ (s.size : Int) = lenS a - 1) → allDig s = true → Ev (fun k => barscanref11_Complete.j0 k a s (lenS a) false) (compS a s) := by
    intro hn hz hd
    refine Ev.succ ?_
    simp only [barscanref11_Complete.j0]
    refine Ev.neg (by decide) ?_
    unfold compS
    rw [if_neg hn, if_pos hd, if_pos hz]
    by_cases h4 : a = 4
    · refine Ev.pos h4 (Ev.pos (by omega) ?_)
      have := j1 (decide (bt s 0 > 49)) hn hz hd
      by_cases h5 : bt s 0 > 49
      · rw [if_pos (decide_eq_true h5)] at this
        rw [if_pos (show a = 4 ∧ bt s 0 > 49 from ⟨h4, h5⟩)]; exact this
      · rw [if_neg (show ¬ decide (bt s 0 > 49) = true by simpa using h5)] at this
        rw [if_neg (fun h : a = 4 ∧ bt s 0 > 49 => h5 h.2)]; exact this
    · rw [if_neg (fun h : a = 4 ∧ bt s 0 > 49 => h4 h.1)]
      have := j1 false hn hz hd
      rw [if_neg (show ¬ false = true by decide)] at this
      exact Ev.neg h4 this
  unfold barscanref11_Complete.f
  refine Ev.bind (rlen_ev a) ?_
  by_cases hn : lenS a = 0
  · refine Ev.pos hn ?_
    unfold compS; rw [if_pos hn]; exact Ev.const rfl
  refine Ev.neg hn (Ev.bind (rdig s hs) ?_)
  by_cases hd : allDig s = true
  · refine Ev.pos hd ?_
    by_cases hz : (s.size : Int) = lenS a
    · exact Ev.pos hz (j0 hn (Or.inl hz) hd)
    · refine Ev.neg hz ?_
      rw [wrap_id (lenS a - 1) (by omega) (by omega)]
      by_cases hz1 : (s.size : Int) = lenS a - 1
      · rw [show ((s.size : Int) != lenS a - 1) = false by simpa using hz1]
        exact j0 hn (Or.inr hz1) hd
      · rw [show ((s.size : Int) != lenS a - 1) = true by simpa using hz1]
        refine Ev.succ ?_
        simp only [barscanref11_Complete.j0]
        unfold compS
        rw [if_neg hn, if_pos hd, if_neg (fun h => h.elim hz hz1)]
        exact Ev.pos trivial (Ev.const rfl)
  · unfold compS
    rw [if_neg hn, if_neg hd]
    exact Ev.neg hd (Ev.const rfl)
theorem comp_snd (a : Int) (s : ByteArray) (h : ¬ (lenS a ≠ 0 ∧ (s.size : Int) = lenS a - 1 ∧ allDig s = true)) : (compS a s).2 = cmpS a s := by
  rw [← comp_other a s h]
  split
  · next h => rw [h]
  · rfl
theorem rcomplete (a : Int) (s : ByteArray) (hs : s.size ≤ 9223372036854775807) : Ev (fun k => barscanref11_complete.f k a s) (cmpS a s) := by
  have hb := len_bd a
  have hc : ∀ h : ¬ (lenS a ≠ 0 ∧ (s.size : Int) = lenS a - 1 ∧ allDig s = true), Ev (fun k => (barscanref11_Complete.f k a s).bind fun b => some b.2) (cmpS a s) := fun h => Ev.bind (rComplete a s hs) (Ev.const (by rw [comp_snd a s h]))
  unfold barscanref11_complete.f
  refine Ev.bind (rlen_ev a) ?_
  by_cases hn : lenS a > 0
  · refine Ev.pos hn (Ev.bind (rdig s hs) ?_)
    by_cases hd : allDig s = true
    · refine Ev.pos hd (Ev.bind (rlen_ev a) ?_)
      rw [wrap_id (lenS a - 1) (by omega) (by omega)]
      by_cases hz : (s.size : Int) = lenS a - 1
      · refine Ev.pos hz (Ev.const ?_)
        unfold cmpS
        rw [if_neg (by omega), if_pos hd, if_neg (by omega)]
      · exact Ev.neg hz (hc fun h => hz h.2.1)
    · exact Ev.neg hd (hc fun h => hd h.2.2)
  · exact Ev.neg hn (hc fun h => by have := h.1; omega)
end Go.Proofs.YtjmeekceecpemaaGreatDoor.Q

namespace Go.Proofs.YtjmeekceecpemaaGreatDoor.Q
open Go.RowKit Go.Proofs.YtjmeekceecpemaaGreatDoorW.PrintWords Go.Proofs.YtjmeekceecpemaaGreatDoorW.PrintLast Go.Proofs.YtjmeekceecpemaaGreatDoorW.PrintMore

set_option linter.unusedVariables false
set_option linter.unusedSimpArgs false

/-! ### barscanref11_Expand: function 22 -/
def barscanref11_Expand.f (k : Nat) (a0 : ByteArray) : Option (ByteArray × Int) := (barscanref11_complete.f k 4 a0).bind fun t623 => (if t623 = 0 then (if 0 ≤ 7 then (if 7 ≤ (a0.size : Int) then ((barscanref11_expand.f k (a0.extract 0 7)).bind fun t624 => (if t624.size + (a0.extract 7 a0.size).size ≤ 9223372036854775807 then (some (t624 ++ (a0.extract 7 a0.size), 0)) else (none))) else (none)) else (none)) else (some ((⟨#[]⟩ : ByteArray), t623)))
theorem barscanref11_Expand.mono : ∀ a0 k, LeO (barscanref11_Expand.f k a0) (barscanref11_Expand.f (k + 1) a0) := by
  intro a0 k
  unfold barscanref11_Expand.f
  repeat' with_reducible first | exact barscanref11_complete.mono _ _ _ | exact barscanref11_expand.mono _ _ | exact LeO.refl _ | exact LeO.none _ | refine LeO.ite ?_ ?_ | refine LeO.bind ?_ (fun _ => ?_)
set_option maxHeartbeats 8000000 in
set_option maxRecDepth 100000 in
theorem barscanref11_Expand.calls (k : Nat) (a0 : ByteArray) (r1 : ByteArray) (r2 : Int) (w : World) (h : barscanref11_Expand.f k a0 = some (r1, r2)) :
    Calls Tryz.prog 22 #[.string a0] w fun e w' => e = .returned (.tuple #[.string r1, .int .i64 r2]) ∧ Below w.heap.size w w' := by
 have HB := Aside0.mk (Below.refl w.heap.size w)
 have H := h
 clear h
 unfold barscanref11_Expand.f at H
 replace H := bd H
 obtain ⟨t623, A2, H⟩ := H
 replace H := ifc H
 obtain ⟨c3, H⟩ | ⟨c3, H⟩ := H
 rotate_left
 ·have c3b0 : (t623 == 0) = false := beq_eq_false_iff_ne.mpr c3
  have c3b1 : (t623 != 0) = true := bne_iff_ne.mpr c3
  simp only [Option.some.injEq, Prod.mk.injEq] at H
  obtain ⟨rfl, rfl⟩ := H
  go_enter Tryz.func22, Tryz.ntmps22
  go_wp2_with (first | (go_at_call 34; (with_reducible refine (barscanref11_complete.calls k 4 a0 t623 _ A2.out).mono ?_); rintro e w10 ⟨rfl, hb⟩; replace HB := Aside0.mk (below_step bw hb); clear hb))
  repeat (go_quiet (first | (go_at_call 34; (with_reducible refine (barscanref11_complete.calls k 4 a0 t623 _ A2.out).mono ?_); rintro e w10 ⟨rfl, hb⟩; replace HB := Aside0.mk (below_step bw hb); clear hb)); try go_wp2_with (first | (go_at_call 34; (with_reducible refine (barscanref11_complete.calls k 4 a0 t623 _ A2.out).mono ?_); rintro e w10 ⟨rfl, hb⟩; replace HB := Aside0.mk (below_step bw hb); clear hb)))
  go_ret2
  exact ⟨es, bw⟩
 have c3b0 : (t623 == 0) = true := beq_iff_eq.mpr c3
 have c3b1 : (t623 != 0) = false := bne_eq_false_iff_eq.mpr c3
 clear c3
 replace H := ifn H
 obtain ⟨c4, H⟩ := H
 have c4b0 := eq_true c4
 have c4b1 : decide (0 ≤ 7) = true := decide_eq_true c4
 clear c4
 by_cases c5 : 7 ≤ (a0.size : Int)
 rotate_left
 ·rw [if_neg c5] at H
  exact absurd H (by simp)
 rw [if_pos c5] at H
 have c5b0 := eq_true c5
 have c5b1 : decide (7 ≤ (a0.size : Int)) = true := decide_eq_true c5
 clear c5
 replace H := bd H
 obtain ⟨t624, A6, H⟩ := H
 have c7b0 := eq_true (of_decide_eq_true am : 7 ≤ (a0.size : Int))
 replace H := ifn H
 obtain ⟨c8, H⟩ := H
 have c8b0 := eq_true c8
 have c8b1 : decide (t624.size + (a0.extract 7 a0.size).size ≤ 9223372036854775807) = true := decide_eq_true c8
 simp only [Option.some.injEq, Prod.mk.injEq] at H
 obtain ⟨rfl, rfl⟩ := H
 go_enter Tryz.func22, Tryz.ntmps22
 go_wp2_with (first | (go_at_call 34; (with_reducible refine (barscanref11_complete.calls k 4 a0 t623 _ A2.out).mono ?_); rintro e w9 ⟨rfl, hb⟩; replace HB := Aside0.mk (below_step bw hb); clear hb) | (go_at_call 52; (with_reducible refine (barscanref11_expand.calls k (a0.extract 0 7) t624 _ A6.out).mono ?_); rintro e w' ⟨rfl, ⟨nd, rfl⟩⟩; (try first | exact ⟨rfl, _, World.drewN_drewN _ _ _⟩ | exact ⟨rfl, _, Eq.trans (World.drewN_drewN _ _ _) (congrArg (World.drewN _) (Nat.add_assoc _ _ _))⟩)))
 repeat (go_quiet (first | (go_at_call 34; (with_reducible refine (barscanref11_complete.calls k 4 a0 t623 _ A2.out).mono ?_); rintro e w9 ⟨rfl, hb⟩; replace HB := Aside0.mk (below_step bw hb); clear hb) | (go_at_call 52; (with_reducible refine (barscanref11_expand.calls k (a0.extract 0 7) t624 _ A6.out).mono ?_); rintro e w' ⟨rfl, ⟨nd, rfl⟩⟩; (try first | exact ⟨rfl, _, World.drewN_drewN _ _ _⟩ | exact ⟨rfl, _, Eq.trans (World.drewN_drewN _ _ _) (congrArg (World.drewN _) (Nat.add_assoc _ _ _))⟩))); try go_wp2_with (first | (go_at_call 34; (with_reducible refine (barscanref11_complete.calls k 4 a0 t623 _ A2.out).mono ?_); rintro e w9 ⟨rfl, hb⟩; replace HB := Aside0.mk (below_step bw hb); clear hb) | (go_at_call 52; (with_reducible refine (barscanref11_expand.calls k (a0.extract 0 7) t624 _ A6.out).mono ?_); rintro e w' ⟨rfl, ⟨nd, rfl⟩⟩; (try first | exact ⟨rfl, _, World.drewN_drewN _ _ _⟩ | exact ⟨rfl, _, Eq.trans (World.drewN_drewN _ _ _) (congrArg (World.drewN _) (Nat.add_assoc _ _ _))⟩))))
 go_ret2
 exact ⟨es, bw⟩

end Go.Proofs.YtjmeekceecpemaaGreatDoor.Q

namespace Go.Proofs.YtjmeekceecpemaaGreatDoor.Q
open Go.RowKit Go.Proofs.YtjmeekceecpemaaGreatDoorW.PrintWords Go.Proofs.YtjmeekceecpemaaGreatDoorW.PrintLast Go.Proofs.YtjmeekceecpemaaGreatDoorW.PrintMore

set_option linter.unusedVariables false
set_option linter.unusedSimpArgs false

/-! ### barscanref11_Compress: function 20 -/
def barscanref11_Compress.l0 : Nat → ByteArray → Int → Option (ByteArray × Int)
  | 0, _, _ => none
  | k + 1, x0, x5 => if x5 ≤ 57 then ((some (([x5] : List Int) : List Int)).bind fun y616 => (if 0 ≤ 3 then (if 3 ≤ (x0.size : Int) then (if 8 ≤ 11 then (if 11 ≤ (x0.size : Int) then (if (x0.extract 0 3).size + (x0.extract 8 11).size ≤ 9223372036854775807 then (if ((x0.extract 0 3) ++ (x0.extract 8 11)).size + (strOfNums y616).size ≤ 9223372036854775807 then (if x5 = 51 then (if 0 ≤ 4 then (if 4 ≤ (x0.size : Int) then (if 9 ≤ 11 then (if (x0.extract 0 4).size + (x0.extract 9 11).size ≤ 9223372036854775807 then (if ((x0.extract 0 4) ++ (x0.extract 9 11)).size + (strOfNums y616).size ≤ 9223372036854775807 then (if 0 < ((((x0.extract 0 4) ++ (x0.extract 9 11)) ++ (strOfNums y616)).size : Int) then (if (bt (((x0.extract 0 4) ++ (x0.extract 9 11)) ++ (strOfNums y616)) 0) ≤ 49 then ((barscanref11_expand.f k (((x0.extract 0 4) ++ (x0.extract 9 11)) ++ (strOfNums y616))).bind fun t619 => (if 0 ≤ 11 then (if t619.toList = (x0.extract 0 11).toList then (if (((x0.extract 0 4) ++ (x0.extract 9 11)) ++ (strOfNums y616)).size + (x0.extract 11 x0.size).size ≤ 9223372036854775807 then (some ((((x0.extract 0 4) ++ (x0.extract 9 11)) ++ (strOfNums y616)) ++ (x0.extract 11 x0.size), 0)) else (none)) else (barscanref11_Compress.l0 k x0 ((x5 + 1) % 256))) else (none))) else (barscanref11_Compress.l0 k x0 ((x5 + 1) % 256))) else (none)) else (none)) else (none)) else (none)) else (none)) else (none)) else (if x5 = 52 then (if 0 ≤ 5 then (if 5 ≤ (x0.size : Int) then (if 10 ≤ 11 then (if (x0.extract 0 5).size + (x0.extract 10 11).size ≤ 9223372036854775807 then (if ((x0.extract 0 5) ++ (x0.extract 10 11)).size + (strOfNums y616).size ≤ 9223372036854775807 then (if 0 < ((((x0.extract 0 5) ++ (x0.extract 10 11)) ++ (strOfNums y616)).size : Int) then (if (bt (((x0.extract 0 5) ++ (x0.extract 10 11)) ++ (strOfNums y616)) 0) ≤ 49 then ((barscanref11_expand.f k (((x0.extract 0 5) ++ (x0.extract 10 11)) ++ (strOfNums y616))).bind fun t620 => (if 0 ≤ 11 then (if t620.toList = (x0.extract 0 11).toList then (if (((x0.extract 0 5) ++ (x0.extract 10 11)) ++ (strOfNums y616)).size + (x0.extract 11 x0.size).size ≤ 9223372036854775807 then (some ((((x0.extract 0 5) ++ (x0.extract 10 11)) ++ (strOfNums y616)) ++ (x0.extract 11 x0.size), 0)) else (none)) else (barscanref11_Compress.l0 k x0 ((x5 + 1) % 256))) else (none))) else (barscanref11_Compress.l0 k x0 ((x5 + 1) % 256))) else (none)) else (none)) else (none)) else (none)) else (none)) else (none)) else (if x5 > 52 then (if 0 ≤ 6 then (if 6 ≤ (x0.size : Int) then (if (x0.extract 0 6).size + (strOfNums y616).size ≤ 9223372036854775807 then (if 0 < (((x0.extract 0 6) ++ (strOfNums y616)).size : Int) then (if (bt ((x0.extract 0 6) ++ (strOfNums y616)) 0) ≤ 49 then ((barscanref11_expand.f k ((x0.extract 0 6) ++ (strOfNums y616))).bind fun t621 => (if 0 ≤ 11 then (if t621.toList = (x0.extract 0 11).toList then (if ((x0.extract 0 6) ++ (strOfNums y616)).size + (x0.extract 11 x0.size).size ≤ 9223372036854775807 then (some (((x0.extract 0 6) ++ (strOfNums y616)) ++ (x0.extract 11 x0.size), 0)) else (none)) else (barscanref11_Compress.l0 k x0 ((x5 + 1) % 256))) else (none))) else (barscanref11_Compress.l0 k x0 ((x5 + 1) % 256))) else (none)) else (none)) else (none)) else (none)) else (if 0 < ((((x0.extract 0 3) ++ (x0.extract 8 11)) ++ (strOfNums y616)).size : Int) then (if (bt (((x0.extract 0 3) ++ (x0.extract 8 11)) ++ (strOfNums y616)) 0) ≤ 49 then ((barscanref11_expand.f k (((x0.extract 0 3) ++ (x0.extract 8 11)) ++ (strOfNums y616))).bind fun t622 => (if 0 ≤ 11 then (if t622.toList = (x0.extract 0 11).toList then (if (((x0.extract 0 3) ++ (x0.extract 8 11)) ++ (strOfNums y616)).size + (x0.extract 11 x0.size).size ≤ 9223372036854775807 then (some ((((x0.extract 0 3) ++ (x0.extract 8 11)) ++ (strOfNums y616)) ++ (x0.extract 11 x0.size), 0)) else (none)) else (barscanref11_Compress.l0 k x0 ((x5 + 1) % 256))) else (none))) else (barscanref11_Compress.l0 k x0 ((x5 + 1) % 256))) else (none))))) else (none)) else (none)) else (none)) else (none)) else (none)) else (none))) else (some ((⟨#[]⟩ : ByteArray), 9))
def barscanref11_Compress.f (k : Nat) (a0 : ByteArray) : Option (ByteArray × Int) := (barscanref11_complete.f k 3 a0).bind fun t615 => (if t615 = 0 then (barscanref11_Compress.l0 k a0 48) else (some ((⟨#[]⟩ : ByteArray), t615)))
theorem barscanref11_Compress.mono_l : ∀ k, (∀ y0 y1, LeO (barscanref11_Compress.l0 k y0 y1) (barscanref11_Compress.l0 (k + 1) y0 y1))
  | 0 => fun _ _ r h => by simp [barscanref11_Compress.l0] at h
  | k + 1 => by
    have ih0 := barscanref11_Compress.mono_l k
    · intro y0 y1
      unfold barscanref11_Compress.l0
      repeat' with_reducible first | exact ih0 _ _ | exact barscanref11_complete.mono _ _ _ | exact barscanref11_expand.mono _ _ | exact LeO.refl _ | exact LeO.none _ | refine LeO.ite ?_ ?_ | refine LeO.bind ?_ (fun _ => ?_)
theorem barscanref11_Compress.mono : ∀ a0 k, LeO (barscanref11_Compress.f k a0) (barscanref11_Compress.f (k + 1) a0) := by
  intro a0 k
  have ih0 := barscanref11_Compress.mono_l k
  unfold barscanref11_Compress.f
  repeat' with_reducible first | exact ih0 _ _ | exact barscanref11_complete.mono _ _ _ | exact barscanref11_expand.mono _ _ | exact LeO.refl _ | exact LeO.none _ | refine LeO.ite ?_ ?_ | refine LeO.bind ?_ (fun _ => ?_)
set_option maxHeartbeats 8000000 in
set_option maxRecDepth 100000 in
theorem barscanref11_Compress.calls (k : Nat) (a0 : ByteArray) (r1 : ByteArray) (r2 : Int) (w : World) (h : barscanref11_Compress.f k a0 = some (r1, r2)) :
    Calls Tryz.prog 20 #[.string a0] w fun e w' => e = .returned (.tuple #[.string r1, .int .i64 r2]) ∧ Below w.heap.size w w' := by
 have HB := Aside0.mk (Below.refl w.heap.size w)
 have H := h
 clear h
 unfold barscanref11_Compress.f at H
 replace H := bd H
 obtain ⟨t615, A2, H⟩ := H
 replace H := ifc H
 obtain ⟨c3, H⟩ | ⟨c3, H⟩ := H
 rotate_left
 ·have c3b0 : (t615 == 0) = false := beq_eq_false_iff_ne.mpr c3
  have c3b1 : (t615 != 0) = true := bne_iff_ne.mpr c3
  simp only [Option.some.injEq, Prod.mk.injEq] at H
  obtain ⟨rfl, rfl⟩ := H
  go_enter Tryz.func20, Tryz.ntmps20
  go_wp2_with (first | (go_at_call 34; (with_reducible refine (barscanref11_complete.calls k 3 a0 t615 _ A2.out).mono ?_); rintro e w102 ⟨rfl, hb⟩; replace HB := Aside0.mk (below_step bw hb); clear hb))
  repeat (go_quiet (first | (go_at_call 34; (with_reducible refine (barscanref11_complete.calls k 3 a0 t615 _ A2.out).mono ?_); rintro e w102 ⟨rfl, hb⟩; replace HB := Aside0.mk (below_step bw hb); clear hb)); try go_wp2_with (first | (go_at_call 34; (with_reducible refine (barscanref11_complete.calls k 3 a0 t615 _ A2.out).mono ?_); rintro e w102 ⟨rfl, hb⟩; replace HB := Aside0.mk (below_step bw hb); clear hb)))
  go_ret2
  exact ⟨es, bw⟩
 have c3b0 : (t615 == 0) = true := beq_iff_eq.mpr c3
 have c3b1 : (t615 != 0) = false := bne_eq_false_iff_eq.mpr c3
 clear c3
 have H' := Aside0.mk H
 clear H
 go_enter Tryz.func20, Tryz.ntmps20
 go_wp2_with (first | (go_at_call 34; (with_reducible refine (barscanref11_complete.calls k 3 a0 t615 _ A2.out).mono ?_); rintro e w4 ⟨rfl, hb⟩; replace HB := Aside0.mk (below_step bw hb); clear hb))
 repeat (go_quiet (first | (go_at_call 34; (with_reducible refine (barscanref11_complete.calls k 3 a0 t615 _ A2.out).mono ?_); rintro e w4 ⟨rfl, hb⟩; replace HB := Aside0.mk (below_step bw hb); clear hb)); try go_wp2_with (first | (go_at_call 34; (with_reducible refine (barscanref11_complete.calls k 3 a0 t615 _ A2.out).mono ?_); rintro e w4 ⟨rfl, hb⟩; replace HB := Aside0.mk (below_step bw hb); clear hb)))
 go_loopg [5] k (fun kq v5 w' => ∃ (x5_1 : Int), v5 = .int .u8 x5_1 ∧ Aside0 (barscanref11_Compress.l0 kq a0 x5_1 = some (r1, r2)) ∧ Aside0 (kq ≤ k) ∧ Aside0 (Below w.heap.size w w'))
 case atStart => exact ⟨(48), rs, H', ⟨Nat.le_refl _⟩, ⟨bw⟩⟩
 case round =>
  clear H'
  obtain ⟨x5_1, rfl, HA, HK1, HB⟩ := hrel
  cases gk with
  | zero => exact absurd HA.out (by simp [barscanref11_Compress.l0])
  | succ k1 =>
   have H := HA.out
   clear HA
   simp only [barscanref11_Compress.l0] at H
   replace H := ifc H
   obtain ⟨c5, H⟩ | ⟨c5, H⟩ := H
   rotate_left
   ·have c5b0 : decide (x5_1 ≤ 57) = false := decide_eq_false c5
    clear c5
    simp only [Option.some.injEq, Prod.mk.injEq] at H
    obtain ⟨rfl, rfl⟩ := H
    go_wp2
    repeat (go_quiet (fail); try go_wp2)
    go_ret2
    exact ⟨es, bw⟩
   have c5b0 : decide (x5_1 ≤ 57) = true := decide_eq_true c5
   clear c5
   obtain ⟨y616, hy616⟩ : ∃ y_ : List Int, y_ = (([x5_1] : List Int)) := ⟨_, rfl⟩
   replace H : (if 0 ≤ 3 then (if 3 ≤ (a0.size : Int) then (if 8 ≤ 11 then (if 11 ≤ (a0.size : Int) then (if (a0.extract 0 3).size + (a0.extract 8 11).size ≤ 9223372036854775807 then (if ((a0.extract 0 3) ++ (a0.extract 8 11)).size + (strOfNums y616).size ≤ 9223372036854775807 then (if x5_1 = 51 then (if 0 ≤ 4 then (if 4 ≤ (a0.size : Int) then (if 9 ≤ 11 then (if (a0.extract 0 4).size + (a0.extract 9 11).size ≤ 9223372036854775807 then (if ((a0.extract 0 4) ++ (a0.extract 9 11)).size + (strOfNums y616).size ≤ 9223372036854775807 then (if 0 < ((((a0.extract 0 4) ++ (a0.extract 9 11)) ++ (strOfNums y616)).size : Int) then (if (bt (((a0.extract 0 4) ++ (a0.extract 9 11)) ++ (strOfNums y616)) 0) ≤ 49 then ((barscanref11_expand.f k1 (((a0.extract 0 4) ++ (a0.extract 9 11)) ++ (strOfNums y616))).bind fun t619 => (if 0 ≤ 11 then (if t619.toList = (a0.extract 0 11).toList then (if (((a0.extract 0 4) ++ (a0.extract 9 11)) ++ (strOfNums y616)).size + (a0.extract 11 a0.size).size ≤ 9223372036854775807 then (some ((((a0.extract 0 4) ++ (a0.extract 9 11)) ++ (strOfNums y616)) ++ (a0.extract 11 a0.size), 0)) else (none)) else (barscanref11_Compress.l0 k1 a0 ((x5_1 + 1) % 256))) else (none))) else (barscanref11_Compress.l0 k1 a0 ((x5_1 + 1) % 256))) else (none)) else (none)) else (none)) else (none)) else (none)) else (none)) else (if x5_1 = 52 then (if 0 ≤ 5 then (if 5 ≤ (a0.size : Int) then (if 10 ≤ 11 then (if (a0.extract 0 5).size + (a0.extract 10 11).size ≤ 9223372036854775807 then (if ((a0.extract 0 5) ++ (a0.extract 10 11)).size + (strOfNums y616).size ≤ 9223372036854775807 then (if 0 < ((((a0.extract 0 5) ++ (a0.extract 10 11)) ++ (strOfNums y616)).size : Int) then (if (bt (((a0.extract 0 5) ++ (a0.extract 10 11)) ++ (strOfNums y616)) 0) ≤ 49 then ((barscanref11_expand.f k1 (((a0.extract 0 5) ++ (a0.extract 10 11)) ++ (strOfNums y616))).bind fun t620 => (if 0 ≤ 11 then (if t620.toList = (a0.extract 0 11).toList then (if (((a0.extract 0 5) ++ (a0.extract 10 11)) ++ (strOfNums y616)).size + (a0.extract 11 a0.size).size ≤ 9223372036854775807 then (some ((((a0.extract 0 5) ++ (a0.extract 10 11)) ++ (strOfNums y616)) ++ (a0.extract 11 a0.size), 0)) else (none)) else (barscanref11_Compress.l0 k1 a0 ((x5_1 + 1) % 256))) else (none))) else (barscanref11_Compress.l0 k1 a0 ((x5_1 + 1) % 256))) else (none)) else (none)) else (none)) else (none)) else (none)) else (none)) else (if x5_1 > 52 then (if 0 ≤ 6 then (if 6 ≤ (a0.size : Int) then (if (a0.extract 0 6).size + (strOfNums y616).size ≤ 9223372036854775807 then (if 0 < (((a0.extract 0 6) ++ (strOfNums y616)).size : Int) then (if (bt ((a0.extract 0 6) ++ (strOfNums y616)) 0) ≤ 49 then ((barscanref11_expand.f k1 ((a0.extract 0 6) ++ (strOfNums y616))).bind fun t621 => (if 0 ≤ 11 then (if t621.toList = (a0.extract 0 11).toList then (if ((a0.extract 0 6) ++ (strOfNums y616)).size + (a0.extract 11 a0.size).size ≤ 9223372036854775807 then (some (((a0.extract 0 6) ++ (strOfNums y616)) ++ (a0.extract 11 a0.size), 0)) else (none)) else (barscanref11_Compress.l0 k1 a0 ((x5_1 + 1) % 256))) else (none))) else (barscanref11_Compress.l0 k1 a0 ((x5_1 + 1) % 256))) else (none)) else (none)) else (none)) else (none)) else (if 0 < ((((a0.extract 0 3) ++ (a0.extract 8 11)) ++ (strOfNums y616)).size : Int) then (if (bt (((a0.extract 0 3) ++ (a0.extract 8 11)) ++ (strOfNums y616)) 0) ≤ 49 then ((barscanref11_expand.f k1 (((a0.extract 0 3) ++ (a0.extract 8 11)) ++ (strOfNums y616))).bind fun t622 => (if 0 ≤ 11 then (if t622.toList = (a0.extract 0 11).toList then (if (((a0.extract 0 3) ++ (a0.extract 8 11)) ++ (strOfNums y616)).size + (a0.extract 11 a0.size).size ≤ 9223372036854775807 then (some ((((a0.extract 0 3) ++ (a0.extract 8 11)) ++ (strOfNums y616)) ++ (a0.extract 11 a0.size), 0)) else (none)) else (barscanref11_Compress.l0 k1 a0 ((x5_1 + 1) % 256))) else (none))) else (barscanref11_Compress.l0 k1 a0 ((x5_1 + 1) % 256))) else (none))))) else (none)) else (none)) else (none)) else (none)) else (none)) else (none)) = some (r1, r2) := by first | (rw [hy616]; with_reducible exact H) | (have H2_ := (Option.bind_some _ _).symm.trans H; rw [hy616]; with_reducible exact H2_) | (have H2_ := (Option.bind_some _ _).symm.trans H; with_reducible exact H2_) | with_reducible exact H | (rw [hy616]; exact H) | exact H
   have Ny616 := Aside0.mk hy616
   clear hy616
   replace H := ifn H
   obtain ⟨c6, H⟩ := H
   have c6b0 := eq_true c6
   try have c6b0s := s1 c6b0
   have c6b1 : decide (0 ≤ 3) = true := decide_eq_true c6
   clear c6
   by_cases c7 : 3 ≤ (a0.size : Int)
   rotate_left
   ·rw [if_neg c7] at H
    exact absurd H (by simp)
   rw [if_pos c7] at H
   have c7b0 := eq_true c7
   try have c7b0s := s1 c7b0
   have c7b1 : decide (3 ≤ (a0.size : Int)) = true := decide_eq_true c7
   clear c7
   replace H := ifn H
   obtain ⟨c8, H⟩ := H
   have c8b0 := eq_true c8
   try have c8b0s := s1 c8b0
   have c8b1 : decide (8 ≤ 11) = true := decide_eq_true c8
   clear c8
   by_cases c9 : 11 ≤ (a0.size : Int)
   rotate_left
   ·rw [if_neg c9] at H
    exact absurd H (by simp)
   rw [if_pos c9] at H
   have c9b0 := eq_true c9
   try have c9b0s := s1 c9b0
   have c9b1 : decide (11 ≤ (a0.size : Int)) = true := decide_eq_true c9
   clear c9
   replace H := ifn H
   obtain ⟨c10, H⟩ := H
   have c10b0 := eq_true c10
   try have c10b0s := s1 c10b0
   have c10b1 : decide ((a0.extract 0 3).size + (a0.extract 8 11).size ≤ 9223372036854775807) = true := decide_eq_true c10
   try have c10b1s := s4 c10b1
   try have c10b1t := s3 c10b1
   try have c10b2 : (9223372036854775807 < (a0.extract 0 3).size + (a0.extract 8 11).size) = False := eq_false (Nat.not_lt.2 c10)
   try have c10b2s := s2 c10b2
   by_cases c11 : ((a0.extract 0 3) ++ (a0.extract 8 11)).size + (strOfNums y616).size ≤ 9223372036854775807
   rotate_left
   ·rw [if_neg c11] at H
    exact absurd H (by simp)
   rw [if_pos c11] at H
   have c11b0 := eq_true c11
   try have c11b0s := s1 c11b0
   have c11b1 : decide (((a0.extract 0 3) ++ (a0.extract 8 11)).size + (strOfNums y616).size ≤ 9223372036854775807) = true := decide_eq_true c11
   try have c11b1s := s4 c11b1
   try have c11b1t := s3 c11b1
   try have c11b2 : (9223372036854775807 < ((a0.extract 0 3) ++ (a0.extract 8 11)).size + (strOfNums y616).size) = False := eq_false (Nat.not_lt.2 c11)
   try have c11b2s := s2 c11b2
   replace H := ifc H
   obtain ⟨c12, H⟩ | ⟨c12, H⟩ := H
   ·have c12b0 : (x5_1 == 51) = true := beq_iff_eq.mpr c12
    have c12b1 : (x5_1 != 51) = false := bne_eq_false_iff_eq.mpr c12
    clear c12
    replace H := ifn H
    obtain ⟨c13, H⟩ := H
    have c13b0 := eq_true c13
    try have c13b0s := s1 c13b0
    have c13b1 : decide (0 ≤ 4) = true := decide_eq_true c13
    clear c13
    by_cases c14 : 4 ≤ (a0.size : Int)
    rotate_left
    ·rw [if_neg c14] at H
     exact absurd H (by simp)
    rw [if_pos c14] at H
    have c14b0 := eq_true c14
    try have c14b0s := s1 c14b0
    have c14b1 : decide (4 ≤ (a0.size : Int)) = true := decide_eq_true c14
    clear c14
    replace H := ifn H
    obtain ⟨c15, H⟩ := H
    have c15b0 := eq_true c15
    try have c15b0s := s1 c15b0
    have c15b1 : decide (9 ≤ 11) = true := decide_eq_true c15
    clear c15
    have c16b0 := eq_true (of_decide_eq_true am : 11 ≤ (a0.size : Int))
    try have c16b0s := s1 c16b0
    by_cases c17 : (a0.extract 0 4).size + (a0.extract 9 11).size ≤ 9223372036854775807
    rotate_left
    ·rw [if_neg c17] at H
     exact absurd H (by simp)
    rw [if_pos c17] at H
    have c17b0 := eq_true c17
    try have c17b0s := s1 c17b0
    have c17b1 : decide ((a0.extract 0 4).size + (a0.extract 9 11).size ≤ 9223372036854775807) = true := decide_eq_true c17
    try have c17b1s := s4 c17b1
    try have c17b1t := s3 c17b1
    try have c17b2 : (9223372036854775807 < (a0.extract 0 4).size + (a0.extract 9 11).size) = False := eq_false (Nat.not_lt.2 c17)
    try have c17b2s := s2 c17b2
    replace H := ifn H
    obtain ⟨c18, H⟩ := H
    have c18b0 := eq_true c18
    try have c18b0s := s1 c18b0
    have c18b1 : decide (((a0.extract 0 4) ++ (a0.extract 9 11)).size + (strOfNums y616).size ≤ 9223372036854775807) = true := decide_eq_true c18
    try have c18b1s := s4 c18b1
    try have c18b1t := s3 c18b1
    try have c18b2 : (9223372036854775807 < ((a0.extract 0 4) ++ (a0.extract 9 11)).size + (strOfNums y616).size) = False := eq_false (Nat.not_lt.2 c18)
    try have c18b2s := s2 c18b2
    by_cases c19 : 0 < ((((a0.extract 0 4) ++ (a0.extract 9 11)) ++ (strOfNums y616)).size : Int)
    rotate_left
    ·rw [if_neg c19] at H
     exact absurd H (by simp)
    rw [if_pos c19] at H
    have c19b0 : decide (0 < ((((a0.extract 0 4) ++ (a0.extract 9 11)) ++ (strOfNums y616)).size : Int)) = true := decide_eq_true c19
    try have c19b0s := s4 c19b0
    try have c19b0t := s3 c19b0
    have c19b1 : decide (0 < (((a0.extract 0 4) ++ (a0.extract 9 11)) ++ (strOfNums y616)).size) = true := decide_eq_true om
    try have c19b1s := s4 c19b1
    try have c19b1t := s3 c19b1
    clear c19
    replace H := ifc H
    obtain ⟨c21, H⟩ | ⟨c21, H⟩ := H
    rotate_left
    ·have c21b0 : decide ((bt (((a0.extract 0 4) ++ (a0.extract 9 11)) ++ (strOfNums y616)) 0) ≤ 49) = false := decide_eq_false c21
     clear c21
     have H' := Aside0.mk H
     clear H
     go_wp2_with (first | ((with_reducible refine gate_dst (N := 18) rfl ?_); refine Kd.R_lit (Kd.int .u8) _ 5 ?hg (N := 18) ?hd (xs := ([x5_1] : List Int)) (inner := [.int .u8 x5_1]) (ok := fun _ => True) (okp := fun _ => True) ?hr ?hp (fun _ hk => hk) trivial (Below.refl _ _) (Nat.le_refl _) (by simp) ?_; (case hd => rfl); (case hg => rfl); (case hr => first | (go_simp; done) | (go_simp; rfl)); (case hp => exact (Reps.one (show Kd.M (Kd.int .u8) _ _ _ x5_1 [.int .u8 x5_1] from rfl) (Reps.none _ _))); intro v617 w34 ho35 hb hg_ hnew_; clear hg_ hnew_; (first | rw [← Ny616.out] at ho35 | (simp only [Int.reduceToNat] at ho35; rw [← Ny616.out] at ho35)); have n0_ := Aside0.mk (Kd.R_lower ho35 (below_size bw)); have n1_ := Aside0.mk (below_step bw hb); clear HB; have HO618 := n0_; have HB := n1_; clear n0_ n1_; clear hb ho35; have hcv36 := own_string (P := Tryz.prog) Tryz.underlying40 Tryz.underlying5 Tryz.underlying9 (Kd.own_of_R HO618.out); have p20 : 0 ≤ (0 : Int) := om; have q20 : 0 < (((a0.extract 0 4) ++ (a0.extract 9 11)) ++ (strOfNums y616)).size := (by have : (0 : Int) < ((((a0.extract 0 4) ++ (a0.extract 9 11)) ++ (strOfNums y616)).size : Int) := of_decide_eq_true am; omega); have hx20 : ∀ h : 0 < (((a0.extract 0 4) ++ (a0.extract 9 11)) ++ (strOfNums y616)).size, (((((a0.extract 0 4) ++ (a0.extract 9 11)) ++ (strOfNums y616))[0]'h).toNat : Int) = bt (((a0.extract 0 4) ++ (a0.extract 9 11)) ++ (strOfNums y616)) 0 := bt_at (((a0.extract 0 4) ++ (a0.extract 9 11)) ++ (strOfNums y616)) 0; clear p20; have qi20 : (0 < ((((a0.extract 0 4) ++ (a0.extract 9 11)) ++ (strOfNums y616)).size : Int)) = True := eq_true (of_decide_eq_true am); replace q20 := eq_true q20))
     repeat (go_quiet (first | ((with_reducible refine gate_dst (N := 18) rfl ?_); refine Kd.R_lit (Kd.int .u8) _ 5 ?hg (N := 18) ?hd (xs := ([x5_1] : List Int)) (inner := [.int .u8 x5_1]) (ok := fun _ => True) (okp := fun _ => True) ?hr ?hp (fun _ hk => hk) trivial (Below.refl _ _) (Nat.le_refl _) (by simp) ?_; (case hd => rfl); (case hg => rfl); (case hr => first | (go_simp; done) | (go_simp; rfl)); (case hp => exact (Reps.one (show Kd.M (Kd.int .u8) _ _ _ x5_1 [.int .u8 x5_1] from rfl) (Reps.none _ _))); intro v617 w34 ho35 hb hg_ hnew_; clear hg_ hnew_; (first | rw [← Ny616.out] at ho35 | (simp only [Int.reduceToNat] at ho35; rw [← Ny616.out] at ho35)); have n0_ := Aside0.mk (Kd.R_lower ho35 (below_size bw)); have n1_ := Aside0.mk (below_step bw hb); clear HB; have HO618 := n0_; have HB := n1_; clear n0_ n1_; clear hb ho35; have hcv36 := own_string (P := Tryz.prog) Tryz.underlying40 Tryz.underlying5 Tryz.underlying9 (Kd.own_of_R HO618.out); have p20 : 0 ≤ (0 : Int) := om; have q20 : 0 < (((a0.extract 0 4) ++ (a0.extract 9 11)) ++ (strOfNums y616)).size := (by have : (0 : Int) < ((((a0.extract 0 4) ++ (a0.extract 9 11)) ++ (strOfNums y616)).size : Int) := of_decide_eq_true am; omega); have hx20 : ∀ h : 0 < (((a0.extract 0 4) ++ (a0.extract 9 11)) ++ (strOfNums y616)).size, (((((a0.extract 0 4) ++ (a0.extract 9 11)) ++ (strOfNums y616))[0]'h).toNat : Int) = bt (((a0.extract 0 4) ++ (a0.extract 9 11)) ++ (strOfNums y616)) 0 := bt_at (((a0.extract 0 4) ++ (a0.extract 9 11)) ++ (strOfNums y616)) 0; clear p20; have qi20 : (0 < ((((a0.extract 0 4) ++ (a0.extract 9 11)) ++ (strOfNums y616)).size : Int)) = True := eq_true (of_decide_eq_true am); replace q20 := eq_true q20)); try go_wp2_with (first | ((with_reducible refine gate_dst (N := 18) rfl ?_); refine Kd.R_lit (Kd.int .u8) _ 5 ?hg (N := 18) ?hd (xs := ([x5_1] : List Int)) (inner := [.int .u8 x5_1]) (ok := fun _ => True) (okp := fun _ => True) ?hr ?hp (fun _ hk => hk) trivial (Below.refl _ _) (Nat.le_refl _) (by simp) ?_; (case hd => rfl); (case hg => rfl); (case hr => first | (go_simp; done) | (go_simp; rfl)); (case hp => exact (Reps.one (show Kd.M (Kd.int .u8) _ _ _ x5_1 [.int .u8 x5_1] from rfl) (Reps.none _ _))); intro v617 w34 ho35 hb hg_ hnew_; clear hg_ hnew_; (first | rw [← Ny616.out] at ho35 | (simp only [Int.reduceToNat] at ho35; rw [← Ny616.out] at ho35)); have n0_ := Aside0.mk (Kd.R_lower ho35 (below_size bw)); have n1_ := Aside0.mk (below_step bw hb); clear HB; have HO618 := n0_; have HB := n1_; clear n0_ n1_; clear hb ho35; have hcv36 := own_string (P := Tryz.prog) Tryz.underlying40 Tryz.underlying5 Tryz.underlying9 (Kd.own_of_R HO618.out); have p20 : 0 ≤ (0 : Int) := om; have q20 : 0 < (((a0.extract 0 4) ++ (a0.extract 9 11)) ++ (strOfNums y616)).size := (by have : (0 : Int) < ((((a0.extract 0 4) ++ (a0.extract 9 11)) ++ (strOfNums y616)).size : Int) := of_decide_eq_true am; omega); have hx20 : ∀ h : 0 < (((a0.extract 0 4) ++ (a0.extract 9 11)) ++ (strOfNums y616)).size, (((((a0.extract 0 4) ++ (a0.extract 9 11)) ++ (strOfNums y616))[0]'h).toNat : Int) = bt (((a0.extract 0 4) ++ (a0.extract 9 11)) ++ (strOfNums y616)) 0 := bt_at (((a0.extract 0 4) ++ (a0.extract 9 11)) ++ (strOfNums y616)) 0; clear p20; have qi20 : (0 < ((((a0.extract 0 4) ++ (a0.extract 9 11)) ++ (strOfNums y616)).size : Int)) = True := eq_true (of_decide_eq_true am); replace q20 := eq_true q20)))
     go_roundg k1
     case measure => have := HK1.out; omega
     case rel => exact ⟨((x5_1 + 1) % 256), rs, H', ⟨by have := HK1.out; omega⟩, ⟨bw⟩⟩
    have c21b0 : decide ((bt (((a0.extract 0 4) ++ (a0.extract 9 11)) ++ (strOfNums y616)) 0) ≤ 49) = true := decide_eq_true c21
    clear c21
    replace H := bd H
    obtain ⟨t619, A22, H⟩ := H
    replace H := ifn H
    obtain ⟨c23, H⟩ := H
    have c23b0 := eq_true c23
    try have c23b0s := s1 c23b0
    have c23b1 : decide (0 ≤ 11) = true := decide_eq_true c23
    clear c23
    have c24b0 := eq_true (of_decide_eq_true am : 11 ≤ (a0.size : Int))
    try have c24b0s := s1 c24b0
    by_cases c25 : t619.toList = (a0.extract 0 11).toList
    rotate_left
    ·rw [if_neg c25] at H
     have c25b0 : (t619.toList == (a0.extract 0 11).toList) = false := beq_eq_false_iff_ne.mpr c25
     have c25b1 : (t619.toList != (a0.extract 0 11).toList) = true := bne_iff_ne.mpr c25
     have H' := Aside0.mk H
     clear H
     go_wp2_with (first | ((with_reducible refine gate_dst (N := 18) rfl ?_); refine Kd.R_lit (Kd.int .u8) _ 5 ?hg (N := 18) ?hd (xs := ([x5_1] : List Int)) (inner := [.int .u8 x5_1]) (ok := fun _ => True) (okp := fun _ => True) ?hr ?hp (fun _ hk => hk) trivial (Below.refl _ _) (Nat.le_refl _) (by simp) ?_; (case hd => rfl); (case hg => rfl); (case hr => first | (go_simp; done) | (go_simp; rfl)); (case hp => exact (Reps.one (show Kd.M (Kd.int .u8) _ _ _ x5_1 [.int .u8 x5_1] from rfl) (Reps.none _ _))); intro v617 w31 ho32 hb hg_ hnew_; clear hg_ hnew_; (first | rw [← Ny616.out] at ho32 | (simp only [Int.reduceToNat] at ho32; rw [← Ny616.out] at ho32)); have n0_ := Aside0.mk (Kd.R_lower ho32 (below_size bw)); have n1_ := Aside0.mk (below_step bw hb); clear HB; have HO618 := n0_; have HB := n1_; clear n0_ n1_; clear hb ho32; have hcv33 := own_string (P := Tryz.prog) Tryz.underlying40 Tryz.underlying5 Tryz.underlying9 (Kd.own_of_R HO618.out); have p20 : 0 ≤ (0 : Int) := om; have q20 : 0 < (((a0.extract 0 4) ++ (a0.extract 9 11)) ++ (strOfNums y616)).size := (by have : (0 : Int) < ((((a0.extract 0 4) ++ (a0.extract 9 11)) ++ (strOfNums y616)).size : Int) := of_decide_eq_true am; omega); have hx20 : ∀ h : 0 < (((a0.extract 0 4) ++ (a0.extract 9 11)) ++ (strOfNums y616)).size, (((((a0.extract 0 4) ++ (a0.extract 9 11)) ++ (strOfNums y616))[0]'h).toNat : Int) = bt (((a0.extract 0 4) ++ (a0.extract 9 11)) ++ (strOfNums y616)) 0 := bt_at (((a0.extract 0 4) ++ (a0.extract 9 11)) ++ (strOfNums y616)) 0; clear p20; have qi20 : (0 < ((((a0.extract 0 4) ++ (a0.extract 9 11)) ++ (strOfNums y616)).size : Int)) = True := eq_true (of_decide_eq_true am); replace q20 := eq_true q20) | (go_at_call 52; (with_reducible refine (barscanref11_expand.calls k1 (((a0.extract 0 4) ++ (a0.extract 9 11)) ++ (strOfNums y616)) t619 _ A22.out).mono ?_); rintro e w' ⟨rfl, ⟨nd, rfl⟩⟩; (try first | exact ⟨rfl, _, World.drewN_drewN _ _ _⟩ | exact ⟨rfl, _, Eq.trans (World.drewN_drewN _ _ _) (congrArg (World.drewN _) (Nat.add_assoc _ _ _))⟩)))
     repeat (go_quiet (first | ((with_reducible refine gate_dst (N := 18) rfl ?_); refine Kd.R_lit (Kd.int .u8) _ 5 ?hg (N := 18) ?hd (xs := ([x5_1] : List Int)) (inner := [.int .u8 x5_1]) (ok := fun _ => True) (okp := fun _ => True) ?hr ?hp (fun _ hk => hk) trivial (Below.refl _ _) (Nat.le_refl _) (by simp) ?_; (case hd => rfl); (case hg => rfl); (case hr => first | (go_simp; done) | (go_simp; rfl)); (case hp => exact (Reps.one (show Kd.M (Kd.int .u8) _ _ _ x5_1 [.int .u8 x5_1] from rfl) (Reps.none _ _))); intro v617 w31 ho32 hb hg_ hnew_; clear hg_ hnew_; (first | rw [← Ny616.out] at ho32 | (simp only [Int.reduceToNat] at ho32; rw [← Ny616.out] at ho32)); have n0_ := Aside0.mk (Kd.R_lower ho32 (below_size bw)); have n1_ := Aside0.mk (below_step bw hb); clear HB; have HO618 := n0_; have HB := n1_; clear n0_ n1_; clear hb ho32; have hcv33 := own_string (P := Tryz.prog) Tryz.underlying40 Tryz.underlying5 Tryz.underlying9 (Kd.own_of_R HO618.out); have p20 : 0 ≤ (0 : Int) := om; have q20 : 0 < (((a0.extract 0 4) ++ (a0.extract 9 11)) ++ (strOfNums y616)).size := (by have : (0 : Int) < ((((a0.extract 0 4) ++ (a0.extract 9 11)) ++ (strOfNums y616)).size : Int) := of_decide_eq_true am; omega); have hx20 : ∀ h : 0 < (((a0.extract 0 4) ++ (a0.extract 9 11)) ++ (strOfNums y616)).size, (((((a0.extract 0 4) ++ (a0.extract 9 11)) ++ (strOfNums y616))[0]'h).toNat : Int) = bt (((a0.extract 0 4) ++ (a0.extract 9 11)) ++ (strOfNums y616)) 0 := bt_at (((a0.extract 0 4) ++ (a0.extract 9 11)) ++ (strOfNums y616)) 0; clear p20; have qi20 : (0 < ((((a0.extract 0 4) ++ (a0.extract 9 11)) ++ (strOfNums y616)).size : Int)) = True := eq_true (of_decide_eq_true am); replace q20 := eq_true q20) | (go_at_call 52; (with_reducible refine (barscanref11_expand.calls k1 (((a0.extract 0 4) ++ (a0.extract 9 11)) ++ (strOfNums y616)) t619 _ A22.out).mono ?_); rintro e w' ⟨rfl, ⟨nd, rfl⟩⟩; (try first | exact ⟨rfl, _, World.drewN_drewN _ _ _⟩ | exact ⟨rfl, _, Eq.trans (World.drewN_drewN _ _ _) (congrArg (World.drewN _) (Nat.add_assoc _ _ _))⟩))); try go_wp2_with (first | ((with_reducible refine gate_dst (N := 18) rfl ?_); refine Kd.R_lit (Kd.int .u8) _ 5 ?hg (N := 18) ?hd (xs := ([x5_1] : List Int)) (inner := [.int .u8 x5_1]) (ok := fun _ => True) (okp := fun _ => True) ?hr ?hp (fun _ hk => hk) trivial (Below.refl _ _) (Nat.le_refl _) (by simp) ?_; (case hd => rfl); (case hg => rfl); (case hr => first | (go_simp; done) | (go_simp; rfl)); (case hp => exact (Reps.one (show Kd.M (Kd.int .u8) _ _ _ x5_1 [.int .u8 x5_1] from rfl) (Reps.none _ _))); intro v617 w31 ho32 hb hg_ hnew_; clear hg_ hnew_; (first | rw [← Ny616.out] at ho32 | (simp only [Int.reduceToNat] at ho32; rw [← Ny616.out] at ho32)); have n0_ := Aside0.mk (Kd.R_lower ho32 (below_size bw)); have n1_ := Aside0.mk (below_step bw hb); clear HB; have HO618 := n0_; have HB := n1_; clear n0_ n1_; clear hb ho32; have hcv33 := own_string (P := Tryz.prog) Tryz.underlying40 Tryz.underlying5 Tryz.underlying9 (Kd.own_of_R HO618.out); have p20 : 0 ≤ (0 : Int) := om; have q20 : 0 < (((a0.extract 0 4) ++ (a0.extract 9 11)) ++ (strOfNums y616)).size := (by have : (0 : Int) < ((((a0.extract 0 4) ++ (a0.extract 9 11)) ++ (strOfNums y616)).size : Int) := of_decide_eq_true am; omega); have hx20 : ∀ h : 0 < (((a0.extract 0 4) ++ (a0.extract 9 11)) ++ (strOfNums y616)).size, (((((a0.extract 0 4) ++ (a0.extract 9 11)) ++ (strOfNums y616))[0]'h).toNat : Int) = bt (((a0.extract 0 4) ++ (a0.extract 9 11)) ++ (strOfNums y616)) 0 := bt_at (((a0.extract 0 4) ++ (a0.extract 9 11)) ++ (strOfNums y616)) 0; clear p20; have qi20 : (0 < ((((a0.extract 0 4) ++ (a0.extract 9 11)) ++ (strOfNums y616)).size : Int)) = True := eq_true (of_decide_eq_true am); replace q20 := eq_true q20) | (go_at_call 52; (with_reducible refine (barscanref11_expand.calls k1 (((a0.extract 0 4) ++ (a0.extract 9 11)) ++ (strOfNums y616)) t619 _ A22.out).mono ?_); rintro e w' ⟨rfl, ⟨nd, rfl⟩⟩; (try first | exact ⟨rfl, _, World.drewN_drewN _ _ _⟩ | exact ⟨rfl, _, Eq.trans (World.drewN_drewN _ _ _) (congrArg (World.drewN _) (Nat.add_assoc _ _ _))⟩))))
     go_roundg k1
     case measure => have := HK1.out; omega
     case rel => exact ⟨((x5_1 + 1) % 256), rs, H', ⟨by have := HK1.out; omega⟩, ⟨bw⟩⟩
    rw [if_pos c25] at H
    have c25b0 : (t619.toList == (a0.extract 0 11).toList) = true := beq_iff_eq.mpr c25
    have c25b1 : (t619.toList != (a0.extract 0 11).toList) = false := bne_eq_false_iff_eq.mpr c25
    clear c25
    have c26b0 := eq_true (of_decide_eq_true am : 11 ≤ (a0.size : Int))
    try have c26b0s := s1 c26b0
    replace H := ifn H
    obtain ⟨c27, H⟩ := H
    have c27b0 := eq_true c27
    try have c27b0s := s1 c27b0
    have c27b1 : decide ((((a0.extract 0 4) ++ (a0.extract 9 11)) ++ (strOfNums y616)).size + (a0.extract 11 a0.size).size ≤ 9223372036854775807) = true := decide_eq_true c27
    try have c27b1s := s4 c27b1
    try have c27b1t := s3 c27b1
    try have c27b2 : (9223372036854775807 < (((a0.extract 0 4) ++ (a0.extract 9 11)) ++ (strOfNums y616)).size + (a0.extract 11 a0.size).size) = False := eq_false (Nat.not_lt.2 c27)
    try have c27b2s := s2 c27b2
    simp only [Option.some.injEq, Prod.mk.injEq] at H
    obtain ⟨rfl, rfl⟩ := H
    go_wp2_with (first | ((with_reducible refine gate_dst (N := 18) rfl ?_); refine Kd.R_lit (Kd.int .u8) _ 5 ?hg (N := 18) ?hd (xs := ([x5_1] : List Int)) (inner := [.int .u8 x5_1]) (ok := fun _ => True) (okp := fun _ => True) ?hr ?hp (fun _ hk => hk) trivial (Below.refl _ _) (Nat.le_refl _) (by simp) ?_; (case hd => rfl); (case hg => rfl); (case hr => first | (go_simp; done) | (go_simp; rfl)); (case hp => exact (Reps.one (show Kd.M (Kd.int .u8) _ _ _ x5_1 [.int .u8 x5_1] from rfl) (Reps.none _ _))); intro v617 w28 ho29 hb hg_ hnew_; clear hg_ hnew_; (first | rw [← Ny616.out] at ho29 | (simp only [Int.reduceToNat] at ho29; rw [← Ny616.out] at ho29)); have n0_ := Aside0.mk (Kd.R_lower ho29 (below_size bw)); have n1_ := Aside0.mk (below_step bw hb); clear HB; have HO618 := n0_; have HB := n1_; clear n0_ n1_; clear hb ho29; have hcv30 := own_string (P := Tryz.prog) Tryz.underlying40 Tryz.underlying5 Tryz.underlying9 (Kd.own_of_R HO618.out); have p20 : 0 ≤ (0 : Int) := om; have q20 : 0 < (((a0.extract 0 4) ++ (a0.extract 9 11)) ++ (strOfNums y616)).size := (by have : (0 : Int) < ((((a0.extract 0 4) ++ (a0.extract 9 11)) ++ (strOfNums y616)).size : Int) := of_decide_eq_true am; omega); have hx20 : ∀ h : 0 < (((a0.extract 0 4) ++ (a0.extract 9 11)) ++ (strOfNums y616)).size, (((((a0.extract 0 4) ++ (a0.extract 9 11)) ++ (strOfNums y616))[0]'h).toNat : Int) = bt (((a0.extract 0 4) ++ (a0.extract 9 11)) ++ (strOfNums y616)) 0 := bt_at (((a0.extract 0 4) ++ (a0.extract 9 11)) ++ (strOfNums y616)) 0; clear p20; have qi20 : (0 < ((((a0.extract 0 4) ++ (a0.extract 9 11)) ++ (strOfNums y616)).size : Int)) = True := eq_true (of_decide_eq_true am); replace q20 := eq_true q20) | (go_at_call 52; (with_reducible refine (barscanref11_expand.calls k1 (((a0.extract 0 4) ++ (a0.extract 9 11)) ++ (strOfNums y616)) t619 _ A22.out).mono ?_); rintro e w' ⟨rfl, ⟨nd, rfl⟩⟩; (try first | exact ⟨rfl, _, World.drewN_drewN _ _ _⟩ | exact ⟨rfl, _, Eq.trans (World.drewN_drewN _ _ _) (congrArg (World.drewN _) (Nat.add_assoc _ _ _))⟩)))
    repeat (go_quiet (first | ((with_reducible refine gate_dst (N := 18) rfl ?_); refine Kd.R_lit (Kd.int .u8) _ 5 ?hg (N := 18) ?hd (xs := ([x5_1] : List Int)) (inner := [.int .u8 x5_1]) (ok := fun _ => True) (okp := fun _ => True) ?hr ?hp (fun _ hk => hk) trivial (Below.refl _ _) (Nat.le_refl _) (by simp) ?_; (case hd => rfl); (case hg => rfl); (case hr => first | (go_simp; done) | (go_simp; rfl)); (case hp => exact (Reps.one (show Kd.M (Kd.int .u8) _ _ _ x5_1 [.int .u8 x5_1] from rfl) (Reps.none _ _))); intro v617 w28 ho29 hb hg_ hnew_; clear hg_ hnew_; (first | rw [← Ny616.out] at ho29 | (simp only [Int.reduceToNat] at ho29; rw [← Ny616.out] at ho29)); have n0_ := Aside0.mk (Kd.R_lower ho29 (below_size bw)); have n1_ := Aside0.mk (below_step bw hb); clear HB; have HO618 := n0_; have HB := n1_; clear n0_ n1_; clear hb ho29; have hcv30 := own_string (P := Tryz.prog) Tryz.underlying40 Tryz.underlying5 Tryz.underlying9 (Kd.own_of_R HO618.out); have p20 : 0 ≤ (0 : Int) := om; have q20 : 0 < (((a0.extract 0 4) ++ (a0.extract 9 11)) ++ (strOfNums y616)).size := (by have : (0 : Int) < ((((a0.extract 0 4) ++ (a0.extract 9 11)) ++ (strOfNums y616)).size : Int) := of_decide_eq_true am; omega); have hx20 : ∀ h : 0 < (((a0.extract 0 4) ++ (a0.extract 9 11)) ++ (strOfNums y616)).size, (((((a0.extract 0 4) ++ (a0.extract 9 11)) ++ (strOfNums y616))[0]'h).toNat : Int) = bt (((a0.extract 0 4) ++ (a0.extract 9 11)) ++ (strOfNums y616)) 0 := bt_at (((a0.extract 0 4) ++ (a0.extract 9 11)) ++ (strOfNums y616)) 0; clear p20; have qi20 : (0 < ((((a0.extract 0 4) ++ (a0.extract 9 11)) ++ (strOfNums y616)).size : Int)) = True := eq_true (of_decide_eq_true am); replace q20 := eq_true q20) | (go_at_call 52; (with_reducible refine (barscanref11_expand.calls k1 (((a0.extract 0 4) ++ (a0.extract 9 11)) ++ (strOfNums y616)) t619 _ A22.out).mono ?_); rintro e w' ⟨rfl, ⟨nd, rfl⟩⟩; (try first | exact ⟨rfl, _, World.drewN_drewN _ _ _⟩ | exact ⟨rfl, _, Eq.trans (World.drewN_drewN _ _ _) (congrArg (World.drewN _) (Nat.add_assoc _ _ _))⟩))); try go_wp2_with (first | ((with_reducible refine gate_dst (N := 18) rfl ?_); refine Kd.R_lit (Kd.int .u8) _ 5 ?hg (N := 18) ?hd (xs := ([x5_1] : List Int)) (inner := [.int .u8 x5_1]) (ok := fun _ => True) (okp := fun _ => True) ?hr ?hp (fun _ hk => hk) trivial (Below.refl _ _) (Nat.le_refl _) (by simp) ?_; (case hd => rfl); (case hg => rfl); (case hr => first | (go_simp; done) | (go_simp; rfl)); (case hp => exact (Reps.one (show Kd.M (Kd.int .u8) _ _ _ x5_1 [.int .u8 x5_1] from rfl) (Reps.none _ _))); intro v617 w28 ho29 hb hg_ hnew_; clear hg_ hnew_; (first | rw [← Ny616.out] at ho29 | (simp only [Int.reduceToNat] at ho29; rw [← Ny616.out] at ho29)); have n0_ := Aside0.mk (Kd.R_lower ho29 (below_size bw)); have n1_ := Aside0.mk (below_step bw hb); clear HB; have HO618 := n0_; have HB := n1_; clear n0_ n1_; clear hb ho29; have hcv30 := own_string (P := Tryz.prog) Tryz.underlying40 Tryz.underlying5 Tryz.underlying9 (Kd.own_of_R HO618.out); have p20 : 0 ≤ (0 : Int) := om; have q20 : 0 < (((a0.extract 0 4) ++ (a0.extract 9 11)) ++ (strOfNums y616)).size := (by have : (0 : Int) < ((((a0.extract 0 4) ++ (a0.extract 9 11)) ++ (strOfNums y616)).size : Int) := of_decide_eq_true am; omega); have hx20 : ∀ h : 0 < (((a0.extract 0 4) ++ (a0.extract 9 11)) ++ (strOfNums y616)).size, (((((a0.extract 0 4) ++ (a0.extract 9 11)) ++ (strOfNums y616))[0]'h).toNat : Int) = bt (((a0.extract 0 4) ++ (a0.extract 9 11)) ++ (strOfNums y616)) 0 := bt_at (((a0.extract 0 4) ++ (a0.extract 9 11)) ++ (strOfNums y616)) 0; clear p20; have qi20 : (0 < ((((a0.extract 0 4) ++ (a0.extract 9 11)) ++ (strOfNums y616)).size : Int)) = True := eq_true (of_decide_eq_true am); replace q20 := eq_true q20) | (go_at_call 52; (with_reducible refine (barscanref11_expand.calls k1 (((a0.extract 0 4) ++ (a0.extract 9 11)) ++ (strOfNums y616)) t619 _ A22.out).mono ?_); rintro e w' ⟨rfl, ⟨nd, rfl⟩⟩; (try first | exact ⟨rfl, _, World.drewN_drewN _ _ _⟩ | exact ⟨rfl, _, Eq.trans (World.drewN_drewN _ _ _) (congrArg (World.drewN _) (Nat.add_assoc _ _ _))⟩))))
    go_ret2
    exact ⟨es, bw⟩
   have c12b0 : (x5_1 == 51) = false := beq_eq_false_iff_ne.mpr c12
   have c12b1 : (x5_1 != 51) = true := bne_iff_ne.mpr c12
   replace H := ifc H
   obtain ⟨c37, H⟩ | ⟨c37, H⟩ := H
   ·have c37b0 : (x5_1 == 52) = true := beq_iff_eq.mpr c37
    have c37b1 : (x5_1 != 52) = false := bne_eq_false_iff_eq.mpr c37
    clear c37
    replace H := ifn H
    obtain ⟨c38, H⟩ := H
    have c38b0 := eq_true c38
    try have c38b0s := s1 c38b0
    have c38b1 : decide (0 ≤ 5) = true := decide_eq_true c38
    clear c38
    by_cases c39 : 5 ≤ (a0.size : Int)
    rotate_left
    ·rw [if_neg c39] at H
     exact absurd H (by simp)
    rw [if_pos c39] at H
    have c39b0 := eq_true c39
    try have c39b0s := s1 c39b0
    have c39b1 : decide (5 ≤ (a0.size : Int)) = true := decide_eq_true c39
    clear c39
    replace H := ifn H
    obtain ⟨c40, H⟩ := H
    have c40b0 := eq_true c40
    try have c40b0s := s1 c40b0
    have c40b1 : decide (10 ≤ 11) = true := decide_eq_true c40
    clear c40
    have c41b0 := eq_true (of_decide_eq_true am : 11 ≤ (a0.size : Int))
    try have c41b0s := s1 c41b0
    by_cases c42 : (a0.extract 0 5).size + (a0.extract 10 11).size ≤ 9223372036854775807
    rotate_left
    ·rw [if_neg c42] at H
     exact absurd H (by simp)
    rw [if_pos c42] at H
    have c42b0 := eq_true c42
    try have c42b0s := s1 c42b0
    have c42b1 : decide ((a0.extract 0 5).size + (a0.extract 10 11).size ≤ 9223372036854775807) = true := decide_eq_true c42
    try have c42b1s := s4 c42b1
    try have c42b1t := s3 c42b1
    try have c42b2 : (9223372036854775807 < (a0.extract 0 5).size + (a0.extract 10 11).size) = False := eq_false (Nat.not_lt.2 c42)
    try have c42b2s := s2 c42b2
    replace H := ifn H
    obtain ⟨c43, H⟩ := H
    have c43b0 := eq_true c43
    try have c43b0s := s1 c43b0
    have c43b1 : decide (((a0.extract 0 5) ++ (a0.extract 10 11)).size + (strOfNums y616).size ≤ 9223372036854775807) = true := decide_eq_true c43
    try have c43b1s := s4 c43b1
    try have c43b1t := s3 c43b1
    try have c43b2 : (9223372036854775807 < ((a0.extract 0 5) ++ (a0.extract 10 11)).size + (strOfNums y616).size) = False := eq_false (Nat.not_lt.2 c43)
    try have c43b2s := s2 c43b2
    by_cases c44 : 0 < ((((a0.extract 0 5) ++ (a0.extract 10 11)) ++ (strOfNums y616)).size : Int)
    rotate_left
    ·rw [if_neg c44] at H
     exact absurd H (by simp)
    rw [if_pos c44] at H
    have c44b0 : decide (0 < ((((a0.extract 0 5) ++ (a0.extract 10 11)) ++ (strOfNums y616)).size : Int)) = true := decide_eq_true c44
    try have c44b0s := s4 c44b0
    try have c44b0t := s3 c44b0
    have c44b1 : decide (0 < (((a0.extract 0 5) ++ (a0.extract 10 11)) ++ (strOfNums y616)).size) = true := decide_eq_true om
    try have c44b1s := s4 c44b1
    try have c44b1t := s3 c44b1
    clear c44
    replace H := ifc H
    obtain ⟨c46, H⟩ | ⟨c46, H⟩ := H
    rotate_left
    ·have c46b0 : decide ((bt (((a0.extract 0 5) ++ (a0.extract 10 11)) ++ (strOfNums y616)) 0) ≤ 49) = false := decide_eq_false c46
     clear c46
     have H' := Aside0.mk H
     clear H
     go_wp2_with (first | ((with_reducible refine gate_dst (N := 18) rfl ?_); refine Kd.R_lit (Kd.int .u8) _ 5 ?hg (N := 18) ?hd (xs := ([x5_1] : List Int)) (inner := [.int .u8 x5_1]) (ok := fun _ => True) (okp := fun _ => True) ?hr ?hp (fun _ hk => hk) trivial (Below.refl _ _) (Nat.le_refl _) (by simp) ?_; (case hd => rfl); (case hg => rfl); (case hr => first | (go_simp; done) | (go_simp; rfl)); (case hp => exact (Reps.one (show Kd.M (Kd.int .u8) _ _ _ x5_1 [.int .u8 x5_1] from rfl) (Reps.none _ _))); intro v617 w59 ho60 hb hg_ hnew_; clear hg_ hnew_; (first | rw [← Ny616.out] at ho60 | (simp only [Int.reduceToNat] at ho60; rw [← Ny616.out] at ho60)); have n0_ := Aside0.mk (Kd.R_lower ho60 (below_size bw)); have n1_ := Aside0.mk (below_step bw hb); clear HB; have HO618 := n0_; have HB := n1_; clear n0_ n1_; clear hb ho60; have hcv61 := own_string (P := Tryz.prog) Tryz.underlying40 Tryz.underlying5 Tryz.underlying9 (Kd.own_of_R HO618.out); have p45 : 0 ≤ (0 : Int) := om; have q45 : 0 < (((a0.extract 0 5) ++ (a0.extract 10 11)) ++ (strOfNums y616)).size := (by have : (0 : Int) < ((((a0.extract 0 5) ++ (a0.extract 10 11)) ++ (strOfNums y616)).size : Int) := of_decide_eq_true am; omega); have hx45 : ∀ h : 0 < (((a0.extract 0 5) ++ (a0.extract 10 11)) ++ (strOfNums y616)).size, (((((a0.extract 0 5) ++ (a0.extract 10 11)) ++ (strOfNums y616))[0]'h).toNat : Int) = bt (((a0.extract 0 5) ++ (a0.extract 10 11)) ++ (strOfNums y616)) 0 := bt_at (((a0.extract 0 5) ++ (a0.extract 10 11)) ++ (strOfNums y616)) 0; clear p45; have qi45 : (0 < ((((a0.extract 0 5) ++ (a0.extract 10 11)) ++ (strOfNums y616)).size : Int)) = True := eq_true (of_decide_eq_true am); replace q45 := eq_true q45))
     repeat (go_quiet (first | ((with_reducible refine gate_dst (N := 18) rfl ?_); refine Kd.R_lit (Kd.int .u8) _ 5 ?hg (N := 18) ?hd (xs := ([x5_1] : List Int)) (inner := [.int .u8 x5_1]) (ok := fun _ => True) (okp := fun _ => True) ?hr ?hp (fun _ hk => hk) trivial (Below.refl _ _) (Nat.le_refl _) (by simp) ?_; (case hd => rfl); (case hg => rfl); (case hr => first | (go_simp; done) | (go_simp; rfl)); (case hp => exact (Reps.one (show Kd.M (Kd.int .u8) _ _ _ x5_1 [.int .u8 x5_1] from rfl) (Reps.none _ _))); intro v617 w59 ho60 hb hg_ hnew_; clear hg_ hnew_; (first | rw [← Ny616.out] at ho60 | (simp only [Int.reduceToNat] at ho60; rw [← Ny616.out] at ho60)); have n0_ := Aside0.mk (Kd.R_lower ho60 (below_size bw)); have n1_ := Aside0.mk (below_step bw hb); clear HB; have HO618 := n0_; have HB := n1_; clear n0_ n1_; clear hb ho60; have hcv61 := own_string (P := Tryz.prog) Tryz.underlying40 Tryz.underlying5 Tryz.underlying9 (Kd.own_of_R HO618.out); have p45 : 0 ≤ (0 : Int) := om; have q45 : 0 < (((a0.extract 0 5) ++ (a0.extract 10 11)) ++ (strOfNums y616)).size := (by have : (0 : Int) < ((((a0.extract 0 5) ++ (a0.extract 10 11)) ++ (strOfNums y616)).size : Int) := of_decide_eq_true am; omega); have hx45 : ∀ h : 0 < (((a0.extract 0 5) ++ (a0.extract 10 11)) ++ (strOfNums y616)).size, (((((a0.extract 0 5) ++ (a0.extract 10 11)) ++ (strOfNums y616))[0]'h).toNat : Int) = bt (((a0.extract 0 5) ++ (a0.extract 10 11)) ++ (strOfNums y616)) 0 := bt_at (((a0.extract 0 5) ++ (a0.extract 10 11)) ++ (strOfNums y616)) 0; clear p45; have qi45 : (0 < ((((a0.extract 0 5) ++ (a0.extract 10 11)) ++ (strOfNums y616)).size : Int)) = True := eq_true (of_decide_eq_true am); replace q45 := eq_true q45)); try go_wp2_with (first | ((with_reducible refine gate_dst (N := 18) rfl ?_); refine Kd.R_lit (Kd.int .u8) _ 5 ?hg (N := 18) ?hd (xs := ([x5_1] : List Int)) (inner := [.int .u8 x5_1]) (ok := fun _ => True) (okp := fun _ => True) ?hr ?hp (fun _ hk => hk) trivial (Below.refl _ _) (Nat.le_refl _) (by simp) ?_; (case hd => rfl); (case hg => rfl); (case hr => first | (go_simp; done) | (go_simp; rfl)); (case hp => exact (Reps.one (show Kd.M (Kd.int .u8) _ _ _ x5_1 [.int .u8 x5_1] from rfl) (Reps.none _ _))); intro v617 w59 ho60 hb hg_ hnew_; clear hg_ hnew_; (first | rw [← Ny616.out] at ho60 | (simp only [Int.reduceToNat] at ho60; rw [← Ny616.out] at ho60)); have n0_ := Aside0.mk (Kd.R_lower ho60 (below_size bw)); have n1_ := Aside0.mk (below_step bw hb); clear HB; have HO618 := n0_; have HB := n1_; clear n0_ n1_; clear hb ho60; have hcv61 := own_string (P := Tryz.prog) Tryz.underlying40 Tryz.underlying5 Tryz.underlying9 (Kd.own_of_R HO618.out); have p45 : 0 ≤ (0 : Int) := om; have q45 : 0 < (((a0.extract 0 5) ++ (a0.extract 10 11)) ++ (strOfNums y616)).size := (by have : (0 : Int) < ((((a0.extract 0 5) ++ (a0.extract 10 11)) ++ (strOfNums y616)).size : Int) := of_decide_eq_true am; omega); have hx45 : ∀ h : 0 < (((a0.extract 0 5) ++ (a0.extract 10 11)) ++ (strOfNums y616)).size, (((((a0.extract 0 5) ++ (a0.extract 10 11)) ++ (strOfNums y616))[0]'h).toNat : Int) = bt (((a0.extract 0 5) ++ (a0.extract 10 11)) ++ (strOfNums y616)) 0 := bt_at (((a0.extract 0 5) ++ (a0.extract 10 11)) ++ (strOfNums y616)) 0; clear p45; have qi45 : (0 < ((((a0.extract 0 5) ++ (a0.extract 10 11)) ++ (strOfNums y616)).size : Int)) = True := eq_true (of_decide_eq_true am); replace q45 := eq_true q45)))
     go_roundg k1
     case measure => have := HK1.out; omega
     case rel => exact ⟨((x5_1 + 1) % 256), rs, H', ⟨by have := HK1.out; omega⟩, ⟨bw⟩⟩
    have c46b0 : decide ((bt (((a0.extract 0 5) ++ (a0.extract 10 11)) ++ (strOfNums y616)) 0) ≤ 49) = true := decide_eq_true c46
    clear c46
    replace H := bd H
    obtain ⟨t620, A47, H⟩ := H
    replace H := ifn H
    obtain ⟨c48, H⟩ := H
    have c48b0 := eq_true c48
    try have c48b0s := s1 c48b0
    have c48b1 : decide (0 ≤ 11) = true := decide_eq_true c48
    clear c48
    have c49b0 := eq_true (of_decide_eq_true am : 11 ≤ (a0.size : Int))
    try have c49b0s := s1 c49b0
    by_cases c50 : t620.toList = (a0.extract 0 11).toList
    rotate_left
    ·rw [if_neg c50] at H
     have c50b0 : (t620.toList == (a0.extract 0 11).toList) = false := beq_eq_false_iff_ne.mpr c50
     have c50b1 : (t620.toList != (a0.extract 0 11).toList) = true := bne_iff_ne.mpr c50
     have H' := Aside0.mk H
     clear H
     go_wp2_with (first | ((with_reducible refine gate_dst (N := 18) rfl ?_); refine Kd.R_lit (Kd.int .u8) _ 5 ?hg (N := 18) ?hd (xs := ([x5_1] : List Int)) (inner := [.int .u8 x5_1]) (ok := fun _ => True) (okp := fun _ => True) ?hr ?hp (fun _ hk => hk) trivial (Below.refl _ _) (Nat.le_refl _) (by simp) ?_; (case hd => rfl); (case hg => rfl); (case hr => first | (go_simp; done) | (go_simp; rfl)); (case hp => exact (Reps.one (show Kd.M (Kd.int .u8) _ _ _ x5_1 [.int .u8 x5_1] from rfl) (Reps.none _ _))); intro v617 w56 ho57 hb hg_ hnew_; clear hg_ hnew_; (first | rw [← Ny616.out] at ho57 | (simp only [Int.reduceToNat] at ho57; rw [← Ny616.out] at ho57)); have n0_ := Aside0.mk (Kd.R_lower ho57 (below_size bw)); have n1_ := Aside0.mk (below_step bw hb); clear HB; have HO618 := n0_; have HB := n1_; clear n0_ n1_; clear hb ho57; have hcv58 := own_string (P := Tryz.prog) Tryz.underlying40 Tryz.underlying5 Tryz.underlying9 (Kd.own_of_R HO618.out); have p45 : 0 ≤ (0 : Int) := om; have q45 : 0 < (((a0.extract 0 5) ++ (a0.extract 10 11)) ++ (strOfNums y616)).size := (by have : (0 : Int) < ((((a0.extract 0 5) ++ (a0.extract 10 11)) ++ (strOfNums y616)).size : Int) := of_decide_eq_true am; omega); have hx45 : ∀ h : 0 < (((a0.extract 0 5) ++ (a0.extract 10 11)) ++ (strOfNums y616)).size, (((((a0.extract 0 5) ++ (a0.extract 10 11)) ++ (strOfNums y616))[0]'h).toNat : Int) = bt (((a0.extract 0 5) ++ (a0.extract 10 11)) ++ (strOfNums y616)) 0 := bt_at (((a0.extract 0 5) ++ (a0.extract 10 11)) ++ (strOfNums y616)) 0; clear p45; have qi45 : (0 < ((((a0.extract 0 5) ++ (a0.extract 10 11)) ++ (strOfNums y616)).size : Int)) = True := eq_true (of_decide_eq_true am); replace q45 := eq_true q45) | (go_at_call 52; (with_reducible refine (barscanref11_expand.calls k1 (((a0.extract 0 5) ++ (a0.extract 10 11)) ++ (strOfNums y616)) t620 _ A47.out).mono ?_); rintro e w' ⟨rfl, ⟨nd, rfl⟩⟩; (try first | exact ⟨rfl, _, World.drewN_drewN _ _ _⟩ | exact ⟨rfl, _, Eq.trans (World.drewN_drewN _ _ _) (congrArg (World.drewN _) (Nat.add_assoc _ _ _))⟩)))
     repeat (go_quiet (first | ((with_reducible refine gate_dst (N := 18) rfl ?_); refine Kd.R_lit (Kd.int .u8) _ 5 ?hg (N := 18) ?hd (xs := ([x5_1] : List Int)) (inner := [.int .u8 x5_1]) (ok := fun _ => True) (okp := fun _ => True) ?hr ?hp (fun _ hk => hk) trivial (Below.refl _ _) (Nat.le_refl _) (by simp) ?_; (case hd => rfl); (case hg => rfl); (case hr => first | (go_simp; done) | (go_simp; rfl)); (case hp => exact (Reps.one (show Kd.M (Kd.int .u8) _ _ _ x5_1 [.int .u8 x5_1] from rfl) (Reps.none _ _))); intro v617 w56 ho57 hb hg_ hnew_; clear hg_ hnew_; (first | rw [← Ny616.out] at ho57 | (simp only [Int.reduceToNat] at ho57; rw [← Ny616.out] at ho57)); have n0_ := Aside0.mk (Kd.R_lower ho57 (below_size bw)); have n1_ := Aside0.mk (below_step bw hb); clear HB; have HO618 := n0_; have HB := n1_; clear n0_ n1_; clear hb ho57; have hcv58 := own_string (P := Tryz.prog) Tryz.underlying40 Tryz.underlying5 Tryz.underlying9 (Kd.own_of_R HO618.out); have p45 : 0 ≤ (0 : Int) := om; have q45 : 0 < (((a0.extract 0 5) ++ (a0.extract 10 11)) ++ (strOfNums y616)).size := (by have : (0 : Int) < ((((a0.extract 0 5) ++ (a0.extract 10 11)) ++ (strOfNums y616)).size : Int) := of_decide_eq_true am; omega); have hx45 : ∀ h : 0 < (((a0.extract 0 5) ++ (a0.extract 10 11)) ++ (strOfNums y616)).size, (((((a0.extract 0 5) ++ (a0.extract 10 11)) ++ (strOfNums y616))[0]'h).toNat : Int) = bt (((a0.extract 0 5) ++ (a0.extract 10 11)) ++ (strOfNums y616)) 0 := bt_at (((a0.extract 0 5) ++ (a0.extract 10 11)) ++ (strOfNums y616)) 0; clear p45; have qi45 : (0 < ((((a0.extract 0 5) ++ (a0.extract 10 11)) ++ (strOfNums y616)).size : Int)) = True := eq_true (of_decide_eq_true am); replace q45 := eq_true q45) | (go_at_call 52; (with_reducible refine (barscanref11_expand.calls k1 (((a0.extract 0 5) ++ (a0.extract 10 11)) ++ (strOfNums y616)) t620 _ A47.out).mono ?_); rintro e w' ⟨rfl, ⟨nd, rfl⟩⟩; (try first | exact ⟨rfl, _, World.drewN_drewN _ _ _⟩ | exact ⟨rfl, _, Eq.trans (World.drewN_drewN _ _ _) (congrArg (World.drewN _) (Nat.add_assoc _ _ _))⟩))); try go_wp2_with (first | ((with_reducible refine gate_dst (N := 18) rfl ?_); refine Kd.R_lit (Kd.int .u8) _ 5 ?hg (N := 18) ?hd (xs := ([x5_1] : List Int)) (inner := [.int .u8 x5_1]) (ok := fun _ => True) (okp := fun _ => True) ?hr ?hp (fun _ hk => hk) trivial (Below.refl _ _) (Nat.le_refl _) (by simp) ?_; (case hd => rfl); (case hg => rfl); (case hr => first | (go_simp; done) | (go_simp; rfl)); (case hp => exact (Reps.one (show Kd.M (Kd.int .u8) _ _ _ x5_1 [.int .u8 x5_1] from rfl) (Reps.none _ _))); intro v617 w56 ho57 hb hg_ hnew_; clear hg_ hnew_; (first | rw [← Ny616.out] at ho57 | (simp only [Int.reduceToNat] at ho57; rw [← Ny616.out] at ho57)); have n0_ := Aside0.mk (Kd.R_lower ho57 (below_size bw)); have n1_ := Aside0.mk (below_step bw hb); clear HB; have HO618 := n0_; have HB := n1_; clear n0_ n1_; clear hb ho57; have hcv58 := own_string (P := Tryz.prog) Tryz.underlying40 Tryz.underlying5 Tryz.underlying9 (Kd.own_of_R HO618.out); have p45 : 0 ≤ (0 : Int) := om; have q45 : 0 < (((a0.extract 0 5) ++ (a0.extract 10 11)) ++ (strOfNums y616)).size := (by have : (0 : Int) < ((((a0.extract 0 5) ++ (a0.extract 10 11)) ++ (strOfNums y616)).size : Int) := of_decide_eq_true am; omega); have hx45 : ∀ h : 0 < (((a0.extract 0 5) ++ (a0.extract 10 11)) ++ (strOfNums y616)).size, (((((a0.extract 0 5) ++ (a0.extract 10 11)) ++ (strOfNums y616))[0]'h).toNat : Int) = bt (((a0.extract 0 5) ++ (a0.extract 10 11)) ++ (strOfNums y616)) 0 := bt_at (((a0.extract 0 5) ++ (a0.extract 10 11)) ++ (strOfNums y616)) 0; clear p45; have qi45 : (0 < ((((a0.extract 0 5) ++ (a0.extract 10 11)) ++ (strOfNums y616)).size : Int)) = True := eq_true (of_decide_eq_true am); replace q45 := eq_true q45) | (go_at_call 52; (with_reducible refine (barscanref11_expand.calls k1 (((a0.extract 0 5) ++ (a0.extract 10 11)) ++ (strOfNums y616)) t620 _ A47.out).mono ?_); rintro e w' ⟨rfl, ⟨nd, rfl⟩⟩; (try first | exact ⟨rfl, _, World.drewN_drewN _ _ _⟩ | exact ⟨rfl, _, Eq.trans (World.drewN_drewN _ _ _) (congrArg (World.drewN _) (Nat.add_assoc _ _ _))⟩))))
     go_roundg k1
     case measure => have := HK1.out; omega
     case rel => exact ⟨((x5_1 + 1) % 256), rs, H', ⟨by have := HK1.out; omega⟩, ⟨bw⟩⟩
    rw [if_pos c50] at H
    have c50b0 : (t620.toList == (a0.extract 0 11).toList) = true := beq_iff_eq.mpr c50
    have c50b1 : (t620.toList != (a0.extract 0 11).toList) = false := bne_eq_false_iff_eq.mpr c50
    clear c50
    have c51b0 := eq_true (of_decide_eq_true am : 11 ≤ (a0.size : Int))
    try have c51b0s := s1 c51b0
    replace H := ifn H
    obtain ⟨c52, H⟩ := H
    have c52b0 := eq_true c52
    try have c52b0s := s1 c52b0
    have c52b1 : decide ((((a0.extract 0 5) ++ (a0.extract 10 11)) ++ (strOfNums y616)).size + (a0.extract 11 a0.size).size ≤ 9223372036854775807) = true := decide_eq_true c52
    try have c52b1s := s4 c52b1
    try have c52b1t := s3 c52b1
    try have c52b2 : (9223372036854775807 < (((a0.extract 0 5) ++ (a0.extract 10 11)) ++ (strOfNums y616)).size + (a0.extract 11 a0.size).size) = False := eq_false (Nat.not_lt.2 c52)
    try have c52b2s := s2 c52b2
    simp only [Option.some.injEq, Prod.mk.injEq] at H
    obtain ⟨rfl, rfl⟩ := H
    go_wp2_with (first | ((with_reducible refine gate_dst (N := 18) rfl ?_); refine Kd.R_lit (Kd.int .u8) _ 5 ?hg (N := 18) ?hd (xs := ([x5_1] : List Int)) (inner := [.int .u8 x5_1]) (ok := fun _ => True) (okp := fun _ => True) ?hr ?hp (fun _ hk => hk) trivial (Below.refl _ _) (Nat.le_refl _) (by simp) ?_; (case hd => rfl); (case hg => rfl); (case hr => first | (go_simp; done) | (go_simp; rfl)); (case hp => exact (Reps.one (show Kd.M (Kd.int .u8) _ _ _ x5_1 [.int .u8 x5_1] from rfl) (Reps.none _ _))); intro v617 w53 ho54 hb hg_ hnew_; clear hg_ hnew_; (first | rw [← Ny616.out] at ho54 | (simp only [Int.reduceToNat] at ho54; rw [← Ny616.out] at ho54)); have n0_ := Aside0.mk (Kd.R_lower ho54 (below_size bw)); have n1_ := Aside0.mk (below_step bw hb); clear HB; have HO618 := n0_; have HB := n1_; clear n0_ n1_; clear hb ho54; have hcv55 := own_string (P := Tryz.prog) Tryz.underlying40 Tryz.underlying5 Tryz.underlying9 (Kd.own_of_R HO618.out); have p45 : 0 ≤ (0 : Int) := om; have q45 : 0 < (((a0.extract 0 5) ++ (a0.extract 10 11)) ++ (strOfNums y616)).size := (by have : (0 : Int) < ((((a0.extract 0 5) ++ (a0.extract 10 11)) ++ (strOfNums y616)).size : Int) := of_decide_eq_true am; omega); have hx45 : ∀ h : 0 < (((a0.extract 0 5) ++ (a0.extract 10 11)) ++ (strOfNums y616)).size, (((((a0.extract 0 5) ++ (a0.extract 10 11)) ++ (strOfNums y616))[0]'h).toNat : Int) = bt (((a0.extract 0 5) ++ (a0.extract 10 11)) ++ (strOfNums y616)) 0 := bt_at (((a0.extract 0 5) ++ (a0.extract 10 11)) ++ (strOfNums y616)) 0; clear p45; have qi45 : (0 < ((((a0.extract 0 5) ++ (a0.extract 10 11)) ++ (strOfNums y616)).size : Int)) = True := eq_true (of_decide_eq_true am); replace q45 := eq_true q45) | (go_at_call 52; (with_reducible refine (barscanref11_expand.calls k1 (((a0.extract 0 5) ++ (a0.extract 10 11)) ++ (strOfNums y616)) t620 _ A47.out).mono ?_); rintro e w' ⟨rfl, ⟨nd, rfl⟩⟩; (try first | exact ⟨rfl, _, World.drewN_drewN _ _ _⟩ | exact ⟨rfl, _, Eq.trans (World.drewN_drewN _ _ _) (congrArg (World.drewN _) (Nat.add_assoc _ _ _))⟩)))
    repeat (go_quiet (first | ((with_reducible refine gate_dst (N := 18) rfl ?_); refine Kd.R_lit (Kd.int .u8) _ 5 ?hg (N := 18) ?hd (xs := ([x5_1] : List Int)) (inner := [.int .u8 x5_1]) (ok := fun _ => True) (okp := fun _ => True) ?hr ?hp (fun _ hk => hk) trivial (Below.refl _ _) (Nat.le_refl _) (by simp) ?_; (case hd => rfl); (case hg => rfl); (case hr => first | (go_simp; done) | (go_simp; rfl)); (case hp => exact (Reps.one (show Kd.M (Kd.int .u8) _ _ _ x5_1 [.int .u8 x5_1] from rfl) (Reps.none _ _))); intro v617 w53 ho54 hb hg_ hnew_; clear hg_ hnew_; (first | rw [← Ny616.out] at ho54 | (simp only [Int.reduceToNat] at ho54; rw [← Ny616.out] at ho54)); have n0_ := Aside0.mk (Kd.R_lower ho54 (below_size bw)); have n1_ := Aside0.mk (below_step bw hb); clear HB; have HO618 := n0_; have HB := n1_; clear n0_ n1_; clear hb ho54; have hcv55 := own_string (P := Tryz.prog) Tryz.underlying40 Tryz.underlying5 Tryz.underlying9 (Kd.own_of_R HO618.out); have p45 : 0 ≤ (0 : Int) := om; have q45 : 0 < (((a0.extract 0 5) ++ (a0.extract 10 11)) ++ (strOfNums y616)).size := (by have : (0 : Int) < ((((a0.extract 0 5) ++ (a0.extract 10 11)) ++ (strOfNums y616)).size : Int) := of_decide_eq_true am; omega); have hx45 : ∀ h : 0 < (((a0.extract 0 5) ++ (a0.extract 10 11)) ++ (strOfNums y616)).size, (((((a0.extract 0 5) ++ (a0.extract 10 11)) ++ (strOfNums y616))[0]'h).toNat : Int) = bt (((a0.extract 0 5) ++ (a0.extract 10 11)) ++ (strOfNums y616)) 0 := bt_at (((a0.extract 0 5) ++ (a0.extract 10 11)) ++ (strOfNums y616)) 0; clear p45; have qi45 : (0 < ((((a0.extract 0 5) ++ (a0.extract 10 11)) ++ (strOfNums y616)).size : Int)) = True := eq_true (of_decide_eq_true am); replace q45 := eq_true q45) | (go_at_call 52; (with_reducible refine (barscanref11_expand.calls k1 (((a0.extract 0 5) ++ (a0.extract 10 11)) ++ (strOfNums y616)) t620 _ A47.out).mono ?_); rintro e w' ⟨rfl, ⟨nd, rfl⟩⟩; (try first | exact ⟨rfl, _, World.drewN_drewN _ _ _⟩ | exact ⟨rfl, _, Eq.trans (World.drewN_drewN _ _ _) (congrArg (World.drewN _) (Nat.add_assoc _ _ _))⟩))); try go_wp2_with (first | ((with_reducible refine gate_dst (N := 18) rfl ?_); refine Kd.R_lit (Kd.int .u8) _ 5 ?hg (N := 18) ?hd (xs := ([x5_1] : List Int)) (inner := [.int .u8 x5_1]) (ok := fun _ => True) (okp := fun _ => True) ?hr ?hp (fun _ hk => hk) trivial (Below.refl _ _) (Nat.le_refl _) (by simp) ?_; (case hd => rfl); (case hg => rfl); (case hr => first | (go_simp; done) | (go_simp; rfl)); (case hp => exact (Reps.one (show Kd.M (Kd.int .u8) _ _ _ x5_1 [.int .u8 x5_1] from rfl) (Reps.none _ _))); intro v617 w53 ho54 hb hg_ hnew_; clear hg_ hnew_; (first | rw [← Ny616.out] at ho54 | (simp only [Int.reduceToNat] at ho54; rw [← Ny616.out] at ho54)); have n0_ := Aside0.mk (Kd.R_lower ho54 (below_size bw)); have n1_ := Aside0.mk (below_step bw hb); clear HB; have HO618 := n0_; have HB := n1_; clear n0_ n1_; clear hb ho54; have hcv55 := own_string (P := Tryz.prog) Tryz.underlying40 Tryz.underlying5 Tryz.underlying9 (Kd.own_of_R HO618.out); have p45 : 0 ≤ (0 : Int) := om; have q45 : 0 < (((a0.extract 0 5) ++ (a0.extract 10 11)) ++ (strOfNums y616)).size := (by have : (0 : Int) < ((((a0.extract 0 5) ++ (a0.extract 10 11)) ++ (strOfNums y616)).size : Int) := of_decide_eq_true am; omega); have hx45 : ∀ h : 0 < (((a0.extract 0 5) ++ (a0.extract 10 11)) ++ (strOfNums y616)).size, (((((a0.extract 0 5) ++ (a0.extract 10 11)) ++ (strOfNums y616))[0]'h).toNat : Int) = bt (((a0.extract 0 5) ++ (a0.extract 10 11)) ++ (strOfNums y616)) 0 := bt_at (((a0.extract 0 5) ++ (a0.extract 10 11)) ++ (strOfNums y616)) 0; clear p45; have qi45 : (0 < ((((a0.extract 0 5) ++ (a0.extract 10 11)) ++ (strOfNums y616)).size : Int)) = True := eq_true (of_decide_eq_true am); replace q45 := eq_true q45) | (go_at_call 52; (with_reducible refine (barscanref11_expand.calls k1 (((a0.extract 0 5) ++ (a0.extract 10 11)) ++ (strOfNums y616)) t620 _ A47.out).mono ?_); rintro e w' ⟨rfl, ⟨nd, rfl⟩⟩; (try first | exact ⟨rfl, _, World.drewN_drewN _ _ _⟩ | exact ⟨rfl, _, Eq.trans (World.drewN_drewN _ _ _) (congrArg (World.drewN _) (Nat.add_assoc _ _ _))⟩))))
    go_ret2
    exact ⟨es, bw⟩
   have c37b0 : (x5_1 == 52) = false := beq_eq_false_iff_ne.mpr c37
   have c37b1 : (x5_1 != 52) = true := bne_iff_ne.mpr c37
   replace H := ifc H
   obtain ⟨c62, H⟩ | ⟨c62, H⟩ := H
   ·have c62b0 : decide (52 < x5_1) = true := decide_eq_true c62
    clear c62
    replace H := ifn H
    obtain ⟨c63, H⟩ := H
    have c63b0 := eq_true c63
    try have c63b0s := s1 c63b0
    have c63b1 : decide (0 ≤ 6) = true := decide_eq_true c63
    clear c63
    by_cases c64 : 6 ≤ (a0.size : Int)
    rotate_left
    ·rw [if_neg c64] at H
     exact absurd H (by simp)
    rw [if_pos c64] at H
    have c64b0 := eq_true c64
    try have c64b0s := s1 c64b0
    have c64b1 : decide (6 ≤ (a0.size : Int)) = true := decide_eq_true c64
    clear c64
    replace H := ifn H
    obtain ⟨c65, H⟩ := H
    have c65b0 := eq_true c65
    try have c65b0s := s1 c65b0
    have c65b1 : decide ((a0.extract 0 6).size + (strOfNums y616).size ≤ 9223372036854775807) = true := decide_eq_true c65
    try have c65b1s := s4 c65b1
    try have c65b1t := s3 c65b1
    try have c65b2 : (9223372036854775807 < (a0.extract 0 6).size + (strOfNums y616).size) = False := eq_false (Nat.not_lt.2 c65)
    try have c65b2s := s2 c65b2
    by_cases c66 : 0 < (((a0.extract 0 6) ++ (strOfNums y616)).size : Int)
    rotate_left
    ·rw [if_neg c66] at H
     exact absurd H (by simp)
    rw [if_pos c66] at H
    have c66b0 : decide (0 < (((a0.extract 0 6) ++ (strOfNums y616)).size : Int)) = true := decide_eq_true c66
    try have c66b0s := s4 c66b0
    try have c66b0t := s3 c66b0
    have c66b1 : decide (0 < ((a0.extract 0 6) ++ (strOfNums y616)).size) = true := decide_eq_true om
    try have c66b1s := s4 c66b1
    try have c66b1t := s3 c66b1
    clear c66
    replace H := ifc H
    obtain ⟨c68, H⟩ | ⟨c68, H⟩ := H
    rotate_left
    ·have c68b0 : decide ((bt ((a0.extract 0 6) ++ (strOfNums y616)) 0) ≤ 49) = false := decide_eq_false c68
     clear c68
     have H' := Aside0.mk H
     clear H
     go_wp2_with (first | ((with_reducible refine gate_dst (N := 18) rfl ?_); refine Kd.R_lit (Kd.int .u8) _ 5 ?hg (N := 18) ?hd (xs := ([x5_1] : List Int)) (inner := [.int .u8 x5_1]) (ok := fun _ => True) (okp := fun _ => True) ?hr ?hp (fun _ hk => hk) trivial (Below.refl _ _) (Nat.le_refl _) (by simp) ?_; (case hd => rfl); (case hg => rfl); (case hr => first | (go_simp; done) | (go_simp; rfl)); (case hp => exact (Reps.one (show Kd.M (Kd.int .u8) _ _ _ x5_1 [.int .u8 x5_1] from rfl) (Reps.none _ _))); intro v617 w81 ho82 hb hg_ hnew_; clear hg_ hnew_; (first | rw [← Ny616.out] at ho82 | (simp only [Int.reduceToNat] at ho82; rw [← Ny616.out] at ho82)); have n0_ := Aside0.mk (Kd.R_lower ho82 (below_size bw)); have n1_ := Aside0.mk (below_step bw hb); clear HB; have HO618 := n0_; have HB := n1_; clear n0_ n1_; clear hb ho82; have hcv83 := own_string (P := Tryz.prog) Tryz.underlying40 Tryz.underlying5 Tryz.underlying9 (Kd.own_of_R HO618.out); have p67 : 0 ≤ (0 : Int) := om; have q67 : 0 < ((a0.extract 0 6) ++ (strOfNums y616)).size := (by have : (0 : Int) < (((a0.extract 0 6) ++ (strOfNums y616)).size : Int) := of_decide_eq_true am; omega); have hx67 : ∀ h : 0 < ((a0.extract 0 6) ++ (strOfNums y616)).size, ((((a0.extract 0 6) ++ (strOfNums y616))[0]'h).toNat : Int) = bt ((a0.extract 0 6) ++ (strOfNums y616)) 0 := bt_at ((a0.extract 0 6) ++ (strOfNums y616)) 0; clear p67; have qi67 : (0 < (((a0.extract 0 6) ++ (strOfNums y616)).size : Int)) = True := eq_true (of_decide_eq_true am); replace q67 := eq_true q67))
     repeat (go_quiet (first | ((with_reducible refine gate_dst (N := 18) rfl ?_); refine Kd.R_lit (Kd.int .u8) _ 5 ?hg (N := 18) ?hd (xs := ([x5_1] : List Int)) (inner := [.int .u8 x5_1]) (ok := fun _ => True) (okp := fun _ => True) ?hr ?hp (fun _ hk => hk) trivial (Below.refl _ _) (Nat.le_refl _) (by simp) ?_; (case hd => rfl); (case hg => rfl); (case hr => first | (go_simp; done) | (go_simp; rfl)); (case hp => exact (Reps.one (show Kd.M (Kd.int .u8) _ _ _ x5_1 [.int .u8 x5_1] from rfl) (Reps.none _ _))); intro v617 w81 ho82 hb hg_ hnew_; clear hg_ hnew_; (first | rw [← Ny616.out] at ho82 | (simp only [Int.reduceToNat] at ho82; rw [← Ny616.out] at ho82)); have n0_ := Aside0.mk (Kd.R_lower ho82 (below_size bw)); have n1_ := Aside0.mk (below_step bw hb); clear HB; have HO618 := n0_; have HB := n1_; clear n0_ n1_; clear hb ho82; have hcv83 := own_string (P := Tryz.prog) Tryz.underlying40 Tryz.underlying5 Tryz.underlying9 (Kd.own_of_R HO618.out); have p67 : 0 ≤ (0 : Int) := om; have q67 : 0 < ((a0.extract 0 6) ++ (strOfNums y616)).size := (by have : (0 : Int) < (((a0.extract 0 6) ++ (strOfNums y616)).size : Int) := of_decide_eq_true am; omega); have hx67 : ∀ h : 0 < ((a0.extract 0 6) ++ (strOfNums y616)).size, ((((a0.extract 0 6) ++ (strOfNums y616))[0]'h).toNat : Int) = bt ((a0.extract 0 6) ++ (strOfNums y616)) 0 := bt_at ((a0.extract 0 6) ++ (strOfNums y616)) 0; clear p67; have qi67 : (0 < (((a0.extract 0 6) ++ (strOfNums y616)).size : Int)) = True := eq_true (of_decide_eq_true am); replace q67 := eq_true q67)); try go_wp2_with (first | ((with_reducible refine gate_dst (N := 18) rfl ?_); refine Kd.R_lit (Kd.int .u8) _ 5 ?hg (N := 18) ?hd (xs := ([x5_1] : List Int)) (inner := [.int .u8 x5_1]) (ok := fun _ => True) (okp := fun _ => True) ?hr ?hp (fun _ hk => hk) trivial (Below.refl _ _) (Nat.le_refl _) (by simp) ?_; (case hd => rfl); (case hg => rfl); (case hr => first | (go_simp; done) | (go_simp; rfl)); (case hp => exact (Reps.one (show Kd.M (Kd.int .u8) _ _ _ x5_1 [.int .u8 x5_1] from rfl) (Reps.none _ _))); intro v617 w81 ho82 hb hg_ hnew_; clear hg_ hnew_; (first | rw [← Ny616.out] at ho82 | (simp only [Int.reduceToNat] at ho82; rw [← Ny616.out] at ho82)); have n0_ := Aside0.mk (Kd.R_lower ho82 (below_size bw)); have n1_ := Aside0.mk (below_step bw hb); clear HB; have HO618 := n0_; have HB := n1_; clear n0_ n1_; clear hb ho82; have hcv83 := own_string (P := Tryz.prog) Tryz.underlying40 Tryz.underlying5 Tryz.underlying9 (Kd.own_of_R HO618.out); have p67 : 0 ≤ (0 : Int) := om; have q67 : 0 < ((a0.extract 0 6) ++ (strOfNums y616)).size := (by have : (0 : Int) < (((a0.extract 0 6) ++ (strOfNums y616)).size : Int) := of_decide_eq_true am; omega); have hx67 : ∀ h : 0 < ((a0.extract 0 6) ++ (strOfNums y616)).size, ((((a0.extract 0 6) ++ (strOfNums y616))[0]'h).toNat : Int) = bt ((a0.extract 0 6) ++ (strOfNums y616)) 0 := bt_at ((a0.extract 0 6) ++ (strOfNums y616)) 0; clear p67; have qi67 : (0 < (((a0.extract 0 6) ++ (strOfNums y616)).size : Int)) = True := eq_true (of_decide_eq_true am); replace q67 := eq_true q67)))
     go_roundg k1
     case measure => have := HK1.out; omega
     case rel => exact ⟨((x5_1 + 1) % 256), rs, H', ⟨by have := HK1.out; omega⟩, ⟨bw⟩⟩
    have c68b0 : decide ((bt ((a0.extract 0 6) ++ (strOfNums y616)) 0) ≤ 49) = true := decide_eq_true c68
    clear c68
    replace H := bd H
    obtain ⟨t621, A69, H⟩ := H
    replace H := ifn H
    obtain ⟨c70, H⟩ := H
    have c70b0 := eq_true c70
    try have c70b0s := s1 c70b0
    have c70b1 : decide (0 ≤ 11) = true := decide_eq_true c70
    clear c70
    have c71b0 := eq_true (of_decide_eq_true am : 11 ≤ (a0.size : Int))
    try have c71b0s := s1 c71b0
    by_cases c72 : t621.toList = (a0.extract 0 11).toList
    rotate_left
    ·rw [if_neg c72] at H
     have c72b0 : (t621.toList == (a0.extract 0 11).toList) = false := beq_eq_false_iff_ne.mpr c72
     have c72b1 : (t621.toList != (a0.extract 0 11).toList) = true := bne_iff_ne.mpr c72
     have H' := Aside0.mk H
     clear H
     go_wp2_with (first | ((with_reducible refine gate_dst (N := 18) rfl ?_); refine Kd.R_lit (Kd.int .u8) _ 5 ?hg (N := 18) ?hd (xs := ([x5_1] : List Int)) (inner := [.int .u8 x5_1]) (ok := fun _ => True) (okp := fun _ => True) ?hr ?hp (fun _ hk => hk) trivial (Below.refl _ _) (Nat.le_refl _) (by simp) ?_; (case hd => rfl); (case hg => rfl); (case hr => first | (go_simp; done) | (go_simp; rfl)); (case hp => exact (Reps.one (show Kd.M (Kd.int .u8) _ _ _ x5_1 [.int .u8 x5_1] from rfl) (Reps.none _ _))); intro v617 w78 ho79 hb hg_ hnew_; clear hg_ hnew_; (first | rw [← Ny616.out] at ho79 | (simp only [Int.reduceToNat] at ho79; rw [← Ny616.out] at ho79)); have n0_ := Aside0.mk (Kd.R_lower ho79 (below_size bw)); have n1_ := Aside0.mk (below_step bw hb); clear HB; have HO618 := n0_; have HB := n1_; clear n0_ n1_; clear hb ho79; have hcv80 := own_string (P := Tryz.prog) Tryz.underlying40 Tryz.underlying5 Tryz.underlying9 (Kd.own_of_R HO618.out); have p67 : 0 ≤ (0 : Int) := om; have q67 : 0 < ((a0.extract 0 6) ++ (strOfNums y616)).size := (by have : (0 : Int) < (((a0.extract 0 6) ++ (strOfNums y616)).size : Int) := of_decide_eq_true am; omega); have hx67 : ∀ h : 0 < ((a0.extract 0 6) ++ (strOfNums y616)).size, ((((a0.extract 0 6) ++ (strOfNums y616))[0]'h).toNat : Int) = bt ((a0.extract 0 6) ++ (strOfNums y616)) 0 := bt_at ((a0.extract 0 6) ++ (strOfNums y616)) 0; clear p67; have qi67 : (0 < (((a0.extract 0 6) ++ (strOfNums y616)).size : Int)) = True := eq_true (of_decide_eq_true am); replace q67 := eq_true q67) | (go_at_call 52; (with_reducible refine (barscanref11_expand.calls k1 ((a0.extract 0 6) ++ (strOfNums y616)) t621 _ A69.out).mono ?_); rintro e w' ⟨rfl, ⟨nd, rfl⟩⟩; (try first | exact ⟨rfl, _, World.drewN_drewN _ _ _⟩ | exact ⟨rfl, _, Eq.trans (World.drewN_drewN _ _ _) (congrArg (World.drewN _) (Nat.add_assoc _ _ _))⟩)))
     repeat (go_quiet (first | ((with_reducible refine gate_dst (N := 18) rfl ?_); refine Kd.R_lit (Kd.int .u8) _ 5 ?hg (N := 18) ?hd (xs := ([x5_1] : List Int)) (inner := [.int .u8 x5_1]) (ok := fun _ => True) (okp := fun _ => True) ?hr ?hp (fun _ hk => hk) trivial (Below.refl _ _) (Nat.le_refl _) (by simp) ?_; (case hd => rfl); (case hg => rfl); (case hr => first | (go_simp; done) | (go_simp; rfl)); (case hp => exact (Reps.one (show Kd.M (Kd.int .u8) _ _ _ x5_1 [.int .u8 x5_1] from rfl) (Reps.none _ _))); intro v617 w78 ho79 hb hg_ hnew_; clear hg_ hnew_; (first | rw [← Ny616.out] at ho79 | (simp only [Int.reduceToNat] at ho79; rw [← Ny616.out] at ho79)); have n0_ := Aside0.mk (Kd.R_lower ho79 (below_size bw)); have n1_ := Aside0.mk (below_step bw hb); clear HB; have HO618 := n0_; have HB := n1_; clear n0_ n1_; clear hb ho79; have hcv80 := own_string (P := Tryz.prog) Tryz.underlying40 Tryz.underlying5 Tryz.underlying9 (Kd.own_of_R HO618.out); have p67 : 0 ≤ (0 : Int) := om; have q67 : 0 < ((a0.extract 0 6) ++ (strOfNums y616)).size := (by have : (0 : Int) < (((a0.extract 0 6) ++ (strOfNums y616)).size : Int) := of_decide_eq_true am; omega); have hx67 : ∀ h : 0 < ((a0.extract 0 6) ++ (strOfNums y616)).size, ((((a0.extract 0 6) ++ (strOfNums y616))[0]'h).toNat : Int) = bt ((a0.extract 0 6) ++ (strOfNums y616)) 0 := bt_at ((a0.extract 0 6) ++ (strOfNums y616)) 0; clear p67; have qi67 : (0 < (((a0.extract 0 6) ++ (strOfNums y616)).size : Int)) = True := eq_true (of_decide_eq_true am); replace q67 := eq_true q67) | (go_at_call 52; (with_reducible refine (barscanref11_expand.calls k1 ((a0.extract 0 6) ++ (strOfNums y616)) t621 _ A69.out).mono ?_); rintro e w' ⟨rfl, ⟨nd, rfl⟩⟩; (try first | exact ⟨rfl, _, World.drewN_drewN _ _ _⟩ | exact ⟨rfl, _, Eq.trans (World.drewN_drewN _ _ _) (congrArg (World.drewN _) (Nat.add_assoc _ _ _))⟩))); try go_wp2_with (first | ((with_reducible refine gate_dst (N := 18) rfl ?_); refine Kd.R_lit (Kd.int .u8) _ 5 ?hg (N := 18) ?hd (xs := ([x5_1] : List Int)) (inner := [.int .u8 x5_1]) (ok := fun _ => True) (okp := fun _ => True) ?hr ?hp (fun _ hk => hk) trivial (Below.refl _ _) (Nat.le_refl _) (by simp) ?_; (case hd => rfl); (case hg => rfl); (case hr => first | (go_simp; done) | (go_simp; rfl)); (case hp => exact (Reps.one (show Kd.M (Kd.int .u8) _ _ _ x5_1 [.int .u8 x5_1] from rfl) (Reps.none _ _))); intro v617 w78 ho79 hb hg_ hnew_; clear hg_ hnew_; (first | rw [← Ny616.out] at ho79 | (simp only [Int.reduceToNat] at ho79; rw [← Ny616.out] at ho79)); have n0_ := Aside0.mk (Kd.R_lower ho79 (below_size bw)); have n1_ := Aside0.mk (below_step bw hb); clear HB; have HO618 := n0_; have HB := n1_; clear n0_ n1_; clear hb ho79; have hcv80 := own_string (P := Tryz.prog) Tryz.underlying40 Tryz.underlying5 Tryz.underlying9 (Kd.own_of_R HO618.out); have p67 : 0 ≤ (0 : Int) := om; have q67 : 0 < ((a0.extract 0 6) ++ (strOfNums y616)).size := (by have : (0 : Int) < (((a0.extract 0 6) ++ (strOfNums y616)).size : Int) := of_decide_eq_true am; omega); have hx67 : ∀ h : 0 < ((a0.extract 0 6) ++ (strOfNums y616)).size, ((((a0.extract 0 6) ++ (strOfNums y616))[0]'h).toNat : Int) = bt ((a0.extract 0 6) ++ (strOfNums y616)) 0 := bt_at ((a0.extract 0 6) ++ (strOfNums y616)) 0; clear p67; have qi67 : (0 < (((a0.extract 0 6) ++ (strOfNums y616)).size : Int)) = True := eq_true (of_decide_eq_true am); replace q67 := eq_true q67) | (go_at_call 52; (with_reducible refine (barscanref11_expand.calls k1 ((a0.extract 0 6) ++ (strOfNums y616)) t621 _ A69.out).mono ?_); rintro e w' ⟨rfl, ⟨nd, rfl⟩⟩; (try first | exact ⟨rfl, _, World.drewN_drewN _ _ _⟩ | exact ⟨rfl, _, Eq.trans (World.drewN_drewN _ _ _) (congrArg (World.drewN _) (Nat.add_assoc _ _ _))⟩))))
     go_roundg k1
     case measure => have := HK1.out; omega
     case rel => exact ⟨((x5_1 + 1) % 256), rs, H', ⟨by have := HK1.out; omega⟩, ⟨bw⟩⟩
    rw [if_pos c72] at H
    have c72b0 : (t621.toList == (a0.extract 0 11).toList) = true := beq_iff_eq.mpr c72
    have c72b1 : (t621.toList != (a0.extract 0 11).toList) = false := bne_eq_false_iff_eq.mpr c72
    clear c72
    have c73b0 := eq_true (of_decide_eq_true am : 11 ≤ (a0.size : Int))
    try have c73b0s := s1 c73b0
    replace H := ifn H
    obtain ⟨c74, H⟩ := H
    have c74b0 := eq_true c74
    try have c74b0s := s1 c74b0
    have c74b1 : decide (((a0.extract 0 6) ++ (strOfNums y616)).size + (a0.extract 11 a0.size).size ≤ 9223372036854775807) = true := decide_eq_true c74
    try have c74b1s := s4 c74b1
    try have c74b1t := s3 c74b1
    try have c74b2 : (9223372036854775807 < ((a0.extract 0 6) ++ (strOfNums y616)).size + (a0.extract 11 a0.size).size) = False := eq_false (Nat.not_lt.2 c74)
    try have c74b2s := s2 c74b2
    simp only [Option.some.injEq, Prod.mk.injEq] at H
    obtain ⟨rfl, rfl⟩ := H
    go_wp2_with (first | ((with_reducible refine gate_dst (N := 18) rfl ?_); refine Kd.R_lit (Kd.int .u8) _ 5 ?hg (N := 18) ?hd (xs := ([x5_1] : List Int)) (inner := [.int .u8 x5_1]) (ok := fun _ => True) (okp := fun _ => True) ?hr ?hp (fun _ hk => hk) trivial (Below.refl _ _) (Nat.le_refl _) (by simp) ?_; (case hd => rfl); (case hg => rfl); (case hr => first | (go_simp; done) | (go_simp; rfl)); (case hp => exact (Reps.one (show Kd.M (Kd.int .u8) _ _ _ x5_1 [.int .u8 x5_1] from rfl) (Reps.none _ _))); intro v617 w75 ho76 hb hg_ hnew_; clear hg_ hnew_; (first | rw [← Ny616.out] at ho76 | (simp only [Int.reduceToNat] at ho76; rw [← Ny616.out] at ho76)); have n0_ := Aside0.mk (Kd.R_lower ho76 (below_size bw)); have n1_ := Aside0.mk (below_step bw hb); clear HB; have HO618 := n0_; have HB := n1_; clear n0_ n1_; clear hb ho76; have hcv77 := own_string (P := Tryz.prog) Tryz.underlying40 Tryz.underlying5 Tryz.underlying9 (Kd.own_of_R HO618.out); have p67 : 0 ≤ (0 : Int) := om; have q67 : 0 < ((a0.extract 0 6) ++ (strOfNums y616)).size := (by have : (0 : Int) < (((a0.extract 0 6) ++ (strOfNums y616)).size : Int) := of_decide_eq_true am; omega); have hx67 : ∀ h : 0 < ((a0.extract 0 6) ++ (strOfNums y616)).size, ((((a0.extract 0 6) ++ (strOfNums y616))[0]'h).toNat : Int) = bt ((a0.extract 0 6) ++ (strOfNums y616)) 0 := bt_at ((a0.extract 0 6) ++ (strOfNums y616)) 0; clear p67; have qi67 : (0 < (((a0.extract 0 6) ++ (strOfNums y616)).size : Int)) = True := eq_true (of_decide_eq_true am); replace q67 := eq_true q67) | (go_at_call 52; (with_reducible refine (barscanref11_expand.calls k1 ((a0.extract 0 6) ++ (strOfNums y616)) t621 _ A69.out).mono ?_); rintro e w' ⟨rfl, ⟨nd, rfl⟩⟩; (try first | exact ⟨rfl, _, World.drewN_drewN _ _ _⟩ | exact ⟨rfl, _, Eq.trans (World.drewN_drewN _ _ _) (congrArg (World.drewN _) (Nat.add_assoc _ _ _))⟩)))
    repeat (go_quiet (first | ((with_reducible refine gate_dst (N := 18) rfl ?_); refine Kd.R_lit (Kd.int .u8) _ 5 ?hg (N := 18) ?hd (xs := ([x5_1] : List Int)) (inner := [.int .u8 x5_1]) (ok := fun _ => True) (okp := fun _ => True) ?hr ?hp (fun _ hk => hk) trivial (Below.refl _ _) (Nat.le_refl _) (by simp) ?_; (case hd => rfl); (case hg => rfl); (case hr => first | (go_simp; done) | (go_simp; rfl)); (case hp => exact (Reps.one (show Kd.M (Kd.int .u8) _ _ _ x5_1 [.int .u8 x5_1] from rfl) (Reps.none _ _))); intro v617 w75 ho76 hb hg_ hnew_; clear hg_ hnew_; (first | rw [← Ny616.out] at ho76 | (simp only [Int.reduceToNat] at ho76; rw [← Ny616.out] at ho76)); have n0_ := Aside0.mk (Kd.R_lower ho76 (below_size bw)); have n1_ := Aside0.mk (below_step bw hb); clear HB; have HO618 := n0_; have HB := n1_; clear n0_ n1_; clear hb ho76; have hcv77 := own_string (P := Tryz.prog) Tryz.underlying40 Tryz.underlying5 Tryz.underlying9 (Kd.own_of_R HO618.out); have p67 : 0 ≤ (0 : Int) := om; have q67 : 0 < ((a0.extract 0 6) ++ (strOfNums y616)).size := (by have : (0 : Int) < (((a0.extract 0 6) ++ (strOfNums y616)).size : Int) := of_decide_eq_true am; omega); have hx67 : ∀ h : 0 < ((a0.extract 0 6) ++ (strOfNums y616)).size, ((((a0.extract 0 6) ++ (strOfNums y616))[0]'h).toNat : Int) = bt ((a0.extract 0 6) ++ (strOfNums y616)) 0 := bt_at ((a0.extract 0 6) ++ (strOfNums y616)) 0; clear p67; have qi67 : (0 < (((a0.extract 0 6) ++ (strOfNums y616)).size : Int)) = True := eq_true (of_decide_eq_true am); replace q67 := eq_true q67) | (go_at_call 52; (with_reducible refine (barscanref11_expand.calls k1 ((a0.extract 0 6) ++ (strOfNums y616)) t621 _ A69.out).mono ?_); rintro e w' ⟨rfl, ⟨nd, rfl⟩⟩; (try first | exact ⟨rfl, _, World.drewN_drewN _ _ _⟩ | exact ⟨rfl, _, Eq.trans (World.drewN_drewN _ _ _) (congrArg (World.drewN _) (Nat.add_assoc _ _ _))⟩))); try go_wp2_with (first | ((with_reducible refine gate_dst (N := 18) rfl ?_); refine Kd.R_lit (Kd.int .u8) _ 5 ?hg (N := 18) ?hd (xs := ([x5_1] : List Int)) (inner := [.int .u8 x5_1]) (ok := fun _ => True) (okp := fun _ => True) ?hr ?hp (fun _ hk => hk) trivial (Below.refl _ _) (Nat.le_refl _) (by simp) ?_; (case hd => rfl); (case hg => rfl); (case hr => first | (go_simp; done) | (go_simp; rfl)); (case hp => exact (Reps.one (show Kd.M (Kd.int .u8) _ _ _ x5_1 [.int .u8 x5_1] from rfl) (Reps.none _ _))); intro v617 w75 ho76 hb hg_ hnew_; clear hg_ hnew_; (first | rw [← Ny616.out] at ho76 | (simp only [Int.reduceToNat] at ho76; rw [← Ny616.out] at ho76)); have n0_ := Aside0.mk (Kd.R_lower ho76 (below_size bw)); have n1_ := Aside0.mk (below_step bw hb); clear HB; have HO618 := n0_; have HB := n1_; clear n0_ n1_; clear hb ho76; have hcv77 := own_string (P := Tryz.prog) Tryz.underlying40 Tryz.underlying5 Tryz.underlying9 (Kd.own_of_R HO618.out); have p67 : 0 ≤ (0 : Int) := om; have q67 : 0 < ((a0.extract 0 6) ++ (strOfNums y616)).size := (by have : (0 : Int) < (((a0.extract 0 6) ++ (strOfNums y616)).size : Int) := of_decide_eq_true am; omega); have hx67 : ∀ h : 0 < ((a0.extract 0 6) ++ (strOfNums y616)).size, ((((a0.extract 0 6) ++ (strOfNums y616))[0]'h).toNat : Int) = bt ((a0.extract 0 6) ++ (strOfNums y616)) 0 := bt_at ((a0.extract 0 6) ++ (strOfNums y616)) 0; clear p67; have qi67 : (0 < (((a0.extract 0 6) ++ (strOfNums y616)).size : Int)) = True := eq_true (of_decide_eq_true am); replace q67 := eq_true q67) | (go_at_call 52; (with_reducible refine (barscanref11_expand.calls k1 ((a0.extract 0 6) ++ (strOfNums y616)) t621 _ A69.out).mono ?_); rintro e w' ⟨rfl, ⟨nd, rfl⟩⟩; (try first | exact ⟨rfl, _, World.drewN_drewN _ _ _⟩ | exact ⟨rfl, _, Eq.trans (World.drewN_drewN _ _ _) (congrArg (World.drewN _) (Nat.add_assoc _ _ _))⟩))))
    go_ret2
    exact ⟨es, bw⟩
   have c62b0 : decide (52 < x5_1) = false := decide_eq_false c62
   clear c62
   replace H := ifn H
   obtain ⟨c84, H⟩ := H
   have c84b0 : decide (0 < ((((a0.extract 0 3) ++ (a0.extract 8 11)) ++ (strOfNums y616)).size : Int)) = true := decide_eq_true c84
   try have c84b0s := s4 c84b0
   try have c84b0t := s3 c84b0
   have c84b1 : decide (0 < (((a0.extract 0 3) ++ (a0.extract 8 11)) ++ (strOfNums y616)).size) = true := decide_eq_true om
   try have c84b1s := s4 c84b1
   try have c84b1t := s3 c84b1
   clear c84
   by_cases c86 : (bt (((a0.extract 0 3) ++ (a0.extract 8 11)) ++ (strOfNums y616)) 0) ≤ 49
   rotate_left
   ·rw [if_neg c86] at H
    have c86b0 : decide ((bt (((a0.extract 0 3) ++ (a0.extract 8 11)) ++ (strOfNums y616)) 0) ≤ 49) = false := decide_eq_false c86
    clear c86
    have H' := Aside0.mk H
    clear H
    go_wp2_with (first | ((with_reducible refine gate_dst (N := 18) rfl ?_); refine Kd.R_lit (Kd.int .u8) _ 5 ?hg (N := 18) ?hd (xs := ([x5_1] : List Int)) (inner := [.int .u8 x5_1]) (ok := fun _ => True) (okp := fun _ => True) ?hr ?hp (fun _ hk => hk) trivial (Below.refl _ _) (Nat.le_refl _) (by simp) ?_; (case hd => rfl); (case hg => rfl); (case hr => first | (go_simp; done) | (go_simp; rfl)); (case hp => exact (Reps.one (show Kd.M (Kd.int .u8) _ _ _ x5_1 [.int .u8 x5_1] from rfl) (Reps.none _ _))); intro v617 w99 ho100 hb hg_ hnew_; clear hg_ hnew_; (first | rw [← Ny616.out] at ho100 | (simp only [Int.reduceToNat] at ho100; rw [← Ny616.out] at ho100)); have n0_ := Aside0.mk (Kd.R_lower ho100 (below_size bw)); have n1_ := Aside0.mk (below_step bw hb); clear HB; have HO618 := n0_; have HB := n1_; clear n0_ n1_; clear hb ho100; have hcv101 := own_string (P := Tryz.prog) Tryz.underlying40 Tryz.underlying5 Tryz.underlying9 (Kd.own_of_R HO618.out); have p85 : 0 ≤ (0 : Int) := om; have q85 : 0 < (((a0.extract 0 3) ++ (a0.extract 8 11)) ++ (strOfNums y616)).size := (by have : (0 : Int) < ((((a0.extract 0 3) ++ (a0.extract 8 11)) ++ (strOfNums y616)).size : Int) := of_decide_eq_true am; omega); have hx85 : ∀ h : 0 < (((a0.extract 0 3) ++ (a0.extract 8 11)) ++ (strOfNums y616)).size, (((((a0.extract 0 3) ++ (a0.extract 8 11)) ++ (strOfNums y616))[0]'h).toNat : Int) = bt (((a0.extract 0 3) ++ (a0.extract 8 11)) ++ (strOfNums y616)) 0 := bt_at (((a0.extract 0 3) ++ (a0.extract 8 11)) ++ (strOfNums y616)) 0; clear p85; have qi85 : (0 < ((((a0.extract 0 3) ++ (a0.extract 8 11)) ++ (strOfNums y616)).size : Int)) = True := eq_true (of_decide_eq_true am); replace q85 := eq_true q85))
    repeat (go_quiet (first | ((with_reducible refine gate_dst (N := 18) rfl ?_); refine Kd.R_lit (Kd.int .u8) _ 5 ?hg (N := 18) ?hd (xs := ([x5_1] : List Int)) (inner := [.int .u8 x5_1]) (ok := fun _ => True) (okp := fun _ => True) ?hr ?hp (fun _ hk => hk) trivial (Below.refl _ _) (Nat.le_refl _) (by simp) ?_; (case hd => rfl); (case hg => rfl); (case hr => first | (go_simp; done) | (go_simp; rfl)); (case hp => exact (Reps.one (show Kd.M (Kd.int .u8) _ _ _ x5_1 [.int .u8 x5_1] from rfl) (Reps.none _ _))); intro v617 w99 ho100 hb hg_ hnew_; clear hg_ hnew_; (first | rw [← Ny616.out] at ho100 | (simp only [Int.reduceToNat] at ho100; rw [← Ny616.out] at ho100)); have n0_ := Aside0.mk (Kd.R_lower ho100 (below_size bw)); have n1_ := Aside0.mk (below_step bw hb); clear HB; have HO618 := n0_; have HB := n1_; clear n0_ n1_; clear hb ho100; have hcv101 := own_string (P := Tryz.prog) Tryz.underlying40 Tryz.underlying5 Tryz.underlying9 (Kd.own_of_R HO618.out); have p85 : 0 ≤ (0 : Int) := om; have q85 : 0 < (((a0.extract 0 3) ++ (a0.extract 8 11)) ++ (strOfNums y616)).size := (by have : (0 : Int) < ((((a0.extract 0 3) ++ (a0.extract 8 11)) ++ (strOfNums y616)).size : Int) := of_decide_eq_true am; omega); have hx85 : ∀ h : 0 < (((a0.extract 0 3) ++ (a0.extract 8 11)) ++ (strOfNums y616)).size, (((((a0.extract 0 3) ++ (a0.extract 8 11)) ++ (strOfNums y616))[0]'h).toNat : Int) = bt (((a0.extract 0 3) ++ (a0.extract 8 11)) ++ (strOfNums y616)) 0 := bt_at (((a0.extract 0 3) ++ (a0.extract 8 11)) ++ (strOfNums y616)) 0; clear p85; have qi85 : (0 < ((((a0.extract 0 3) ++ (a0.extract 8 11)) ++ (strOfNums y616)).size : Int)) = True := eq_true (of_decide_eq_true am); replace q85 := eq_true q85)); try go_wp2_with (first | ((with_reducible refine gate_dst (N := 18) rfl ?_); refine Kd.R_lit (Kd.int .u8) _ 5 ?hg (N := 18) ?hd (xs := ([x5_1] : List Int)) (inner := [.int .u8 x5_1]) (ok := fun _ => True) (okp := fun _ => True) ?hr ?hp (fun _ hk => hk) trivial (Below.refl _ _) (Nat.le_refl _) (by simp) ?_; (case hd => rfl); (case hg => rfl); (case hr => first | (go_simp; done) | (go_simp; rfl)); (case hp => exact (Reps.one (show Kd.M (Kd.int .u8) _ _ _ x5_1 [.int .u8 x5_1] from rfl) (Reps.none _ _))); intro v617 w99 ho100 hb hg_ hnew_; clear hg_ hnew_; (first | rw [← Ny616.out] at ho100 | (simp only [Int.reduceToNat] at ho100; rw [← Ny616.out] at ho100)); have n0_ := Aside0.mk (Kd.R_lower ho100 (below_size bw)); have n1_ := Aside0.mk (below_step bw hb); clear HB; have HO618 := n0_; have HB := n1_; clear n0_ n1_; clear hb ho100; have hcv101 := own_string (P := Tryz.prog) Tryz.underlying40 Tryz.underlying5 Tryz.underlying9 (Kd.own_of_R HO618.out); have p85 : 0 ≤ (0 : Int) := om; have q85 : 0 < (((a0.extract 0 3) ++ (a0.extract 8 11)) ++ (strOfNums y616)).size := (by have : (0 : Int) < ((((a0.extract 0 3) ++ (a0.extract 8 11)) ++ (strOfNums y616)).size : Int) := of_decide_eq_true am; omega); have hx85 : ∀ h : 0 < (((a0.extract 0 3) ++ (a0.extract 8 11)) ++ (strOfNums y616)).size, (((((a0.extract 0 3) ++ (a0.extract 8 11)) ++ (strOfNums y616))[0]'h).toNat : Int) = bt (((a0.extract 0 3) ++ (a0.extract 8 11)) ++ (strOfNums y616)) 0 := bt_at (((a0.extract 0 3) ++ (a0.extract 8 11)) ++ (strOfNums y616)) 0; clear p85; have qi85 : (0 < ((((a0.extract 0 3) ++ (a0.extract 8 11)) ++ (strOfNums y616)).size : Int)) = True := eq_true (of_decide_eq_true am); replace q85 := eq_true q85)))
    go_roundg k1
    case measure => have := HK1.out; omega
    case rel => exact ⟨((x5_1 + 1) % 256), rs, H', ⟨by have := HK1.out; omega⟩, ⟨bw⟩⟩
   rw [if_pos c86] at H
   have c86b0 : decide ((bt (((a0.extract 0 3) ++ (a0.extract 8 11)) ++ (strOfNums y616)) 0) ≤ 49) = true := decide_eq_true c86
   clear c86
   replace H := bd H
   obtain ⟨t622, A87, H⟩ := H
   replace H := ifn H
   obtain ⟨c88, H⟩ := H
   have c88b0 := eq_true c88
   try have c88b0s := s1 c88b0
   have c88b1 : decide (0 ≤ 11) = true := decide_eq_true c88
   clear c88
   have c89b0 := eq_true (of_decide_eq_true am : 11 ≤ (a0.size : Int))
   try have c89b0s := s1 c89b0
   by_cases c90 : t622.toList = (a0.extract 0 11).toList
   rotate_left
   ·rw [if_neg c90] at H
    have c90b0 : (t622.toList == (a0.extract 0 11).toList) = false := beq_eq_false_iff_ne.mpr c90
    have c90b1 : (t622.toList != (a0.extract 0 11).toList) = true := bne_iff_ne.mpr c90
    have H' := Aside0.mk H
    clear H
    go_wp2_with (first | ((with_reducible refine gate_dst (N := 18) rfl ?_); refine Kd.R_lit (Kd.int .u8) _ 5 ?hg (N := 18) ?hd (xs := ([x5_1] : List Int)) (inner := [.int .u8 x5_1]) (ok := fun _ => True) (okp := fun _ => True) ?hr ?hp (fun _ hk => hk) trivial (Below.refl _ _) (Nat.le_refl _) (by simp) ?_; (case hd => rfl); (case hg => rfl); (case hr => first | (go_simp; done) | (go_simp; rfl)); (case hp => exact (Reps.one (show Kd.M (Kd.int .u8) _ _ _ x5_1 [.int .u8 x5_1] from rfl) (Reps.none _ _))); intro v617 w96 ho97 hb hg_ hnew_; clear hg_ hnew_; (first | rw [← Ny616.out] at ho97 | (simp only [Int.reduceToNat] at ho97; rw [← Ny616.out] at ho97)); have n0_ := Aside0.mk (Kd.R_lower ho97 (below_size bw)); have n1_ := Aside0.mk (below_step bw hb); clear HB; have HO618 := n0_; have HB := n1_; clear n0_ n1_; clear hb ho97; have hcv98 := own_string (P := Tryz.prog) Tryz.underlying40 Tryz.underlying5 Tryz.underlying9 (Kd.own_of_R HO618.out); have p85 : 0 ≤ (0 : Int) := om; have q85 : 0 < (((a0.extract 0 3) ++ (a0.extract 8 11)) ++ (strOfNums y616)).size := (by have : (0 : Int) < ((((a0.extract 0 3) ++ (a0.extract 8 11)) ++ (strOfNums y616)).size : Int) := of_decide_eq_true am; omega); have hx85 : ∀ h : 0 < (((a0.extract 0 3) ++ (a0.extract 8 11)) ++ (strOfNums y616)).size, (((((a0.extract 0 3) ++ (a0.extract 8 11)) ++ (strOfNums y616))[0]'h).toNat : Int) = bt (((a0.extract 0 3) ++ (a0.extract 8 11)) ++ (strOfNums y616)) 0 := bt_at (((a0.extract 0 3) ++ (a0.extract 8 11)) ++ (strOfNums y616)) 0; clear p85; have qi85 : (0 < ((((a0.extract 0 3) ++ (a0.extract 8 11)) ++ (strOfNums y616)).size : Int)) = True := eq_true (of_decide_eq_true am); replace q85 := eq_true q85) | (go_at_call 52; (with_reducible refine (barscanref11_expand.calls k1 (((a0.extract 0 3) ++ (a0.extract 8 11)) ++ (strOfNums y616)) t622 _ A87.out).mono ?_); rintro e w' ⟨rfl, ⟨nd, rfl⟩⟩; (try first | exact ⟨rfl, _, World.drewN_drewN _ _ _⟩ | exact ⟨rfl, _, Eq.trans (World.drewN_drewN _ _ _) (congrArg (World.drewN _) (Nat.add_assoc _ _ _))⟩)))
    repeat (go_quiet (first | ((with_reducible refine gate_dst (N := 18) rfl ?_); refine Kd.R_lit (Kd.int .u8) _ 5 ?hg (N := 18) ?hd (xs := ([x5_1] : List Int)) (inner := [.int .u8 x5_1]) (ok := fun _ => True) (okp := fun _ => True) ?hr ?hp (fun _ hk => hk) trivial (Below.refl _ _) (Nat.le_refl _) (by simp) ?_; (case hd => rfl); (case hg => rfl); (case hr => first | (go_simp; done) | (go_simp; rfl)); (case hp => exact (Reps.one (show Kd.M (Kd.int .u8) _ _ _ x5_1 [.int .u8 x5_1] from rfl) (Reps.none _ _))); intro v617 w96 ho97 hb hg_ hnew_; clear hg_ hnew_; (first | rw [← Ny616.out] at ho97 | (simp only [Int.reduceToNat] at ho97; rw [← Ny616.out] at ho97)); have n0_ := Aside0.mk (Kd.R_lower ho97 (below_size bw)); have n1_ := Aside0.mk (below_step bw hb); clear HB; have HO618 := n0_; have HB := n1_; clear n0_ n1_; clear hb ho97; have hcv98 := own_string (P := Tryz.prog) Tryz.underlying40 Tryz.underlying5 Tryz.underlying9 (Kd.own_of_R HO618.out); have p85 : 0 ≤ (0 : Int) := om; have q85 : 0 < (((a0.extract 0 3) ++ (a0.extract 8 11)) ++ (strOfNums y616)).size := (by have : (0 : Int) < ((((a0.extract 0 3) ++ (a0.extract 8 11)) ++ (strOfNums y616)).size : Int) := of_decide_eq_true am; omega); have hx85 : ∀ h : 0 < (((a0.extract 0 3) ++ (a0.extract 8 11)) ++ (strOfNums y616)).size, (((((a0.extract 0 3) ++ (a0.extract 8 11)) ++ (strOfNums y616))[0]'h).toNat : Int) = bt (((a0.extract 0 3) ++ (a0.extract 8 11)) ++ (strOfNums y616)) 0 := bt_at (((a0.extract 0 3) ++ (a0.extract 8 11)) ++ (strOfNums y616)) 0; clear p85; have qi85 : (0 < ((((a0.extract 0 3) ++ (a0.extract 8 11)) ++ (strOfNums y616)).size : Int)) = True := eq_true (of_decide_eq_true am); replace q85 := eq_true q85) | (go_at_call 52; (with_reducible refine (barscanref11_expand.calls k1 (((a0.extract 0 3) ++ (a0.extract 8 11)) ++ (strOfNums y616)) t622 _ A87.out).mono ?_); rintro e w' ⟨rfl, ⟨nd, rfl⟩⟩; (try first | exact ⟨rfl, _, World.drewN_drewN _ _ _⟩ | exact ⟨rfl, _, Eq.trans (World.drewN_drewN _ _ _) (congrArg (World.drewN _) (Nat.add_assoc _ _ _))⟩))); try go_wp2_with (first | ((with_reducible refine gate_dst (N := 18) rfl ?_); refine Kd.R_lit (Kd.int .u8) _ 5 ?hg (N := 18) ?hd (xs := ([x5_1] : List Int)) (inner := [.int .u8 x5_1]) (ok := fun _ => True) (okp := fun _ => True) ?hr ?hp (fun _ hk => hk) trivial (Below.refl _ _) (Nat.le_refl _) (by simp) ?_; (case hd => rfl); (case hg => rfl); (case hr => first | (go_simp; done) | (go_simp; rfl)); (case hp => exact (Reps.one (show Kd.M (Kd.int .u8) _ _ _ x5_1 [.int .u8 x5_1] from rfl) (Reps.none _ _))); intro v617 w96 ho97 hb hg_ hnew_; clear hg_ hnew_; (first | rw [← Ny616.out] at ho97 | (simp only [Int.reduceToNat] at ho97; rw [← Ny616.out] at ho97)); have n0_ := Aside0.mk (Kd.R_lower ho97 (below_size bw)); have n1_ := Aside0.mk (below_step bw hb); clear HB; have HO618 := n0_; have HB := n1_; clear n0_ n1_; clear hb ho97; have hcv98 := own_string (P := Tryz.prog) Tryz.underlying40 Tryz.underlying5 Tryz.underlying9 (Kd.own_of_R HO618.out); have p85 : 0 ≤ (0 : Int) := om; have q85 : 0 < (((a0.extract 0 3) ++ (a0.extract 8 11)) ++ (strOfNums y616)).size := (by have : (0 : Int) < ((((a0.extract 0 3) ++ (a0.extract 8 11)) ++ (strOfNums y616)).size : Int) := of_decide_eq_true am; omega); have hx85 : ∀ h : 0 < (((a0.extract 0 3) ++ (a0.extract 8 11)) ++ (strOfNums y616)).size, (((((a0.extract 0 3) ++ (a0.extract 8 11)) ++ (strOfNums y616))[0]'h).toNat : Int) = bt (((a0.extract 0 3) ++ (a0.extract 8 11)) ++ (strOfNums y616)) 0 := bt_at (((a0.extract 0 3) ++ (a0.extract 8 11)) ++ (strOfNums y616)) 0; clear p85; have qi85 : (0 < ((((a0.extract 0 3) ++ (a0.extract 8 11)) ++ (strOfNums y616)).size : Int)) = True := eq_true (of_decide_eq_true am); replace q85 := eq_true q85) | (go_at_call 52; (with_reducible refine (barscanref11_expand.calls k1 (((a0.extract 0 3) ++ (a0.extract 8 11)) ++ (strOfNums y616)) t622 _ A87.out).mono ?_); rintro e w' ⟨rfl, ⟨nd, rfl⟩⟩; (try first | exact ⟨rfl, _, World.drewN_drewN _ _ _⟩ | exact ⟨rfl, _, Eq.trans (World.drewN_drewN _ _ _) (congrArg (World.drewN _) (Nat.add_assoc _ _ _))⟩))))
    go_roundg k1
    case measure => have := HK1.out; omega
    case rel => exact ⟨((x5_1 + 1) % 256), rs, H', ⟨by have := HK1.out; omega⟩, ⟨bw⟩⟩
   rw [if_pos c90] at H
   have c90b0 : (t622.toList == (a0.extract 0 11).toList) = true := beq_iff_eq.mpr c90
   have c90b1 : (t622.toList != (a0.extract 0 11).toList) = false := bne_eq_false_iff_eq.mpr c90
   clear c90
   have c91b0 := eq_true (of_decide_eq_true am : 11 ≤ (a0.size : Int))
   try have c91b0s := s1 c91b0
   replace H := ifn H
   obtain ⟨c92, H⟩ := H
   have c92b0 := eq_true c92
   try have c92b0s := s1 c92b0
   have c92b1 : decide ((((a0.extract 0 3) ++ (a0.extract 8 11)) ++ (strOfNums y616)).size + (a0.extract 11 a0.size).size ≤ 9223372036854775807) = true := decide_eq_true c92
   try have c92b1s := s4 c92b1
   try have c92b1t := s3 c92b1
   try have c92b2 : (9223372036854775807 < (((a0.extract 0 3) ++ (a0.extract 8 11)) ++ (strOfNums y616)).size + (a0.extract 11 a0.size).size) = False := eq_false (Nat.not_lt.2 c92)
   try have c92b2s := s2 c92b2
   simp only [Option.some.injEq, Prod.mk.injEq] at H
   obtain ⟨rfl, rfl⟩ := H
   go_wp2_with (first | ((with_reducible refine gate_dst (N := 18) rfl ?_); refine Kd.R_lit (Kd.int .u8) _ 5 ?hg (N := 18) ?hd (xs := ([x5_1] : List Int)) (inner := [.int .u8 x5_1]) (ok := fun _ => True) (okp := fun _ => True) ?hr ?hp (fun _ hk => hk) trivial (Below.refl _ _) (Nat.le_refl _) (by simp) ?_; (case hd => rfl); (case hg => rfl); (case hr => first | (go_simp; done) | (go_simp; rfl)); (case hp => exact (Reps.one (show Kd.M (Kd.int .u8) _ _ _ x5_1 [.int .u8 x5_1] from rfl) (Reps.none _ _))); intro v617 w93 ho94 hb hg_ hnew_; clear hg_ hnew_; (first | rw [← Ny616.out] at ho94 | (simp only [Int.reduceToNat] at ho94; rw [← Ny616.out] at ho94)); have n0_ := Aside0.mk (Kd.R_lower ho94 (below_size bw)); have n1_ := Aside0.mk (below_step bw hb); clear HB; have HO618 := n0_; have HB := n1_; clear n0_ n1_; clear hb ho94; have hcv95 := own_string (P := Tryz.prog) Tryz.underlying40 Tryz.underlying5 Tryz.underlying9 (Kd.own_of_R HO618.out); have p85 : 0 ≤ (0 : Int) := om; have q85 : 0 < (((a0.extract 0 3) ++ (a0.extract 8 11)) ++ (strOfNums y616)).size := (by have : (0 : Int) < ((((a0.extract 0 3) ++ (a0.extract 8 11)) ++ (strOfNums y616)).size : Int) := of_decide_eq_true am; omega); have hx85 : ∀ h : 0 < (((a0.extract 0 3) ++ (a0.extract 8 11)) ++ (strOfNums y616)).size, (((((a0.extract 0 3) ++ (a0.extract 8 11)) ++ (strOfNums y616))[0]'h).toNat : Int) = bt (((a0.extract 0 3) ++ (a0.extract 8 11)) ++ (strOfNums y616)) 0 := bt_at (((a0.extract 0 3) ++ (a0.extract 8 11)) ++ (strOfNums y616)) 0; clear p85; have qi85 : (0 < ((((a0.extract 0 3) ++ (a0.extract 8 11)) ++ (strOfNums y616)).size : Int)) = True := eq_true (of_decide_eq_true am); replace q85 := eq_true q85) | (go_at_call 52; (with_reducible refine (barscanref11_expand.calls k1 (((a0.extract 0 3) ++ (a0.extract 8 11)) ++ (strOfNums y616)) t622 _ A87.out).mono ?_); rintro e w' ⟨rfl, ⟨nd, rfl⟩⟩; (try first | exact ⟨rfl, _, World.drewN_drewN _ _ _⟩ | exact ⟨rfl, _, Eq.trans (World.drewN_drewN _ _ _) (congrArg (World.drewN _) (Nat.add_assoc _ _ _))⟩)))
   repeat (go_quiet (first | ((with_reducible refine gate_dst (N := 18) rfl ?_); refine Kd.R_lit (Kd.int .u8) _ 5 ?hg (N := 18) ?hd (xs := ([x5_1] : List Int)) (inner := [.int .u8 x5_1]) (ok := fun _ => True) (okp := fun _ => True) ?hr ?hp (fun _ hk => hk) trivial (Below.refl _ _) (Nat.le_refl _) (by simp) ?_; (case hd => rfl); (case hg => rfl); (case hr => first | (go_simp; done) | (go_simp; rfl)); (case hp => exact (Reps.one (show Kd.M (Kd.int .u8) _ _ _ x5_1 [.int .u8 x5_1] from rfl) (Reps.none _ _))); intro v617 w93 ho94 hb hg_ hnew_; clear hg_ hnew_; (first | rw [← Ny616.out] at ho94 | (simp only [Int.reduceToNat] at ho94; rw [← Ny616.out] at ho94)); have n0_ := Aside0.mk (Kd.R_lower ho94 (below_size bw)); have n1_ := Aside0.mk (below_step bw hb); clear HB; have HO618 := n0_; have HB := n1_; clear n0_ n1_; clear hb ho94; have hcv95 := own_string (P := Tryz.prog) Tryz.underlying40 Tryz.underlying5 Tryz.underlying9 (Kd.own_of_R HO618.out); have p85 : 0 ≤ (0 : Int) := om; have q85 : 0 < (((a0.extract 0 3) ++ (a0.extract 8 11)) ++ (strOfNums y616)).size := (by have : (0 : Int) < ((((a0.extract 0 3) ++ (a0.extract 8 11)) ++ (strOfNums y616)).size : Int) := of_decide_eq_true am; omega); have hx85 : ∀ h : 0 < (((a0.extract 0 3) ++ (a0.extract 8 11)) ++ (strOfNums y616)).size, (((((a0.extract 0 3) ++ (a0.extract 8 11)) ++ (strOfNums y616))[0]'h).toNat : Int) = bt (((a0.extract 0 3) ++ (a0.extract 8 11)) ++ (strOfNums y616)) 0 := bt_at (((a0.extract 0 3) ++ (a0.extract 8 11)) ++ (strOfNums y616)) 0; clear p85; have qi85 : (0 < ((((a0.extract 0 3) ++ (a0.extract 8 11)) ++ (strOfNums y616)).size : Int)) = True := eq_true (of_decide_eq_true am); replace q85 := eq_true q85) | (go_at_call 52; (with_reducible refine (barscanref11_expand.calls k1 (((a0.extract 0 3) ++ (a0.extract 8 11)) ++ (strOfNums y616)) t622 _ A87.out).mono ?_); rintro e w' ⟨rfl, ⟨nd, rfl⟩⟩; (try first | exact ⟨rfl, _, World.drewN_drewN _ _ _⟩ | exact ⟨rfl, _, Eq.trans (World.drewN_drewN _ _ _) (congrArg (World.drewN _) (Nat.add_assoc _ _ _))⟩))); try go_wp2_with (first | ((with_reducible refine gate_dst (N := 18) rfl ?_); refine Kd.R_lit (Kd.int .u8) _ 5 ?hg (N := 18) ?hd (xs := ([x5_1] : List Int)) (inner := [.int .u8 x5_1]) (ok := fun _ => True) (okp := fun _ => True) ?hr ?hp (fun _ hk => hk) trivial (Below.refl _ _) (Nat.le_refl _) (by simp) ?_; (case hd => rfl); (case hg => rfl); (case hr => first | (go_simp; done) | (go_simp; rfl)); (case hp => exact (Reps.one (show Kd.M (Kd.int .u8) _ _ _ x5_1 [.int .u8 x5_1] from rfl) (Reps.none _ _))); intro v617 w93 ho94 hb hg_ hnew_; clear hg_ hnew_; (first | rw [← Ny616.out] at ho94 | (simp only [Int.reduceToNat] at ho94; rw [← Ny616.out] at ho94)); have n0_ := Aside0.mk (Kd.R_lower ho94 (below_size bw)); have n1_ := Aside0.mk (below_step bw hb); clear HB; have HO618 := n0_; have HB := n1_; clear n0_ n1_; clear hb ho94; have hcv95 := own_string (P := Tryz.prog) Tryz.underlying40 Tryz.underlying5 Tryz.underlying9 (Kd.own_of_R HO618.out); have p85 : 0 ≤ (0 : Int) := om; have q85 : 0 < (((a0.extract 0 3) ++ (a0.extract 8 11)) ++ (strOfNums y616)).size := (by have : (0 : Int) < ((((a0.extract 0 3) ++ (a0.extract 8 11)) ++ (strOfNums y616)).size : Int) := of_decide_eq_true am; omega); have hx85 : ∀ h : 0 < (((a0.extract 0 3) ++ (a0.extract 8 11)) ++ (strOfNums y616)).size, (((((a0.extract 0 3) ++ (a0.extract 8 11)) ++ (strOfNums y616))[0]'h).toNat : Int) = bt (((a0.extract 0 3) ++ (a0.extract 8 11)) ++ (strOfNums y616)) 0 := bt_at (((a0.extract 0 3) ++ (a0.extract 8 11)) ++ (strOfNums y616)) 0; clear p85; have qi85 : (0 < ((((a0.extract 0 3) ++ (a0.extract 8 11)) ++ (strOfNums y616)).size : Int)) = True := eq_true (of_decide_eq_true am); replace q85 := eq_true q85) | (go_at_call 52; (with_reducible refine (barscanref11_expand.calls k1 (((a0.extract 0 3) ++ (a0.extract 8 11)) ++ (strOfNums y616)) t622 _ A87.out).mono ?_); rintro e w' ⟨rfl, ⟨nd, rfl⟩⟩; (try first | exact ⟨rfl, _, World.drewN_drewN _ _ _⟩ | exact ⟨rfl, _, Eq.trans (World.drewN_drewN _ _ _) (congrArg (World.drewN _) (Nat.add_assoc _ _ _))⟩))))
   go_ret2
   exact ⟨es, bw⟩

end Go.Proofs.YtjmeekceecpemaaGreatDoor.Q

/- Expanded and compressed texts: what both sides answer. -/
namespace Go.Proofs.YtjmeekceecpemaaGreatDoor.Q
open Go.RowKit Go.Proofs.YtjmeekceecpemaaGreatDoorW.PrintWords Go.Proofs.YtjmeekceecpemaaGreatDoorW.PrintLast Go.Proofs.YtjmeekceecpemaaGreatDoorW.PrintMore
set_option linter.unusedVariables false
set_option linter.unusedSimpArgs false
theorem len4 : lenS 4 = 8 := by decide
theorem len3 : lenS 3 = 12 := by decide
theorem cmp_zero {a : Int} {s : ByteArray} (h : cmpS a s = 0) : lenS a ≠ 0 ∧ allDig s = true ∧ (s.size : Int) = lenS a ∧ ¬ (a = 4 ∧ bt s 0 > 49) ∧ s = outB a s := by
  unfold cmpS at h
  by_cases hn : lenS a = 0
  · rw [if_pos hn] at h; cases h
  rw [if_neg hn] at h
  by_cases hd : allDig s = true
  · rw [if_pos hd] at h
    by_cases hz : (s.size : Int) = lenS a
    · rw [if_pos hz] at h
      by_cases h4 : a = 4 ∧ bt s 0 > 49
      · rw [if_pos h4] at h; cases h
      rw [if_neg h4] at h
      by_cases ho : s = outB a s
      · exact ⟨hn, hd, hz, h4, ho⟩
      · rw [if_neg ho] at h; cases h
    · rw [if_neg hz] at h; cases h
  · rw [if_neg hd] at h; cases h
theorem ex_ex (s : ByteArray) (n a b : Nat) (h : b ≤ n) : (s.extract 0 n).extract a b = s.extract a b := by
  apply bs_inj
  rw [bs_extract, bs_extract, bs_extract, List.drop_zero, Nat.sub_zero, List.drop_take, List.take_take]
  congr 1
  omega
theorem bt_ex (s : ByteArray) (n i : Nat) (h : i < n) (h2 : n ≤ s.size) : bt (s.extract 0 n) (i : Int) = bt s (i : Int) := by
  have h1 : i < (bs s).length := by rw [bs_len]; omega
  have h3 : i < (bs (s.extract 0 n)).length := by rw [bs_len, ex_size]; omega
  rw [bt_nat s i h1, bt_nat _ i h3]
  simp only [bs_extract, List.drop_zero, List.getElem_take]
theorem exp_ex (s : ByteArray) (h : 7 ≤ s.size) : expB (s.extract 0 7) = expB s := by
  unfold expB
  rw [show bt (s.extract 0 7) 6 = bt s 6 from bt_ex s 7 6 (by omega) h]
  simp only [ex_ex s 7 _ _ (show 3 ≤ 7 by omega), ex_ex s 7 _ _ (show 6 ≤ 7 by omega), ex_ex s 7 _ _ (show 7 ≤ 7 by omega), ex_ex s 7 _ _ (show 4 ≤ 7 by omega), ex_ex s 7 _ _ (show 5 ≤ 7 by omega)]
def expdS (s : ByteArray) : ByteArray × Int := if cmpS 4 s = 0 then (expB s ++ s.extract 7 s.size, 0) else (⟨#[]⟩, cmpS 4 s)
theorem gExpand (k : Nat) (s : ByteArray) (hs : s.size ≤ 9223372036854775807) : ean_Expand.f (k + 1) s = some (expdS s) := by
  unfold ean_Expand.f expdS
  rw [gcomplete k 4 s hs, Option.bind_some]
  by_cases h : cmpS 4 s = 0
  · obtain ⟨_, hd, hz, _, _⟩ := cmp_zero h
    rw [len4] at hz
    rw [if_pos h, if_pos h, gexp s (by omega), Option.bind_some, if_pos (by omega), if_pos (by rw [exp_size s (by omega), ex_size]; omega)]
  · rw [if_neg h, if_neg h]
theorem rExpand (s : ByteArray) (hs : s.size ≤ 9223372036854775807) : Ev (fun k => barscanref11_Expand.f k s) (expdS s) := by
  unfold barscanref11_Expand.f expdS
  refine Ev.bind (rcomplete 4 s hs) ?_
  by_cases h : cmpS 4 s = 0
  · obtain ⟨_, hd, hz, _, _⟩ := cmp_zero h
    rw [len4] at hz
    rw [if_pos h]
    have hr : Ev (fun k => barscanref11_expand.f k (s.extract 0 7)) (expB s) := ⟨1, fun k hk => by
      obtain ⟨j, rfl⟩ : ∃ j, k = j + 1 := ⟨k - 1, by omega⟩
      show barscanref11_expand.f (j + 1) (s.extract 0 7) = _
      rw [rexp j _ (by rw [ex_size]; omega) (dig_at (dig_extract hd 0 7) 6 (by rw [ex_size]; omega)).1, exp_ex s (by omega)]⟩
    refine Ev.pos h (Ev.pos (by omega) (Ev.pos (by omega) (Ev.bind hr (Ev.pos ?_ (Ev.const rfl)))))
    rw [exp_size s (by omega), ex_size]; omega
  · rw [if_neg h]
    exact Ev.neg h (Ev.const rfl)
/-! ### Compressing -/
def cA (u : ByteArray) : ByteArray := (u.extract 0 3 ++ u.extract 8 11) ++ u.extract 3 4
def cB (u : ByteArray) : ByteArray := (u.extract 0 4 ++ u.extract 9 11) ++ (⟨#[51]⟩ : ByteArray)
def cC (u : ByteArray) : ByteArray := (u.extract 0 5 ++ u.extract 10 11) ++ (⟨#[52]⟩ : ByteArray)
def cD (u : ByteArray) : ByteArray := u.extract 0 6 ++ u.extract 10 11
def hit (x u : ByteArray) : Prop := bt x 0 ≤ 49 ∧ expB x = u.extract 0 11
instance (x u : ByteArray) : Decidable (hit x u) := by unfold hit; exact instDecidableAnd
def srchS (u : ByteArray) : ByteArray × Int :=
  if bt (cA u) 6 ≤ 50 ∧ hit (cA u) u then (cA u ++ u.extract 11 u.size, 0) else if hit (cB u) u then (cB u ++ u.extract 11 u.size, 0)
  else if hit (cC u) u then (cC u ++ u.extract 11 u.size, 0) else if bt (cD u) 6 ≥ 53 ∧ hit (cD u) u then (cD u ++ u.extract 11 u.size, 0) else (⟨#[]⟩, 9)
def cprS (u : ByteArray) : ByteArray × Int := if cmpS 3 u = 0 then srchS u else (⟨#[]⟩, cmpS 3 u)
theorem rdOf_nat {α : Type} (d : α) (l : List α) (j : Nat) (h : j < l.length) : rdOf d l (j : Int) = l[j] := by
  simp [rdOf, List.getD, h]
theorem gcpr_step (k : Nat) (u : ByteArray) (l : List ByteArray) (j : Nat) (hl : l.length = 4) (hj : j < 4) (x : ByteArray) (hx : rdOf ByteArray.empty l (j : Int) = x) (h7 : x.size = 7) (hu : u.size = 12) (c : Bool)
    (hc : rdOf false [decide ((bt x 6) ≤ 50), true, true, decide ((bt x 6) ≥ 53)] (j : Int) = c) :
    ean_Compress.l0 (k + 1) u l 4 (j : Int) = if c = true ∧ hit x u then some (x ++ u.extract 11 u.size, 0) else ean_Compress.l0 k u l 4 ((j + 1 : Nat) : Int) := by
  have hw : wrap64 ((j : Int) + 1) = ((j + 1 : Nat) : Int) := wrap_next j (by omega)
  simp only [ean_Compress.l0]
  rw [if_pos (show (j : Int) < 4 by omega), if_pos (show (0 : Int) ≤ j by omega), if_pos (show (j : Int) < (l.length : Int) by omega), hx, if_pos (by omega), Option.bind_some, if_pos (show (j : Int) < (([decide ((bt x 6) ≤ 50), true, true, decide ((bt x 6) ≥ 53)] : List Bool).length : Int) by simp only [List.length_cons, List.length_nil]; omega), hc, hw]
  by_cases h1 : c = true
  · rw [if_pos h1, if_pos (by omega)]
    by_cases h2 : bt x 0 ≤ 49
    · rw [if_pos h2, gexp x (by omega), Option.bind_some, if_pos (by omega), if_pos (by omega)]
      by_cases h3 : expB x = u.extract 0 11
      · rw [if_pos ((tl_iff _ _).2 h3), if_pos (by rw [ex_size]; omega), if_pos ⟨h1, h2, h3⟩]
      · rw [if_neg (fun h => h3 ((tl_iff _ _).1 h)), if_neg (fun h => h3 h.2.2)]
    · rw [if_neg h2, if_neg (fun h => h2 h.2.1)]
  · rw [if_neg h1, if_neg (fun h => h1 h.1)]
theorem c_size (u : ByteArray) (hu : u.size = 12) : (cA u).size = 7 ∧ (cB u).size = 7 ∧ (cC u).size = 7 ∧ (cD u).size = 7 := by
  have z1 : (⟨#[51]⟩ : ByteArray).size = 1 := rfl
  have z2 : (⟨#[52]⟩ : ByteArray).size = 1 := rfl
  unfold cA cB cC cD
  simp only [ap_size, ex_size, z1, z2]
  omega
theorem gsrch (k : Nat) (u : ByteArray) (hu : u.size = 12) : ean_Compress.l0 (k + 5) u [cA u, cB u, cC u, cD u] 4 0 = some (srchS u) := by
  obtain ⟨hA, hB, hC, hD⟩ := c_size u hu
  unfold srchS
  rw [show (0 : Int) = ((0 : Nat) : Int) from rfl, gcpr_step _ u _ 0 rfl (by omega) (cA u) rfl hA hu (decide ((bt (cA u) 6) ≤ 50)) rfl]
  rw [show ((0 : Nat) : Int) = 0 from rfl]
  by_cases h1 : bt (cA u) 6 ≤ 50 ∧ hit (cA u) u
  · rw [if_pos h1, if_pos ⟨decide_eq_true h1.1, h1.2⟩]
  rw [if_neg h1, if_neg (fun h => h1 ⟨of_decide_eq_true h.1, h.2⟩), gcpr_step _ u _ 1 rfl (by omega) (cB u) rfl hB hu true rfl]
  by_cases h2 : hit (cB u) u
  · rw [if_pos h2, if_pos ⟨rfl, h2⟩]
  rw [if_neg h2, if_neg (fun h => h2 h.2), gcpr_step _ u _ 2 rfl (by omega) (cC u) rfl hC hu true rfl]
  by_cases h3 : hit (cC u) u
  · rw [if_pos h3, if_pos ⟨rfl, h3⟩]
  rw [if_neg h3, if_neg (fun h => h3 h.2), gcpr_step _ u _ 3 rfl (by omega) (cD u) rfl hD hu (decide ((bt (cD u) 6) ≥ 53)) rfl]
  by_cases h4 : bt (cD u) 6 ≥ 53 ∧ hit (cD u) u
  · rw [if_pos h4, if_pos ⟨decide_eq_true h4.1, h4.2⟩]
  rw [if_neg h4, if_neg (fun h => h4 ⟨of_decide_eq_true h.1, h.2⟩)]
  simp only [ean_Compress.l0]
  rw [if_neg (by decide)]
theorem gCompress (k : Nat) (u : ByteArray) (hs : u.size ≤ 9223372036854775807) : ean_Compress.f (k + 5) u = some (cprS u) := by
  unfold ean_Compress.f cprS
  rw [gcomplete (k + 4) 3 u hs, Option.bind_some]
  by_cases h : cmpS 3 u = 0
  · obtain ⟨_, hd, hz, _, _⟩ := cmp_zero h
    rw [len3] at hz
    rw [if_pos h, if_pos h]
    have z1 : (⟨#[51]⟩ : ByteArray).size = 1 := rfl
    have z2 : (⟨#[52]⟩ : ByteArray).size = 1 := rfl
    repeat rw [if_pos (by first | omega | (simp only [ap_size, ex_size, z1, z2]; omega))]
    rw [Option.bind_some]
    exact gsrch k u (by omega)
  · rw [if_neg h, if_neg h]
/-- A candidate of the reference. -/
def sf (u : ByteArray) (f : Nat) : ByteArray :=
  if f = 51 then (u.extract 0 4 ++ u.extract 9 11) ++ strOfNums [(f : Int)] else if f = 52 then (u.extract 0 5 ++ u.extract 10 11) ++ strOfNums [(f : Int)]
  else if f > 52 then u.extract 0 6 ++ strOfNums [(f : Int)] else (u.extract 0 3 ++ u.extract 8 11) ++ strOfNums [(f : Int)]
theorem one_num (f : Nat) : strOfNums [(f : Int)] = ⟨#[UInt8.ofNat f]⟩ := rfl
theorem one_size (f : Nat) : (strOfNums [(f : Int)]).size = 1 := rfl
theorem sf_size (u : ByteArray) (hu : u.size = 12) (f : Nat) : (sf u f).size = 7 := by
  unfold sf
  split
  · simp only [ap_size, ex_size, one_size]; omega
  split
  · simp only [ap_size, ex_size, one_size]; omega
  split
  · simp only [ap_size, ex_size, one_size]; omega
  · simp only [ap_size, ex_size, one_size]; omega
theorem sf_last (u : ByteArray) (hu : u.size = 12) (f : Nat) (hf : f < 256) : bt (sf u f) 6 = (f : Int) := by
  have key : ∀ (x : ByteArray), x.size = 6 → bt (x ++ strOfNums [(f : Int)]) 6 = (f : Int) := by
    intro x hx
    have h1 : 6 < (bs (x ++ strOfNums [(f : Int)])).length := by rw [bs_len, ap_size, one_size]; omega
    have e := bt_nat _ 6 h1
    rw [show ((6 : Nat) : Int) = 6 from rfl] at e
    rw [e]
    have hl : (bs x).length = 6 := by rw [bs_len]; exact hx
    simp only [bs_append]
    rw [List.getElem_append_right (by omega)]
    simp only [hl, Nat.sub_self]
    show ((UInt8.ofNat f).toNat : Int) = _
    rw [UInt8.toNat_ofNat', Nat.mod_eq_of_lt (by omega)]
  unfold sf
  split
  · exact key _ (by simp only [ap_size, ex_size]; omega)
  split
  · exact key _ (by simp only [ap_size, ex_size]; omega)
  split
  · exact key _ (by simp only [ap_size, ex_size]; omega)
  · exact key _ (by simp only [ap_size, ex_size]; omega)
theorem rcpr_step (u : ByteArray) (f : Nat) (hu : u.size = 12) (hf : f ≤ 57) (h48 : 48 ≤ f) (r : ByteArray × Int) (ih : Ev (fun k => barscanref11_Compress.l0 k u ((f + 1 : Nat) : Int)) r) :
    Ev (fun k => barscanref11_Compress.l0 k u (f : Int)) (if hit (sf u f) u then (sf u f ++ u.extract 11 u.size, 0) else r) := by
  have hz := sf_size u hu f
  have hl := sf_last u hu f (by omega)
  have hr : Ev (fun k => barscanref11_expand.f k (sf u f)) (expB (sf u f)) := ⟨1, fun k hk => by
    obtain ⟨j, rfl⟩ : ∃ j, k = j + 1 := ⟨k - 1, by omega⟩
    exact rexp j _ (by omega) (by omega)⟩
  have hw : ((f : Int) + 1) % 256 = ((f + 1 : Nat) : Int) := by omega
  refine Ev.succ ?_
  simp only [barscanref11_Compress.l0]
  refine Ev.pos (by omega) ?_
  simp only [Option.bind_some]
  refine Ev.pos (by omega) (Ev.pos (by omega) (Ev.pos (by omega) (Ev.pos (by omega) (Ev.pos (by simp only [ap_size, ex_size]; omega) (Ev.pos (by simp only [ap_size, ex_size, one_size]; omega) ?_)))))
  have fin : ∀ x : ByteArray, x = sf u f → Ev (fun k => if 0 < (x.size : Int) then (if bt x 0 ≤ 49 then ((barscanref11_expand.f k x).bind fun t => (if 0 ≤ 11 then (if t.toList = (u.extract 0 11).toList then (if x.size + (u.extract 11 u.size).size ≤ 9223372036854775807 then some (x ++ u.extract 11 u.size, 0) else none) else (barscanref11_Compress.l0 k u (((f : Int) + 1) % 256))) else none)) else (barscanref11_Compress.l0 k u (((f : Int) + 1) % 256))) else none)
      (if hit (sf u f) u then (sf u f ++ u.extract 11 u.size, (0 : Int)) else r) := by
    intro x hx
    subst hx
    rw [hw]
    refine Ev.pos (by omega) ?_
    by_cases h2 : bt (sf u f) 0 ≤ 49
    · refine Ev.pos h2 (Ev.bind hr (Ev.pos (by omega) ?_))
      by_cases h3 : expB (sf u f) = u.extract 0 11
      · rw [if_pos (show hit (sf u f) u from ⟨h2, h3⟩)]
        exact Ev.pos ((tl_iff _ _).2 h3) (Ev.pos (by rw [ex_size]; omega) (Ev.const rfl))
      · rw [if_neg (fun h : hit (sf u f) u => h3 h.2)]
        exact Ev.neg (fun h => h3 ((tl_iff _ _).1 h)) ih
    · rw [if_neg (fun h : hit (sf u f) u => h2 h.1)]
      exact Ev.neg h2 ih
  by_cases h1 : f = 51
  · refine Ev.pos (by omega) (Ev.pos (by omega) (Ev.pos (by omega) (Ev.pos (by omega) (Ev.pos (by simp only [ap_size, ex_size]; omega) (Ev.pos (by simp only [ap_size, ex_size, one_size]; omega) ?_)))))
    exact fin _ (by unfold sf; rw [if_pos h1])
  refine Ev.neg (by omega) ?_
  by_cases h2 : f = 52
  · refine Ev.pos (by omega) (Ev.pos (by omega) (Ev.pos (by omega) (Ev.pos (by omega) (Ev.pos (by simp only [ap_size, ex_size]; omega) (Ev.pos (by simp only [ap_size, ex_size, one_size]; omega) ?_)))))
    exact fin _ (by unfold sf; rw [if_neg h1, if_pos h2])
  refine Ev.neg (by omega) ?_
  by_cases h3 : f > 52
  · refine Ev.pos (by omega) (Ev.pos (by omega) (Ev.pos (by omega) (Ev.pos (by simp only [ap_size, ex_size, one_size]; omega) ?_)))
    exact fin _ (by unfold sf; rw [if_neg h1, if_neg h2, if_pos h3])
  refine Ev.neg (by omega) ?_
  exact fin _ (by unfold sf; rw [if_neg h1, if_neg h2, if_neg h3])
/-! ### The two searches find the same -/
theorem at_ex (u : ByteArray) (i : Nat) (h : i < 11) (hu : u.size = 12) : bt (u.extract 0 11) (i : Int) = bt u (i : Int) := bt_ex u 11 i h (by omega)
theorem bt_app_l (s t : ByteArray) (i : Nat) (h : i < s.size) : bt (s ++ t) (i : Int) = bt s (i : Int) := by
  have h1 : i < (bs s).length := by rw [bs_len]; exact h
  have h2 : i < (bs (s ++ t)).length := by rw [bs_len, ap_size]; omega
  rw [bt_nat s i h1, bt_nat (s ++ t) i h2]
  simp only [bs_append, List.getElem_append_left h1]
theorem bt_app_r (s t : ByteArray) (i : Nat) (h : i < t.size) : bt (s ++ t) ((s.size + i : Nat) : Int) = bt t (i : Int) := by
  have h1 : i < (bs t).length := by rw [bs_len]; exact h
  have h2 : s.size + i < (bs (s ++ t)).length := by rw [bs_len, ap_size]; omega
  rw [bt_nat t i h1, bt_nat (s ++ t) _ h2]
  simp only [bs_append]
  rw [List.getElem_append_right (by rw [bs_len]; omega)]
  simp only [bs_len, Nat.add_sub_cancel_left]
theorem bt_mid (s : ByteArray) (a b i : Nat) (h : a + i < b) (hb : b ≤ s.size) : bt (s.extract a b) (i : Int) = bt s ((a + i : Nat) : Int) := by
  have h1 : a + i < (bs s).length := by rw [bs_len]; omega
  have h2 : i < (bs (s.extract a b)).length := by rw [bs_len, ex_size]; omega
  rw [bt_nat _ i h2, bt_nat s _ h1]
  simp only [bs_extract, List.getElem_take, List.getElem_drop]
theorem one_ex (u : ByteArray) (i : Nat) (h : i < u.size) (f : Nat) (hf : f < 256) : u.extract i (i + 1) = strOfNums [(f : Int)] ↔ bt u (i : Int) = (f : Int) := by
  have h1 : i < (bs u).length := by rw [bs_len]; exact h
  have e : bs (u.extract i (i + 1)) = [(bs u)[i]] := by
    rw [bs_extract, Nat.add_sub_cancel_left, List.drop_eq_getElem_cons h1]; rfl
  rw [bt_nat u i h1]
  constructor
  · intro h2
    have h3 := congrArg bs h2
    rw [e] at h3
    have h4 : (bs u)[i] = UInt8.ofNat f := (List.cons.inj h3).1
    rw [h4, UInt8.toNat_ofNat', Nat.mod_eq_of_lt (by omega)]
  · intro h2
    apply bs_inj
    rw [e]
    show [(bs u)[i]] = [UInt8.ofNat f]
    rw [show UInt8.ofNat f = (bs u)[i] by rw [← show (bs u)[i].toNat = f by omega, UInt8.ofNat_toNat]]
theorem hit_low (u : ByteArray) (hu : u.size = 12) (f : Nat) (h0 : 48 ≤ f) (hf : f ≤ 50) (h : hit (sf u f) u) : bt u 3 = (f : Int) := by
  have hz := sf_size u hu f
  have hl := sf_last u hu f (by omega)
  have h2 := h.2
  unfold expB at h2
  rw [if_pos (by omega)] at h2
  have h3 := at_ex u 3 (by omega) hu
  rw [← h2, bt_app_l _ _ 3 (by simp only [ap_size, ex_size, z4]; omega), bt_app_l _ _ 3 (by simp only [ap_size, ex_size, z4]; omega)] at h3
  have h4 := bt_app_r ((sf u f).extract 0 3) ((sf u f).extract 6 7) 0 (by rw [ex_size]; omega)
  rw [show ((sf u f).extract 0 3).size = 3 by rw [ex_size]; omega, bt_mid _ 6 7 0 (by omega) (by omega)] at h4
  have h5 : bt u ((3 : Nat) : Int) = bt (sf u f) ((6 + 0 : Nat) : Int) := h3.symm.trans h4
  exact h5.trans hl
theorem hit_high (u : ByteArray) (hu : u.size = 12) (f : Nat) (h0 : 53 ≤ f) (hf : f ≤ 57) (h : hit (sf u f) u) : bt u 10 = (f : Int) := by
  have hz := sf_size u hu f
  have hl := sf_last u hu f (by omega)
  have h2 := h.2
  unfold expB at h2
  rw [if_neg (by omega), if_neg (by omega), if_neg (by omega)] at h2
  have h3 := at_ex u 10 (by omega) hu
  rw [← h2] at h3
  have h4 := bt_app_r ((sf u f).extract 0 6 ++ (⟨#[48, 48, 48, 48]⟩ : ByteArray)) ((sf u f).extract 6 7) 0 (by rw [ex_size]; omega)
  rw [show ((sf u f).extract 0 6 ++ (⟨#[48, 48, 48, 48]⟩ : ByteArray)).size = 10 by rw [ap_size, ex_size, z4]; omega, bt_mid _ 6 7 0 (by omega) (by omega)] at h4
  exact (h3.symm.trans h4).trans hl
theorem cA_sf (u : ByteArray) (hu : u.size = 12) (f : Nat) (h0 : 48 ≤ f) (hf : f ≤ 50) (h : bt u 3 = (f : Int)) : cA u = sf u f := by
  unfold cA sf
  rw [if_neg (by omega), if_neg (by omega), if_neg (by omega), (one_ex u 3 (by omega) f (by omega)).2 h]
theorem cD_sf (u : ByteArray) (hu : u.size = 12) (f : Nat) (h0 : 53 ≤ f) (hf : f ≤ 57) (h : bt u 10 = (f : Int)) : cD u = sf u f := by
  unfold cD sf
  rw [if_neg (by omega), if_neg (by omega), if_pos (by omega), (one_ex u 10 (by omega) f (by omega)).2 h]
theorem cA_last (u : ByteArray) (hu : u.size = 12) : bt (cA u) 6 = bt u 3 := by
  have h4 := bt_app_r (u.extract 0 3 ++ u.extract 8 11) (u.extract 3 4) 0 (by rw [ex_size]; omega)
  rw [show (u.extract 0 3 ++ u.extract 8 11).size = 6 by simp only [ap_size, ex_size]; omega, bt_mid _ 3 4 0 (by omega) (by omega)] at h4
  exact h4
theorem cD_last (u : ByteArray) (hu : u.size = 12) : bt (cD u) 6 = bt u 10 := by
  have h4 := bt_app_r (u.extract 0 6) (u.extract 10 11) 0 (by rw [ex_size]; omega)
  rw [show (u.extract 0 6).size = 6 by simp only [ap_size, ex_size]; omega, bt_mid _ 10 11 0 (by omega) (by omega)] at h4
  exact h4
/-- The reference's search, unrolled. -/
def chain (u : ByteArray) : Nat → Nat → ByteArray × Int
  | 0, _ => (⟨#[]⟩, 9)
  | n + 1, f => if hit (sf u f) u then (sf u f ++ u.extract 11 u.size, 0) else chain u n (f + 1)
theorem chain_none (u : ByteArray) (n : Nat) : ∀ f, (∀ g, f ≤ g → g < f + n → ¬ hit (sf u g) u) → ∀ m, chain u (n + m) f = chain u m (f + n) := by
  induction n with
  | zero => intro f _ m; rw [Nat.zero_add, Nat.add_zero]
  | succ n ih =>
    intro f h m
    rw [show n + 1 + m = (n + m) + 1 by omega]
    show (if hit (sf u f) u then _ else chain u (n + m) (f + 1)) = _
    rw [if_neg (h f (by omega) (by omega)), ih (f + 1) (fun g h1 h2 => h g (by omega) (by omega)) m, show f + 1 + n = f + (n + 1) by omega]
theorem chain_hit (u : ByteArray) (n f : Nat) (h : hit (sf u f) u) : chain u (n + 1) f = (sf u f ++ u.extract 11 u.size, 0) := by
  show (if hit (sf u f) u then _ else _) = _
  rw [if_pos h]
theorem chain_srch (u : ByteArray) (hu : u.size = 12) (hd : allDig u = true) : chain u 10 48 = srchS u := by
  have d3 := dig_at hd 3 (by omega)
  have d10 := dig_at hd 10 (by omega)
  have eB : cB u = sf u 51 := by unfold cB sf; rw [if_pos rfl]; rfl
  have eC : cC u = sf u 52 := by unfold cC sf; rw [if_neg (by omega), if_pos rfl]; rfl
  unfold srchS
  rw [cA_last u hu, cD_last u hu, eB, eC]
  by_cases h1 : bt u 3 ≤ 50 ∧ hit (cA u) u
  · rw [if_pos h1]
    obtain ⟨f, hf⟩ := Int.eq_ofNat_of_zero_le (show 0 ≤ bt u 3 by have : ((3 : Nat) : Int) = 3 := rfl; rw [this] at d3; omega)
    have hb : 48 ≤ f ∧ f ≤ 50 := by have : ((3 : Nat) : Int) = 3 := rfl; rw [this] at d3; omega
    have e := cA_sf u hu f hb.1 hb.2 hf
    have hn : ∀ g, 48 ≤ g → g < 48 + (f - 48) → ¬ hit (sf u g) u := fun g g0 g1 gh => by have := hit_low u hu g g0 (by omega) gh; omega
    rw [show 10 = (f - 48) + ((57 - f) + 1) by omega, chain_none u (f - 48) 48 hn, show 48 + (f - 48) = f by omega, chain_hit u _ f (by rw [← e]; exact h1.2), e]
  rw [if_neg h1]
  have hn : ∀ g, 48 ≤ g → g < 48 + 3 → ¬ hit (sf u g) u := fun g g0 g1 gh => by
    have h3 := hit_low u hu g g0 (by omega) gh
    exact h1 ⟨by omega, by rw [cA_sf u hu g g0 (by omega) h3]; exact gh⟩
  rw [show 10 = 3 + 7 by omega, chain_none u 3 48 hn]
  by_cases h2 : hit (sf u 51) u
  · rw [if_pos h2, chain_hit u 6 _ h2]
  rw [if_neg h2]
  by_cases h3 : hit (sf u 52) u
  · rw [if_pos h3]
    show (if hit (sf u 51) u then _ else (if hit (sf u 52) u then _ else _)) = _
    rw [if_neg h2, if_pos h3]
  rw [if_neg h3]
  rw [show chain u 7 (48 + 3) = chain u 5 53 by
    show (if hit (sf u 51) u then _ else (if hit (sf u 52) u then _ else _)) = _
    rw [if_neg h2, if_neg h3]]
  by_cases h4 : bt u 10 ≥ 53 ∧ hit (cD u) u
  · rw [if_pos h4]
    obtain ⟨f, hf⟩ := Int.eq_ofNat_of_zero_le (show 0 ≤ bt u 10 by omega)
    have hb : 53 ≤ f ∧ f ≤ 57 := by have : ((10 : Nat) : Int) = 10 := rfl; rw [this] at d10; omega
    have e := cD_sf u hu f hb.1 hb.2 hf
    have hn : ∀ g, 53 ≤ g → g < 53 + (f - 53) → ¬ hit (sf u g) u := fun g g0 g1 gh => by have := hit_high u hu g g0 (by omega) gh; omega
    rw [show 5 = (f - 53) + ((57 - f) + 1) by omega, chain_none u (f - 53) 53 hn, show 53 + (f - 53) = f by omega, chain_hit u _ f (by rw [← e]; exact h4.2), e]
  rw [if_neg h4]
  have hn : ∀ g, 53 ≤ g → g < 53 + 5 → ¬ hit (sf u g) u := fun g g0 g1 gh => by
    have h3 := hit_high u hu g g0 (by omega) gh
    exact h4 ⟨by omega, by rw [cD_sf u hu g g0 (by omega) h3]; exact gh⟩
  exact chain_none u 5 53 hn 0
theorem rsrch (u : ByteArray) (hu : u.size = 12) (n : Nat) : ∀ f : Nat, 48 ≤ f → f + n = 58 → Ev (fun k => barscanref11_Compress.l0 k u (f : Int)) (chain u n f) := by
  induction n with
  | zero =>
    intro f h0 h
    refine Ev.succ ?_
    simp only [barscanref11_Compress.l0]
    exact Ev.neg (by omega) (Ev.const rfl)
  | succ n ih =>
    intro f h0 h
    exact rcpr_step u f hu (by omega) h0 _ (ih (f + 1) (by omega) (by omega))
theorem rCompress (u : ByteArray) (hs : u.size ≤ 9223372036854775807) : Ev (fun k => barscanref11_Compress.f k u) (cprS u) := by
  unfold barscanref11_Compress.f cprS
  refine Ev.bind (rcomplete 3 u hs) ?_
  by_cases h : cmpS 3 u = 0
  · obtain ⟨_, hd, hz, _, _⟩ := cmp_zero h
    rw [len3] at hz
    rw [if_pos h, ← chain_srch u (by omega) hd]
    exact Ev.pos h (rsrch u (by omega) 10 48 (by omega) (by omega))
  · rw [if_neg h]
    exact Ev.neg h (Ev.const rfl)
theorem Ev.add {α : Type} {F : Nat → Option α} {r : α} (n : Nat) (h : ∀ k, F (k + n) = some r) : Ev F r := ⟨n, fun k hk => by
  obtain ⟨j, rfl⟩ : ∃ j, k = j + n := ⟨k - n, by omega⟩
  exact h j⟩
theorem ev_examples : Ev (fun k => barscanlaw11_examples.f k) true := ⟨exK, fun k hk => up_of barscanlaw11_examples.mono examples_at k hk⟩
end Go.Proofs.YtjmeekceecpemaaGreatDoor.Q
