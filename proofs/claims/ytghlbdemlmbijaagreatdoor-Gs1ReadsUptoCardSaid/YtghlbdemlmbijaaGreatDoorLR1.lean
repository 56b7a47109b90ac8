/- Proved here (gs1Reads.cardUpto): the law Gs1Reads returns true for every list of characters, and its argument reads as before. Conditions: what is read is of bulk at most 1048576 (the statement's second form); the four listed tables as the program's text lays them (the card ties them). -/
/- Joined by a program of this work (pack.py) out of the texts Qbarscanref14text, Qbarscanref14first, Qbarscanref14FromChars, Th6, Qbarscanlaw14Gs1Reads, LawsR, LawReads of this seat, in build order. -/
import Derived.Test.YtghlbdemlmbijaaGreatDoorPC8
import Derived.Test.YtghlbdemlmbijaaGreatDoorWWords
import Derived.Test.YtghlbdemlmbijaaGreatDoorWLast
import Derived.Test.YtghlbdemlmbijaaGreatDoorWApart
import Derived.Test.YtghlbdemlmbijaaGreatDoorWEqStruct
import Derived.Test.YtghlbdemlmbijaaGreatDoorWFoot
import Derived.Test.YtghlbdemlmbijaaGreatDoorWGuard
import Derived.Test.YtghlbdemlmbijaaGreatDoorWShare
import Derived.Test.YtghlbdemlmbijaaGreatDoorWMore
import Derived.Test.YtghlbdemlmbijaaGreatDoorWRepsOne
import Derived.Test.YtghlbdemlmbijaaGreatDoorWTab
import Derived.ShutString
import Derived.ChangeSlices
namespace Go.Proofs.YtghlbdemlmbijaaGreatDoor.Q
open Go.RowKit Go.Proofs.YtghlbdemlmbijaaGreatDoorW.PrintWords Go.Proofs.YtghlbdemlmbijaaGreatDoorW.PrintLast Go.Proofs.YtghlbdemlmbijaaGreatDoorW.PrintMore

set_option linter.unusedVariables false
set_option linter.unusedSimpArgs false

/-! ### barscanref14_text: function 42 -/
def barscanref14_text.l0 : Nat → List Int → List Int → Int → Option (ByteArray)
 | 0, _, _, _ => none
 | k + 1, x0, x3, x4 => if x4 < (x0.length : Int) then (if 0 ≤ x4 then (if x3.length < 140737488355328 then (barscanref14_text.l0 k x0 (x3 ++ [(rd x0 x4) % 256]) (wrap64 (x4 + 1))) else (none)) else (none)) else (some (strOfNums x3))
def barscanref14_text.f (k : Nat) (l0 : List Int) : Option (ByteArray) := barscanref14_text.l0 k l0 ([] : List Int) 0
theorem barscanref14_text.mono_l : ∀ k, (∀ y0 y1 y2, LeO (barscanref14_text.l0 k y0 y1 y2) (barscanref14_text.l0 (k + 1) y0 y1 y2))
 | 0 => fun _ _ _ r h => by simp [barscanref14_text.l0] at h
 | k + 1 => by
  have ih0 := barscanref14_text.mono_l k
  ·intro y0 y1 y2
   unfold barscanref14_text.l0
   repeat' first
   | (with_reducible exact ih0 _ _ _)
   | (with_reducible exact LeO.refl _)
   | (with_reducible exact LeO.none _)
   | (with_reducible refine LeO.ite ?_ ?_)
   | (with_reducible refine LeO.bind ?_ (fun _ => ?_))
   | exact ih0 _ _ _
   | exact LeO.none _
   | refine LeO.ite ?_ ?_
   | refine LeO.bind ?_ (fun _ => ?_)
theorem barscanref14_text.mono : ∀ a0 k, LeO (barscanref14_text.f k a0) (barscanref14_text.f (k + 1) a0) := by
 intro a0 k
 have ih0 := barscanref14_text.mono_l k
 unfold barscanref14_text.f
 repeat' first
   | (with_reducible exact ih0 _ _ _)
   | (with_reducible exact LeO.refl _)
   | (with_reducible exact LeO.none _)
   | (with_reducible refine LeO.ite ?_ ?_)
   | (with_reducible refine LeO.bind ?_ (fun _ => ?_))
   | exact ih0 _ _ _
   | exact LeO.none _
   | refine LeO.ite ?_ ?_
   | refine LeO.bind ?_ (fun _ => ?_)
set_option maxHeartbeats 8000000 in
set_option maxRecDepth 100000 in
theorem barscanref14_text.calls (k : Nat) (A0 : Option Addr) (c0 : Nat) (l0 : List Int) (r : ByteArray) (w : World) (hr0 : Kd.C (Kd.int .i64) w A0 l0.length l0) (hc0 : l0.length ≤ c0) (h : barscanref14_text.f k l0 = some r) :
  Calls Tryz.prog 42 #[.slice A0 l0.length c0] w fun e w' => e = .returned (.string r) ∧ Below w.heap.size w w' := by
 have HR0 := Aside0.mk hr0
 have HC0 := Aside0.mk hc0
 clear hr0 hc0
 have HB := Aside0.mk (Below.refl w.heap.size w)
 have H : (barscanref14_text.l0 k l0 ([] : List Int) 0) = some r := h
 clear h
 have H' := Aside0.mk H
 clear H
 go_enter Tryz.func42, Tryz.ntmps42
 go_wp2
 go_loopg [3, 4] k (fun kq v3 v4 w' => ∃ (x3_1 : List Int) (x4_1 : Int), v4 = .int .i64 x4_1 ∧ Aside0 (barscanref14_text.l0 kq l0 x3_1 x4_1 = some r) ∧ Aside0 (kq ≤ k) ∧ Aside0 (Kd.R (Kd.int .u8) 5 w' w.heap.size (fun _ => True) v3 x3_1) ∧ Aside0 (Below w.heap.size w w'))
 case atStart => exact ⟨(([] : List Int)), (0), (by first | rfl | (simp; done) | (simp [*]; done)), H', ⟨Nat.le_refl _⟩, ⟨by first | exact Kd.R_nil _ _ _ _ _ | exact Kd.N_nil _ _ _ _ _ | exact Kd.V_nil _ _ _ _ _ | exact Kd.Q_nil _ _ _ _ _ | exact Kd.S_nil _ _ _ _ _⟩, ⟨by repeat (first | (with_reducible first | exact HB.out | apply below_alloc | apply pw_below_drewN | apply below_drew1) | exact HB.out)⟩⟩
 case round =>
  clear H'
  obtain ⟨x3_1, x4_1, rfl, HA, HK1, HO_3, HB⟩ := hrel
  cases gk with
  | zero => exact absurd HA.out (by simp [barscanref14_text.l0])
  | succ k1 =>
   have H := HA.out
   clear HA
   simp only [barscanref14_text.l0] at H
   by_cases c2 : x4_1 < (l0.length : Int)
   ·rw [if_pos c2] at H
    have c2b0 : decide (x4_1 < (l0.length : Int)) = true := decide_eq_true c2
    clear c2
    by_cases c3 : 0 ≤ x4_1
    ·rw [if_pos c3] at H
     have c3b0 : decide (0 ≤ x4_1) = true := decide_eq_true c3
     clear c3
     by_cases c4 : x3_1.length < 140737488355328
     ·rw [if_pos c4] at H
      have LMc4 := Aside0.mk c4
      clear c4
      obtain ⟨y319, hy319⟩ : ∃ y_ : List Int, y_ = (x3_1 ++ [(rd l0 x4_1) % 256]) := ⟨_, rfl⟩
      replace H : (barscanref14_text.l0 k1 l0 y319 (wrap64 (x4_1 + 1))) = some r := by first | (rw [hy319]; with_reducible exact H) | (have H2_ := (Option.bind_some _ _).symm.trans H; rw [hy319]; with_reducible exact H2_) | (have H2_ := (Option.bind_some _ _).symm.trans H; with_reducible exact H2_) | with_reducible exact H | (rw [hy319]; exact H) | exact H
      have Ny319 := Aside0.mk hy319
      clear hy319
      have H' := Aside0.mk H
      clear H
      have p318 : 0 ≤ (x4_1 : Int) := of_decide_eq_true (by first | (with_reducible assumption) | assumption)
      have q318 : x4_1 < (l0.length : Int) := of_decide_eq_true (by first | (with_reducible assumption) | assumption)
      obtain ⟨ad318, e318, hx318_0⟩ := Kd.at_int HR0.out x4_1 p318 q318
      cases e318
      replace hx318_0 := (HB.out.cell (World.block_lt_of_cell? w _ hx318_0)).trans hx318_0
      replace p318 := eq_true p318
      replace q318 := eq_true q318
      go_wp2_with (first | ((with_reducible refine gate_builtin (b := .append) (xs := #[.tmp 11, .tmp 17]) rfl ?_); at_builtin; refine Kd.R_append (Kd.int .u8) (w0 := w) w.heap.size rfl (.tmp 11) (.tmp 17) 57 5 (.int .u8 0) 1 rfl Tryz.underlying57 info5 rfl (by decide) (by omega) u3 x3_1 ((rd l0 x4_1) % 256) [.int .u8 ((rd l0 x4_1) % 256)] (fun _ => True) (fun _ => False) rfl rfl ?aP (fun _ hk => hk.elim) ?aF ?aO ?aB ?aS ?aL ?_; (case aP => exact rfl); (case aB => exact (by repeat (first | (with_reducible first | exact HB.out | apply below_alloc | apply pw_below_drewN | apply below_drew1) | exact HB.out))); (case aF => exact (fun _ _ => trivial)); (case aO => exact (by (with_reducible repeat (first | apply Kd.R_alloc | apply Kd.R_drewN | apply Kd.R_drew)); exact HO_3.out)); (case aS => exact (below_size (by repeat (first | (with_reducible first | exact HB.out | apply below_alloc | apply pw_below_drewN | apply below_drew1) | exact HB.out)))); (case aL => have := LMc4.out; omega); intro v320 w5 ho hb hg hat; rw [← Ny319.out] at ho; have n0_ := Aside0.mk (hb); have n1_ := Aside0.mk (ho); clear HB; clear HO_3; have HB := n0_; have HO321 := n1_; clear n0_ n1_; clear ho hb hg hat))
      go_roundg k1
      case measure => have := HK1.out; omega
      case rel => exact ⟨(y319), (wrap64 (x4_1 + 1)), (by first | rfl | (simp; done) | (simp [*]; done)), H', ⟨by have := HK1.out; omega⟩, ⟨by (with_reducible repeat (first | apply Kd.R_alloc | apply Kd.R_drewN | apply Kd.R_drew)); exact HO321.out⟩, ⟨by repeat (first | (with_reducible first | exact HB.out | apply below_alloc | apply pw_below_drewN | apply below_drew1) | exact HB.out)⟩⟩
     ·rw [if_neg c4] at H
      exact absurd H (by simp)
    ·rw [if_neg c3] at H
     exact absurd H (by simp)
   ·rw [if_neg c2] at H
    have c2b0 : decide (x4_1 < (l0.length : Int)) = false := decide_eq_false c2
    clear c2
    obtain rfl := Option.some.inj H
    have hcv6 := own_string (P := Tryz.prog) Tryz.underlying57 Tryz.underlying5 Tryz.underlying9 (Kd.own_of_R HO_3.out)
    go_wp2
    go_ret
    exact ⟨by first | rfl | (simp [errW_none, errW_some] <;> rfl) | (simp [*, errW_none, errW_some] <;> rfl), by repeat (first | (with_reducible first | exact HB.out | apply below_alloc | apply pw_below_drewN | apply below_drew1) | exact HB.out)⟩

end Go.Proofs.YtghlbdemlmbijaaGreatDoor.Q

namespace Go.Proofs.YtghlbdemlmbijaaGreatDoor.Q
open Go.RowKit Go.Proofs.YtghlbdemlmbijaaGreatDoorW.PrintWords Go.Proofs.YtghlbdemlmbijaaGreatDoorW.PrintLast Go.Proofs.YtghlbdemlmbijaaGreatDoorW.PrintMore

set_option linter.unusedVariables false
set_option linter.unusedSimpArgs false

/-! ### barscanref14_first: function 43 -/
mutual
def barscanref14_first.l0 : Nat → ByteArray → Int → Option (ByteArray)
 | 0, _, _ => none
 | k + 1, x0, x3 => if x3 ≤ 4 then (barscanref14_first.j1 k x0 x3 (decide (x3 ≤ (x0.size : Int)))) else (barscanref14_first.j1 k x0 x3 false)
def barscanref14_first.j1 : Nat → ByteArray → Int → Bool → Option (ByteArray)
 | 0, _, _, _ => none
 | k + 1, x0, x3, x13 => if x13 = true then (if 0 ≤ x3 then (if x3 ≤ (x0.size : Int) then ((barscanref14_table.f k (x0.extract 0 (x3 : Int).toNat)).bind fun bt322 => (if bt322.1 = 0 then (barscanref14_first.l0 k x0 (wrap64 (x3 + 1))) else (some (x0.extract 0 (x3 : Int).toNat)))) else (none)) else (none)) else (some (⟨#[]⟩ : ByteArray))
end
def barscanref14_first.f (k : Nat) (a0 : ByteArray) : Option (ByteArray) := barscanref14_first.l0 k a0 2
theorem barscanref14_first.mono_l : ∀ k, (∀ y0 y1, LeO (barscanref14_first.l0 k y0 y1) (barscanref14_first.l0 (k + 1) y0 y1)) ∧ (∀ y0 y1 y2, LeO (barscanref14_first.j1 k y0 y1 y2) (barscanref14_first.j1 (k + 1) y0 y1 y2))
 | 0 => ⟨fun _ _ r h => by simp [barscanref14_first.l0] at h, fun _ _ _ r h => by simp [barscanref14_first.j1] at h⟩
 | k + 1 => by
  obtain ⟨ih0, ih1⟩ := barscanref14_first.mono_l k
  refine ⟨?_, ?_⟩
  ·intro y0 y1
   unfold barscanref14_first.l0
   repeat' first
   | (with_reducible exact ih0 _ _)
   | (with_reducible exact ih1 _ _ _)
   | (with_reducible exact barscanref14_table.mono _ _)
   | (with_reducible exact LeO.refl _)
   | (with_reducible exact LeO.none _)
   | (with_reducible refine LeO.ite ?_ ?_)
   | (with_reducible refine LeO.bind ?_ (fun _ => ?_))
   | exact ih0 _ _
   | exact ih1 _ _ _
   | exact barscanref14_table.mono _ _
   | exact LeO.none _
   | refine LeO.ite ?_ ?_
   | refine LeO.bind ?_ (fun _ => ?_)
  ·intro y0 y1 y2
   unfold barscanref14_first.j1
   repeat' first
   | (with_reducible exact ih0 _ _)
   | (with_reducible exact ih1 _ _ _)
   | (with_reducible exact barscanref14_table.mono _ _)
   | (with_reducible exact LeO.refl _)
   | (with_reducible exact LeO.none _)
   | (with_reducible refine LeO.ite ?_ ?_)
   | (with_reducible refine LeO.bind ?_ (fun _ => ?_))
   | exact ih0 _ _
   | exact ih1 _ _ _
   | exact barscanref14_table.mono _ _
   | exact LeO.none _
   | refine LeO.ite ?_ ?_
   | refine LeO.bind ?_ (fun _ => ?_)
theorem barscanref14_first.mono : ∀ a0 k, LeO (barscanref14_first.f k a0) (barscanref14_first.f (k + 1) a0) := by
 intro a0 k
 obtain ⟨ih0, ih1⟩ := barscanref14_first.mono_l k
 unfold barscanref14_first.f
 repeat' first
   | (with_reducible exact ih0 _ _)
   | (with_reducible exact ih1 _ _ _)
   | (with_reducible exact barscanref14_table.mono _ _)
   | (with_reducible exact LeO.refl _)
   | (with_reducible exact LeO.none _)
   | (with_reducible refine LeO.ite ?_ ?_)
   | (with_reducible refine LeO.bind ?_ (fun _ => ?_))
   | exact ih0 _ _
   | exact ih1 _ _ _
   | exact barscanref14_table.mono _ _
   | exact LeO.none _
   | refine LeO.ite ?_ ?_
   | refine LeO.bind ?_ (fun _ => ?_)
set_option maxHeartbeats 8000000 in
set_option maxRecDepth 100000 in
theorem barscanref14_first.calls (k : Nat) (a0 : ByteArray) (r : ByteArray) (w : World) (h : barscanref14_first.f k a0 = some r) :
  Calls Tryz.prog 43 #[.string a0] w fun e w' => e = .returned (.string r) ∧ Drawn0 w w' := by
 have H : (barscanref14_first.l0 k a0 2) = some r := h
 clear h
 have H' := Aside0.mk H
 clear H
 go_enter Tryz.func43, Tryz.ntmps43
 go_wp2
 go_loopg [3] k (fun kq v3 w' => ∃ (x3_1 : Int), v3 = .int .i64 x3_1 ∧ Aside0 (barscanref14_first.l0 kq a0 x3_1 = some r) ∧ Aside0 (kq ≤ k) ∧ Drawn0 w w')
 case atStart => exact ⟨(2), (by first | rfl | (simp; done) | (simp [*]; done)), H', ⟨Nat.le_refl _⟩, by repeat (first | exact Drawn0.refl _ | apply Drawn0.step)⟩
 case round =>
  clear H'
  obtain ⟨x3_1, rfl, HA, HK1, ⟨m1, rfl⟩⟩ := hrel
  cases gk with
  | zero => exact absurd HA.out (by simp [barscanref14_first.l0])
  | succ k1 =>
   have H := HA.out
   clear HA
   simp only [barscanref14_first.l0] at H
   have HC2 := Aside0.mk H
   clear H
   go_upto_region 2 with (fail)
   go_cut [13] (fun v13 wc => ∃ (kq : Nat) (x13_1 : Bool), v13 = .bool x13_1 ∧ Aside0 (barscanref14_first.j1 kq a0 x3_1 x13_1 = some r) ∧ Aside0 (kq ≤ k1) ∧ Drawn0 w wc)
   case first =>
    have H := HC2.out
    clear HC2
    by_cases c3 : x3_1 ≤ 4
    ·rw [if_pos c3] at H
     have c3b0 : decide (x3_1 ≤ 4) = true := decide_eq_true c3
     clear c3
     (first | rw [c3b0] | (simp only [i64_w]; rw [c3b0]) | skip)
     have H' := Aside0.mk H
     clear H
     go_wp2
     go_meet
     case rel => exact ⟨_, (decide (x3_1 ≤ (a0.size : Int))), (by first | rfl | (simp; done) | (simp [*]; done)), H', ⟨by have := HK1.out; first | omega | exact Nat.le_refl _⟩, by repeat (first | exact Drawn0.refl _ | apply Drawn0.step)⟩
    ·rw [if_neg c3] at H
     have c3b0 : decide (x3_1 ≤ 4) = false := decide_eq_false c3
     clear c3
     (first | rw [c3b0] | (simp only [i64_w]; rw [c3b0]) | skip)
     have H' := Aside0.mk H
     clear H
     go_wp2
     go_meet
     case rel => exact ⟨_, (false), (by first | rfl | (simp; done) | (simp [*]; done)), H', ⟨by have := HK1.out; first | omega | exact Nat.le_refl _⟩, by repeat (first | exact Drawn0.refl _ | apply Drawn0.step)⟩
   case rest =>
    clear HC2
    obtain ⟨kq, x13_1, rfl, HA, HJ1, ⟨mc1, rfl⟩⟩ := hcut
    cases kq with
    | zero => exact absurd HA.out (by simp [barscanref14_first.j1])
    | succ kj1 =>
     have H := HA.out
     clear HA
     simp only [barscanref14_first.j1] at H
     by_cases c4 : x13_1 = true
     ·subst c4
      have H1 : (if 0 ≤ x3_1 then (if x3_1 ≤ (a0.size : Int) then ((barscanref14_table.f kj1 (a0.extract 0 (x3_1 : Int).toNat)).bind fun bt322 => (if bt322.1 = 0 then (barscanref14_first.l0 kj1 a0 (wrap64 (x3_1 + 1))) else (some (a0.extract 0 (x3_1 : Int).toNat)))) else (none)) else (none)) = some r := by rw [if_pos rfl] at H; exact H
      clear H
      have H := H1
      clear H1
      by_cases c5 : 0 ≤ x3_1
      ·rw [if_pos c5] at H
       have c5b0 := eq_true c5
       have c5b1 : decide (0 ≤ x3_1) = true := decide_eq_true c5
       clear c5
       by_cases c6 : x3_1 ≤ (a0.size : Int)
       ·rw [if_pos c6] at H
        have c6b0 := eq_true c6
        have c6b1 : decide (x3_1 ≤ (a0.size : Int)) = true := decide_eq_true c6
        clear c6
        replace H := Option.bind_eq_some_iff.mp H
        obtain ⟨⟨t322, t323⟩, A70, H⟩ := H
        replace H : (if t322 = 0 then (barscanref14_first.l0 kj1 a0 (wrap64 (x3_1 + 1))) else (some (a0.extract 0 (x3_1 : Int).toNat))) = some r := H
        have A7 := Aside0.mk A70
        clear A70
        by_cases c8 : t322 = 0
        ·rw [if_pos c8] at H
         have c8b0 : (t322 == 0) = true := beq_iff_eq.mpr c8
         have c8b1 : (t322 != 0) = false := bne_eq_false_iff_eq.mpr c8
         clear c8
         have H' := Aside0.mk H
         clear H
         go_wp2_with (first | ((with_reducible refine gate_callee (f := 23) rfl ?_); refine goesL_ (some 20) rfl rfl Tryz.func23 (by kernel_rfl) rfl #[.string (a0.extract 0 (x3_1 : Int).toNat)] rfl (by (try simp only [List.map_toArray, List.map_cons, List.map_nil]); first | done | rfl | (simp only [List.length_drop, List.length_take]; rfl)) ?_; (with_reducible refine (barscanref14_table.calls kj1 (a0.extract 0 (x3_1 : Int).toNat) t322 t323 _ A7.out).mono ?_); rintro e w' ⟨rfl, ⟨nd, rfl⟩⟩; refine ⟨_, rfl, ?_⟩))
         go_roundg kj1
         case measure => have := HK1.out; have := HJ1.out; omega
         case rel => exact ⟨(wrap64 (x3_1 + 1)), (by first | rfl | (simp; done) | (simp [*]; done)), H', ⟨by have := HK1.out; have := HJ1.out; omega⟩, by repeat (first | exact Drawn0.refl _ | apply Drawn0.step)⟩
        ·rw [if_neg c8] at H
         have c8b0 : (t322 == 0) = false := beq_eq_false_iff_ne.mpr c8
         have c8b1 : (t322 != 0) = true := bne_iff_ne.mpr c8
         have c9b0 := eq_true (of_decide_eq_true (by first | (with_reducible assumption) | assumption) : 0 ≤ x3_1)
         have c10b0 := eq_true (of_decide_eq_true (by first | (with_reducible assumption) | assumption) : x3_1 ≤ (a0.size : Int))
         obtain rfl := Option.some.inj H
         go_wp2_with (first | ((with_reducible refine gate_callee (f := 23) rfl ?_); refine goesL_ (some 20) rfl rfl Tryz.func23 (by kernel_rfl) rfl #[.string (a0.extract 0 (x3_1 : Int).toNat)] rfl (by (try simp only [List.map_toArray, List.map_cons, List.map_nil]); first | done | rfl | (simp only [List.length_drop, List.length_take]; rfl)) ?_; (with_reducible refine (barscanref14_table.calls kj1 (a0.extract 0 (x3_1 : Int).toNat) t322 t323 _ A7.out).mono ?_); rintro e w' ⟨rfl, ⟨nd, rfl⟩⟩; refine ⟨_, rfl, ?_⟩))
         go_ret
         exact ⟨by first | rfl | (simp; done) | (simp [*]; done), by repeat (first | exact Drawn0.refl _ | apply Drawn0.step)⟩
       ·rw [if_neg c6] at H
        exact absurd H (by simp)
      ·rw [if_neg c5] at H
       exact absurd H (by simp)
     ·replace c4 := Bool.eq_false_iff.mpr c4
      subst c4
      have H1 : (some (⟨#[]⟩ : ByteArray)) = some r := by rw [if_neg (show ¬ (false = true) by decide)] at H; exact H
      clear H
      have H := H1
      clear H1
      obtain rfl := Option.some.inj H
      go_wp2
      go_ret
      exact ⟨by first | rfl | (simp; done) | (simp [*]; done), by repeat (first | exact Drawn0.refl _ | apply Drawn0.step)⟩

end Go.Proofs.YtghlbdemlmbijaaGreatDoor.Q

namespace Go.Proofs.YtghlbdemlmbijaaGreatDoor.Q
open Go.RowKit Go.Proofs.YtghlbdemlmbijaaGreatDoorW.PrintWords Go.Proofs.YtghlbdemlmbijaaGreatDoorW.PrintLast Go.Proofs.YtghlbdemlmbijaaGreatDoorW.PrintMore

set_option linter.unusedVariables false
set_option linter.unusedSimpArgs false

/-! ### barscanref14_FromChars: function 21 -/
mutual
def barscanref14_FromChars.l0 : Nat → List Int → Int → Option ((List (S23)) × Int)
 | 0, _, _ => none
 | k + 1, x0, x4 => if x4 < (x0.length : Int) then (if 0 ≤ x4 then (if (rd x0 x4) = 256 then (barscanref14_FromChars.l0 k x0 (wrap64 (x4 + 1))) else (if (rd x0 x4) < 0 then (some (([] : List (S23)), 6)) else (if (rd x0 x4) > 127 then (some (([] : List (S23)), 6)) else (barscanref14_FromChars.l0 k x0 (wrap64 (x4 + 1)))))) else (none)) else (if (x0.length : Int) = 0 then (barscanref14_FromChars.j1 k x0 true) else (if 0 < (x0.length : Int) then (barscanref14_FromChars.j1 k x0 ((rd x0 0) != 256)) else (none)))
def barscanref14_FromChars.j1 : Nat → List Int → Bool → Option ((List (S23)) × Int)
 | 0, _, _ => none
 | k + 1, x0, x52 => if x52 = true then (some (([] : List (S23)), 9)) else (if (x0.length : Int) = 1 then (some (([] : List (S23)), 5)) else (barscanref14_FromChars.l1 k x0 ([] : List (S23)) 1))
def barscanref14_FromChars.l1 : Nat → List Int → List (S23) → Int → Option ((List (S23)) × Int)
 | 0, _, _, _ => none
 | k + 1, x0, x5, x6 => if x6 < (x0.length : Int) then (barscanref14_FromChars.l2 k x0 x5 x6 x6) else (some (x5, 0))
def barscanref14_FromChars.j4 : Nat → List Int → List (S23) → Int → Int → Option ((List (S23)) × Int)
 | 0, _, _, _, _ => none
 | k + 1, x0, x5, x6, x7 => if x7 = x6 then (some (([] : List (S23)), 9)) else (if 0 ≤ x6 then (if x6 ≤ x7 then (if x7 ≤ (x0.length : Int) then ((barscanref14_text.f k ((x0.take (x7 : Int).toNat).drop (x6 : Int).toNat)).bind fun t330 => ((barscanref14_first.f k t330).bind fun t331 => (if t331.toList = ([] : List UInt8) then (some (([] : List (S23)), 29)) else ((barscanref14_Fixed.f k t331).bind fun bt332 => (if 0 ≤ (t331.size : Int) then (if (t331.size : Int) ≤ (t330.size : Int) then (if bt332.1 > 0 then (barscanref14_FromChars.j5 k x0 x5 x6 t331 bt332.1 (t330.extract ((t331.size : Int) : Int).toNat t330.size) (decide (((t330.extract ((t331.size : Int) : Int).toNat t330.size).size : Int) < bt332.1))) else (barscanref14_FromChars.j5 k x0 x5 x6 t331 bt332.1 (t330.extract ((t331.size : Int) : Int).toNat t330.size) false)) else (none)) else (none)))))) else (none)) else (none)) else (none))
def barscanref14_FromChars.j5 : Nat → List Int → List (S23) → Int → ByteArray → Int → ByteArray → Bool → Option ((List (S23)) × Int)
 | 0, _, _, _, _, _, _, _ => none
 | k + 1, x0, x5, x6, x9, x10, x13, x103 => if x103 = true then (some (([] : List (S23)), 10)) else (if x10 > 0 then (if 0 ≤ x10 then (if x10 ≤ (x13.size : Int) then (barscanref14_FromChars.j6 k x0 x5 x6 x9 x10 (x13.extract 0 (x10 : Int).toNat)) else (none)) else (none)) else (barscanref14_FromChars.j6 k x0 x5 x6 x9 x10 x13))
def barscanref14_FromChars.j6 : Nat → List Int → List (S23) → Int → ByteArray → Int → ByteArray → Option ((List (S23)) × Int)
 | 0, _, _, _, _, _, _ => none
 | k + 1, x0, x5, x6, x9, x10, x13 => (barscanref14_Verify.f k x9 x13).bind fun t336 => (if t336 = 0 then (if x5.length < 4398046511104 then ((some (x5 ++ [(⟨x9, x13⟩ : S23)] : List (S23))).bind fun y337 => (if x10 = 0 then (barscanref14_FromChars.j7 k x0 y337 (wrap64 ((wrap64 (x6 + (x9.size : Int))) + (x13.size : Int))) (decide ((wrap64 ((wrap64 (x6 + (x9.size : Int))) + (x13.size : Int))) < (x0.length : Int)))) else (barscanref14_FromChars.j7 k x0 y337 (wrap64 ((wrap64 (x6 + (x9.size : Int))) + (x13.size : Int))) false))) else (none)) else (some (([] : List (S23)), t336)))
def barscanref14_FromChars.j7 : Nat → List Int → List (S23) → Int → Bool → Option ((List (S23)) × Int)
 | 0, _, _, _, _ => none
 | k + 1, x0, x5, x6, x135 => if x135 = true then (if (wrap64 (x6 + 1)) = (x0.length : Int) then (some (([] : List (S23)), 9)) else (barscanref14_FromChars.l1 k x0 x5 (wrap64 (x6 + 1)))) else (barscanref14_FromChars.l1 k x0 x5 x6)
def barscanref14_FromChars.l2 : Nat → List Int → List (S23) → Int → Int → Option ((List (S23)) × Int)
 | 0, _, _, _, _ => none
 | k + 1, x0, x5, x6, x7 => if x7 < (x0.length : Int) then (if 0 ≤ x7 then (if (rd x0 x7) = 256 then (barscanref14_FromChars.j4 k x0 x5 x6 x7) else (barscanref14_FromChars.l2 k x0 x5 x6 (wrap64 (x7 + 1)))) else (none)) else (barscanref14_FromChars.j4 k x0 x5 x6 x7)
end
def barscanref14_FromChars.f (k : Nat) (l0 : List Int) : Option ((List (S23)) × Int) := if (l0.length : Int) > 4096 then (some (([] : List (S23)), 4)) else (barscanref14_FromChars.l0 k l0 0)
theorem barscanref14_FromChars.mono_l : ∀ k, (∀ y0 y1, LeO (barscanref14_FromChars.l0 k y0 y1) (barscanref14_FromChars.l0 (k + 1) y0 y1)) ∧ (∀ y0 y1, LeO (barscanref14_FromChars.j1 k y0 y1) (barscanref14_FromChars.j1 (k + 1) y0 y1)) ∧ (∀ y0 y1 y2, LeO (barscanref14_FromChars.l1 k y0 y1 y2) (barscanref14_FromChars.l1 (k + 1) y0 y1 y2)) ∧ (∀ y0 y1 y2 y3, LeO (barscanref14_FromChars.j4 k y0 y1 y2 y3) (barscanref14_FromChars.j4 (k + 1) y0 y1 y2 y3)) ∧ (∀ y0 y1 y2 y3 y4 y5 y6, LeO (barscanref14_FromChars.j5 k y0 y1 y2 y3 y4 y5 y6) (barscanref14_FromChars.j5 (k + 1) y0 y1 y2 y3 y4 y5 y6)) ∧ (∀ y0 y1 y2 y3 y4 y5, LeO (barscanref14_FromChars.j6 k y0 y1 y2 y3 y4 y5) (barscanref14_FromChars.j6 (k + 1) y0 y1 y2 y3 y4 y5)) ∧ (∀ y0 y1 y2 y3, LeO (barscanref14_FromChars.j7 k y0 y1 y2 y3) (barscanref14_FromChars.j7 (k + 1) y0 y1 y2 y3)) ∧ (∀ y0 y1 y2 y3, LeO (barscanref14_FromChars.l2 k y0 y1 y2 y3) (barscanref14_FromChars.l2 (k + 1) y0 y1 y2 y3))
 | 0 => ⟨fun _ _ r h => by simp [barscanref14_FromChars.l0] at h, fun _ _ r h => by simp [barscanref14_FromChars.j1] at h, fun _ _ _ r h => by simp [barscanref14_FromChars.l1] at h, fun _ _ _ _ r h => by simp [barscanref14_FromChars.j4] at h, fun _ _ _ _ _ _ _ r h => by simp [barscanref14_FromChars.j5] at h, fun _ _ _ _ _ _ r h => by simp [barscanref14_FromChars.j6] at h, fun _ _ _ _ r h => by simp [barscanref14_FromChars.j7] at h, fun _ _ _ _ r h => by simp [barscanref14_FromChars.l2] at h⟩
 | k + 1 => by
  obtain ⟨ih0, ih1, ih2, ih3, ih4, ih5, ih6, ih7⟩ := barscanref14_FromChars.mono_l k
  refine ⟨?_, ?_, ?_, ?_, ?_, ?_, ?_, ?_⟩
  ·intro y0 y1
   unfold barscanref14_FromChars.l0
   repeat' first
   | (with_reducible exact ih0 _ _)
   | (with_reducible exact ih1 _ _)
   | (with_reducible exact ih2 _ _ _)
   | (with_reducible exact ih3 _ _ _ _)
   | (with_reducible exact ih4 _ _ _ _ _ _ _)
   | (with_reducible exact ih5 _ _ _ _ _ _)
   | (with_reducible exact ih6 _ _ _ _)
   | (with_reducible exact ih7 _ _ _ _)
   | (with_reducible exact barscanref14_Fixed.mono _ _)
   | (with_reducible exact barscanref14_Verify.mono _ _ _)
   | (with_reducible exact barscanref14_first.mono _ _)
   | (with_reducible exact barscanref14_text.mono _ _)
   | (with_reducible exact LeO.refl _)
   | (with_reducible exact LeO.none _)
   | (with_reducible refine LeO.ite ?_ ?_)
   | (with_reducible refine LeO.bind ?_ (fun _ => ?_))
   | exact ih0 _ _
   | exact ih1 _ _
   | exact ih2 _ _ _
   | exact ih3 _ _ _ _
   | exact ih4 _ _ _ _ _ _ _
   | exact ih5 _ _ _ _ _ _
   | exact ih6 _ _ _ _
   | exact ih7 _ _ _ _
   | exact barscanref14_Fixed.mono _ _
   | exact barscanref14_Verify.mono _ _ _
   | exact barscanref14_first.mono _ _
   | exact barscanref14_text.mono _ _
   | exact LeO.none _
   | refine LeO.ite ?_ ?_
   | refine LeO.bind ?_ (fun _ => ?_)
  ·intro y0 y1
   unfold barscanref14_FromChars.j1
   repeat' first
   | (with_reducible exact ih0 _ _)
   | (with_reducible exact ih1 _ _)
   | (with_reducible exact ih2 _ _ _)
   | (with_reducible exact ih3 _ _ _ _)
   | (with_reducible exact ih4 _ _ _ _ _ _ _)
   | (with_reducible exact ih5 _ _ _ _ _ _)
   | (with_reducible exact ih6 _ _ _ _)
   | (with_reducible exact ih7 _ _ _ _)
   | (with_reducible exact barscanref14_Fixed.mono _ _)
   | (with_reducible exact barscanref14_Verify.mono _ _ _)
   | (with_reducible exact barscanref14_first.mono _ _)
   | (with_reducible exact barscanref14_text.mono _ _)
   | (with_reducible exact LeO.refl _)
   | (with_reducible exact LeO.none _)
   | (with_reducible refine LeO.ite ?_ ?_)
   | (with_reducible refine LeO.bind ?_ (fun _ => ?_))
   | exact ih0 _ _
   | exact ih1 _ _
   | exact ih2 _ _ _
   | exact ih3 _ _ _ _
   | exact ih4 _ _ _ _ _ _ _
   | exact ih5 _ _ _ _ _ _
   | exact ih6 _ _ _ _
   | exact ih7 _ _ _ _
   | exact barscanref14_Fixed.mono _ _
   | exact barscanref14_Verify.mono _ _ _
   | exact barscanref14_first.mono _ _
   | exact barscanref14_text.mono _ _
   | exact LeO.none _
   | refine LeO.ite ?_ ?_
   | refine LeO.bind ?_ (fun _ => ?_)
  ·intro y0 y1 y2
   unfold barscanref14_FromChars.l1
   repeat' first
   | (with_reducible exact ih0 _ _)
   | (with_reducible exact ih1 _ _)
   | (with_reducible exact ih2 _ _ _)
   | (with_reducible exact ih3 _ _ _ _)
   | (with_reducible exact ih4 _ _ _ _ _ _ _)
   | (with_reducible exact ih5 _ _ _ _ _ _)
   | (with_reducible exact ih6 _ _ _ _)
   | (with_reducible exact ih7 _ _ _ _)
   | (with_reducible exact barscanref14_Fixed.mono _ _)
   | (with_reducible exact barscanref14_Verify.mono _ _ _)
   | (with_reducible exact barscanref14_first.mono _ _)
   | (with_reducible exact barscanref14_text.mono _ _)
   | (with_reducible exact LeO.refl _)
   | (with_reducible exact LeO.none _)
   | (with_reducible refine LeO.ite ?_ ?_)
   | (with_reducible refine LeO.bind ?_ (fun _ => ?_))
   | exact ih0 _ _
   | exact ih1 _ _
   | exact ih2 _ _ _
   | exact ih3 _ _ _ _
   | exact ih4 _ _ _ _ _ _ _
   | exact ih5 _ _ _ _ _ _
   | exact ih6 _ _ _ _
   | exact ih7 _ _ _ _
   | exact barscanref14_Fixed.mono _ _
   | exact barscanref14_Verify.mono _ _ _
   | exact barscanref14_first.mono _ _
   | exact barscanref14_text.mono _ _
   | exact LeO.none _
   | refine LeO.ite ?_ ?_
   | refine LeO.bind ?_ (fun _ => ?_)
  ·intro y0 y1 y2 y3
   unfold barscanref14_FromChars.j4
   repeat' first
   | (with_reducible exact ih0 _ _)
   | (with_reducible exact ih1 _ _)
   | (with_reducible exact ih2 _ _ _)
   | (with_reducible exact ih3 _ _ _ _)
   | (with_reducible exact ih4 _ _ _ _ _ _ _)
   | (with_reducible exact ih5 _ _ _ _ _ _)
   | (with_reducible exact ih6 _ _ _ _)
   | (with_reducible exact ih7 _ _ _ _)
   | (with_reducible exact barscanref14_Fixed.mono _ _)
   | (with_reducible exact barscanref14_Verify.mono _ _ _)
   | (with_reducible exact barscanref14_first.mono _ _)
   | (with_reducible exact barscanref14_text.mono _ _)
   | (with_reducible exact LeO.refl _)
   | (with_reducible exact LeO.none _)
   | (with_reducible refine LeO.ite ?_ ?_)
   | (with_reducible refine LeO.bind ?_ (fun _ => ?_))
   | exact ih0 _ _
   | exact ih1 _ _
   | exact ih2 _ _ _
   | exact ih3 _ _ _ _
   | exact ih4 _ _ _ _ _ _ _
   | exact ih5 _ _ _ _ _ _
   | exact ih6 _ _ _ _
   | exact ih7 _ _ _ _
   | exact barscanref14_Fixed.mono _ _
   | exact barscanref14_Verify.mono _ _ _
   | exact barscanref14_first.mono _ _
   | exact barscanref14_text.mono _ _
   | exact LeO.none _
   | refine LeO.ite ?_ ?_
   | refine LeO.bind ?_ (fun _ => ?_)
  ·intro y0 y1 y2 y3 y4 y5 y6
   unfold barscanref14_FromChars.j5
   repeat' first
   | (with_reducible exact ih0 _ _)
   | (with_reducible exact ih1 _ _)
   | (with_reducible exact ih2 _ _ _)
   | (with_reducible exact ih3 _ _ _ _)
   | (with_reducible exact ih4 _ _ _ _ _ _ _)
   | (with_reducible exact ih5 _ _ _ _ _ _)
   | (with_reducible exact ih6 _ _ _ _)
   | (with_reducible exact ih7 _ _ _ _)
   | (with_reducible exact barscanref14_Fixed.mono _ _)
   | (with_reducible exact barscanref14_Verify.mono _ _ _)
   | (with_reducible exact barscanref14_first.mono _ _)
   | (with_reducible exact barscanref14_text.mono _ _)
   | (with_reducible exact LeO.refl _)
   | (with_reducible exact LeO.none _)
   | (with_reducible refine LeO.ite ?_ ?_)
   | (with_reducible refine LeO.bind ?_ (fun _ => ?_))
   | exact ih0 _ _
   | exact ih1 _ _
   | exact ih2 _ _ _
   | exact ih3 _ _ _ _
   | exact ih4 _ _ _ _ _ _ _
   | exact ih5 _ _ _ _ _ _
   | exact ih6 _ _ _ _
   | exact ih7 _ _ _ _
   | exact barscanref14_Fixed.mono _ _
   | exact barscanref14_Verify.mono _ _ _
   | exact barscanref14_first.mono _ _
   | exact barscanref14_text.mono _ _
   | exact LeO.none _
   | refine LeO.ite ?_ ?_
   | refine LeO.bind ?_ (fun _ => ?_)
  ·intro y0 y1 y2 y3 y4 y5
   unfold barscanref14_FromChars.j6
   repeat' first
   | (with_reducible exact ih0 _ _)
   | (with_reducible exact ih1 _ _)
   | (with_reducible exact ih2 _ _ _)
   | (with_reducible exact ih3 _ _ _ _)
   | (with_reducible exact ih4 _ _ _ _ _ _ _)
   | (with_reducible exact ih5 _ _ _ _ _ _)
   | (with_reducible exact ih6 _ _ _ _)
   | (with_reducible exact ih7 _ _ _ _)
   | (with_reducible exact barscanref14_Fixed.mono _ _)
   | (with_reducible exact barscanref14_Verify.mono _ _ _)
   | (with_reducible exact barscanref14_first.mono _ _)
   | (with_reducible exact barscanref14_text.mono _ _)
   | (with_reducible exact LeO.refl _)
   | (with_reducible exact LeO.none _)
   | (with_reducible refine LeO.ite ?_ ?_)
   | (with_reducible refine LeO.bind ?_ (fun _ => ?_))
   | exact ih0 _ _
   | exact ih1 _ _
   | exact ih2 _ _ _
   | exact ih3 _ _ _ _
   | exact ih4 _ _ _ _ _ _ _
   | exact ih5 _ _ _ _ _ _
   | exact ih6 _ _ _ _
   | exact ih7 _ _ _ _
   | exact barscanref14_Fixed.mono _ _
   | exact barscanref14_Verify.mono _ _ _
   | exact barscanref14_first.mono _ _
   | exact barscanref14_text.mono _ _
   | exact LeO.none _
   | refine LeO.ite ?_ ?_
   | refine LeO.bind ?_ (fun _ => ?_)
  ·intro y0 y1 y2 y3
   unfold barscanref14_FromChars.j7
   repeat' first
   | (with_reducible exact ih0 _ _)
   | (with_reducible exact ih1 _ _)
   | (with_reducible exact ih2 _ _ _)
   | (with_reducible exact ih3 _ _ _ _)
   | (with_reducible exact ih4 _ _ _ _ _ _ _)
   | (with_reducible exact ih5 _ _ _ _ _ _)
   | (with_reducible exact ih6 _ _ _ _)
   | (with_reducible exact ih7 _ _ _ _)
   | (with_reducible exact barscanref14_Fixed.mono _ _)
   | (with_reducible exact barscanref14_Verify.mono _ _ _)
   | (with_reducible exact barscanref14_first.mono _ _)
   | (with_reducible exact barscanref14_text.mono _ _)
   | (with_reducible exact LeO.refl _)
   | (with_reducible exact LeO.none _)
   | (with_reducible refine LeO.ite ?_ ?_)
   | (with_reducible refine LeO.bind ?_ (fun _ => ?_))
   | exact ih0 _ _
   | exact ih1 _ _
   | exact ih2 _ _ _
   | exact ih3 _ _ _ _
   | exact ih4 _ _ _ _ _ _ _
   | exact ih5 _ _ _ _ _ _
   | exact ih6 _ _ _ _
   | exact ih7 _ _ _ _
   | exact barscanref14_Fixed.mono _ _
   | exact barscanref14_Verify.mono _ _ _
   | exact barscanref14_first.mono _ _
   | exact barscanref14_text.mono _ _
   | exact LeO.none _
   | refine LeO.ite ?_ ?_
   | refine LeO.bind ?_ (fun _ => ?_)
  ·intro y0 y1 y2 y3
   unfold barscanref14_FromChars.l2
   repeat' first
   | (with_reducible exact ih0 _ _)
   | (with_reducible exact ih1 _ _)
   | (with_reducible exact ih2 _ _ _)
   | (with_reducible exact ih3 _ _ _ _)
   | (with_reducible exact ih4 _ _ _ _ _ _ _)
   | (with_reducible exact ih5 _ _ _ _ _ _)
   | (with_reducible exact ih6 _ _ _ _)
   | (with_reducible exact ih7 _ _ _ _)
   | (with_reducible exact barscanref14_Fixed.mono _ _)
   | (with_reducible exact barscanref14_Verify.mono _ _ _)
   | (with_reducible exact barscanref14_first.mono _ _)
   | (with_reducible exact barscanref14_text.mono _ _)
   | (with_reducible exact LeO.refl _)
   | (with_reducible exact LeO.none _)
   | (with_reducible refine LeO.ite ?_ ?_)
   | (with_reducible refine LeO.bind ?_ (fun _ => ?_))
   | exact ih0 _ _
   | exact ih1 _ _
   | exact ih2 _ _ _
   | exact ih3 _ _ _ _
   | exact ih4 _ _ _ _ _ _ _
   | exact ih5 _ _ _ _ _ _
   | exact ih6 _ _ _ _
   | exact ih7 _ _ _ _
   | exact barscanref14_Fixed.mono _ _
   | exact barscanref14_Verify.mono _ _ _
   | exact barscanref14_first.mono _ _
   | exact barscanref14_text.mono _ _
   | exact LeO.none _
   | refine LeO.ite ?_ ?_
   | refine LeO.bind ?_ (fun _ => ?_)
theorem barscanref14_FromChars.mono : ∀ a0 k, LeO (barscanref14_FromChars.f k a0) (barscanref14_FromChars.f (k + 1) a0) := by
 intro a0 k
 obtain ⟨ih0, ih1, ih2, ih3, ih4, ih5, ih6, ih7⟩ := barscanref14_FromChars.mono_l k
 unfold barscanref14_FromChars.f
 repeat' first
   | (with_reducible exact ih0 _ _)
   | (with_reducible exact ih1 _ _)
   | (with_reducible exact ih2 _ _ _)
   | (with_reducible exact ih3 _ _ _ _)
   | (with_reducible exact ih4 _ _ _ _ _ _ _)
   | (with_reducible exact ih5 _ _ _ _ _ _)
   | (with_reducible exact ih6 _ _ _ _)
   | (with_reducible exact ih7 _ _ _ _)
   | (with_reducible exact barscanref14_Fixed.mono _ _)
   | (with_reducible exact barscanref14_Verify.mono _ _ _)
   | (with_reducible exact barscanref14_first.mono _ _)
   | (with_reducible exact barscanref14_text.mono _ _)
   | (with_reducible exact LeO.refl _)
   | (with_reducible exact LeO.none _)
   | (with_reducible refine LeO.ite ?_ ?_)
   | (with_reducible refine LeO.bind ?_ (fun _ => ?_))
   | exact ih0 _ _
   | exact ih1 _ _
   | exact ih2 _ _ _
   | exact ih3 _ _ _ _
   | exact ih4 _ _ _ _ _ _ _
   | exact ih5 _ _ _ _ _ _
   | exact ih6 _ _ _ _
   | exact ih7 _ _ _ _
   | exact barscanref14_Fixed.mono _ _
   | exact barscanref14_Verify.mono _ _ _
   | exact barscanref14_first.mono _ _
   | exact barscanref14_text.mono _ _
   | exact LeO.none _
   | refine LeO.ite ?_ ?_
   | refine LeO.bind ?_ (fun _ => ?_)
set_option maxHeartbeats 8000000 in
set_option maxRecDepth 100000 in
theorem barscanref14_FromChars.calls (k : Nat) (A0 : Option Addr) (c0 : Nat) (l0 : List Int) (r1 : List (S23)) (r2 : Int) (w : World) (hr0 : Kd.C (Kd.int .i64) w A0 l0.length l0) (hc0 : l0.length ≤ c0) (h : barscanref14_FromChars.f k l0 = some (r1, r2)) :
  Calls Tryz.prog 21 #[.slice A0 l0.length c0] w fun e w' => ∃ v0_ : Value, e = .returned (.tuple #[v0_, .int .i64 r2]) ∧ Kd.R k23 23 w' w.heap.size (fun _ => True) v0_ r1 ∧ Below w.heap.size w w' := by
 have hu23 := Tryz.underlying23
 have HR0 := Aside0.mk hr0
 have HC0 := Aside0.mk hc0
 clear hr0 hc0
 have HB := Aside0.mk (Below.refl w.heap.size w)
 have H : (if (l0.length : Int) > 4096 then (some (([] : List (S23)), 4)) else (barscanref14_FromChars.l0 k l0 0)) = some (r1, r2) := h
 clear h
 by_cases c2 : (l0.length : Int) > 4096
 ·rw [if_pos c2] at H
  have c2b0 : decide (4096 < (l0.length : Int)) = true := decide_eq_true c2
  have c2b1 : decide (4096 < l0.length) = true := decide_eq_true (by omega)
  clear c2
  simp only [Option.some.injEq, Prod.mk.injEq] at H
  obtain ⟨rfl, rfl⟩ := H
  go_enter Tryz.func21, Tryz.ntmps21
  go_wp2
  go_ret2
  exact ⟨_, by first | rfl | (simp [errW_none, errW_some] <;> rfl) | (simp [*, errW_none, errW_some] <;> rfl), by first | exact Kd.R_nil _ _ _ _ _ | exact Kd.N_nil _ _ _ _ _ | exact Kd.V_nil _ _ _ _ _ | exact Kd.Q_nil _ _ _ _ _ | exact Kd.S_nil _ _ _ _ _, by repeat (first | (with_reducible first | exact HB.out | apply below_alloc | apply pw_below_drewN | apply below_drew1) | exact HB.out)⟩
 ·rw [if_neg c2] at H
  have c2b0 : decide (4096 < (l0.length : Int)) = false := decide_eq_false c2
  have c2b1 : decide (4096 < l0.length) = false := decide_eq_false (by omega)
  clear c2
  have H' := Aside0.mk H
  clear H
  go_enter Tryz.func21, Tryz.ntmps21
  go_wp2
  go_loopg [4] k (fun kq v4 w' => ∃ (x4_1 : Int), v4 = .int .i64 x4_1 ∧ Aside0 (barscanref14_FromChars.l0 kq l0 x4_1 = some (r1, r2)) ∧ Aside0 (kq ≤ k) ∧ Aside0 (Below w.heap.size w w'))
  case atStart => exact ⟨(0), (by first | rfl | (simp; done) | (simp [*]; done)), H', ⟨Nat.le_refl _⟩, ⟨by repeat (first | (with_reducible first | exact HB.out | apply below_alloc | apply pw_below_drewN | apply below_drew1) | exact HB.out)⟩⟩
  case round =>
   clear H'
   obtain ⟨x4_1, rfl, HA, HK1, HB⟩ := hrel
   cases gk with
   | zero => exact absurd HA.out (by simp [barscanref14_FromChars.l0])
   | succ k1 =>
    have H := HA.out
    clear HA
    simp only [barscanref14_FromChars.l0] at H
    by_cases c3 : x4_1 < (l0.length : Int)
    ·rw [if_pos c3] at H
     have c3b0 : decide (x4_1 < (l0.length : Int)) = true := decide_eq_true c3
     clear c3
     by_cases c4 : 0 ≤ x4_1
     ·rw [if_pos c4] at H
      have c4b0 : decide (0 ≤ x4_1) = true := decide_eq_true c4
      clear c4
      by_cases c5 : (rd l0 x4_1) = 256
      ·rw [if_pos c5] at H
       have c5b0 : ((rd l0 x4_1) == 256) = true := beq_iff_eq.mpr c5
       have c5b1 : ((rd l0 x4_1) != 256) = false := bne_eq_false_iff_eq.mpr c5
       clear c5
       have H' := Aside0.mk H
       clear H
       have p324 : 0 ≤ (x4_1 : Int) := of_decide_eq_true (by first | (with_reducible assumption) | assumption)
       have q324 : x4_1 < (l0.length : Int) := of_decide_eq_true (by first | (with_reducible assumption) | assumption)
       obtain ⟨ad324, e324, hx324_0⟩ := Kd.at_int HR0.out x4_1 p324 q324
       cases e324
       replace hx324_0 := (HB.out.cell (World.block_lt_of_cell? w _ hx324_0)).trans hx324_0
       replace p324 := eq_true p324
       replace q324 := eq_true q324
       (try (have h_ := of_eq_true q324; simp only [ByteArray.size_append, ByteArray.size_extract, Nat.min_self, Int.toNat_natCast, Nat.sub_zero, Int.natCast_add, size_lit, List.length_cons, List.length_nil, Nat.zero_add, Nat.reduceAdd, Int.natCast_one, Int.cast_ofNat_Int] at h_; have q324s := eq_true h_; clear h_))
       go_wp2
       go_roundg k1
       case measure => have := HK1.out; omega
       case rel => exact ⟨(wrap64 (x4_1 + 1)), (by first | rfl | (simp; done) | (simp [*]; done)), H', ⟨by have := HK1.out; omega⟩, ⟨by repeat (first | (with_reducible first | exact HB.out | apply below_alloc | apply pw_below_drewN | apply below_drew1) | exact HB.out)⟩⟩
      ·rw [if_neg c5] at H
       have c5b0 : ((rd l0 x4_1) == 256) = false := beq_eq_false_iff_ne.mpr c5
       have c5b1 : ((rd l0 x4_1) != 256) = true := bne_iff_ne.mpr c5
       by_cases c6 : (rd l0 x4_1) < 0
       ·rw [if_pos c6] at H
        have c6b0 : decide ((rd l0 x4_1) < 0) = true := decide_eq_true c6
        clear c6
        simp only [Option.some.injEq, Prod.mk.injEq] at H
        obtain ⟨rfl, rfl⟩ := H
        have p324 : 0 ≤ (x4_1 : Int) := of_decide_eq_true (by first | (with_reducible assumption) | assumption)
        have q324 : x4_1 < (l0.length : Int) := of_decide_eq_true (by first | (with_reducible assumption) | assumption)
        obtain ⟨ad324, e324, hx324_0⟩ := Kd.at_int HR0.out x4_1 p324 q324
        cases e324
        replace hx324_0 := (HB.out.cell (World.block_lt_of_cell? w _ hx324_0)).trans hx324_0
        replace p324 := eq_true p324
        replace q324 := eq_true q324
        (try (have h_ := of_eq_true q324; simp only [ByteArray.size_append, ByteArray.size_extract, Nat.min_self, Int.toNat_natCast, Nat.sub_zero, Int.natCast_add, size_lit, List.length_cons, List.length_nil, Nat.zero_add, Nat.reduceAdd, Int.natCast_one, Int.cast_ofNat_Int] at h_; have q324s := eq_true h_; clear h_))
        have p325 : 0 ≤ (x4_1 : Int) := of_decide_eq_true (by first | (with_reducible assumption) | assumption)
        have q325 : x4_1 < (l0.length : Int) := of_decide_eq_true (by first | (with_reducible assumption) | assumption)
        obtain ⟨ad325, e325, hx325_0⟩ := Kd.at_int HR0.out x4_1 p325 q325
        obtain rfl : ad324 = ad325 := (by injection e325)
        replace hx325_0 := (HB.out.cell (World.block_lt_of_cell? w _ hx325_0)).trans hx325_0
        replace p325 := eq_true p325
        replace q325 := eq_true q325
        (try (have h_ := of_eq_true q325; simp only [ByteArray.size_append, ByteArray.size_extract, Nat.min_self, Int.toNat_natCast, Nat.sub_zero, Int.natCast_add, size_lit, List.length_cons, List.length_nil, Nat.zero_add, Nat.reduceAdd, Int.natCast_one, Int.cast_ofNat_Int] at h_; have q325s := eq_true h_; clear h_))
        go_wp2
        go_ret2
        exact ⟨_, by first | rfl | (simp [errW_none, errW_some] <;> rfl) | (simp [*, errW_none, errW_some] <;> rfl), by first | exact Kd.R_nil _ _ _ _ _ | exact Kd.N_nil _ _ _ _ _ | exact Kd.V_nil _ _ _ _ _ | exact Kd.Q_nil _ _ _ _ _ | exact Kd.S_nil _ _ _ _ _, by repeat (first | (with_reducible first | exact HB.out | apply below_alloc | apply pw_below_drewN | apply below_drew1) | exact HB.out)⟩
       ·rw [if_neg c6] at H
        have c6b0 : decide ((rd l0 x4_1) < 0) = false := decide_eq_false c6
        clear c6
        by_cases c7 : (rd l0 x4_1) > 127
        ·rw [if_pos c7] at H
         have c7b0 : decide (127 < (rd l0 x4_1)) = true := decide_eq_true c7
         clear c7
         simp only [Option.some.injEq, Prod.mk.injEq] at H
         obtain ⟨rfl, rfl⟩ := H
         have p324 : 0 ≤ (x4_1 : Int) := of_decide_eq_true (by first | (with_reducible assumption) | assumption)
         have q324 : x4_1 < (l0.length : Int) := of_decide_eq_true (by first | (with_reducible assumption) | assumption)
         obtain ⟨ad324, e324, hx324_0⟩ := Kd.at_int HR0.out x4_1 p324 q324
         cases e324
         replace hx324_0 := (HB.out.cell (World.block_lt_of_cell? w _ hx324_0)).trans hx324_0
         replace p324 := eq_true p324
         replace q324 := eq_true q324
         (try (have h_ := of_eq_true q324; simp only [ByteArray.size_append, ByteArray.size_extract, Nat.min_self, Int.toNat_natCast, Nat.sub_zero, Int.natCast_add, size_lit, List.length_cons, List.length_nil, Nat.zero_add, Nat.reduceAdd, Int.natCast_one, Int.cast_ofNat_Int] at h_; have q324s := eq_true h_; clear h_))
         have p325 : 0 ≤ (x4_1 : Int) := of_decide_eq_true (by first | (with_reducible assumption) | assumption)
         have q325 : x4_1 < (l0.length : Int) := of_decide_eq_true (by first | (with_reducible assumption) | assumption)
         obtain ⟨ad325, e325, hx325_0⟩ := Kd.at_int HR0.out x4_1 p325 q325
         obtain rfl : ad324 = ad325 := (by injection e325)
         replace hx325_0 := (HB.out.cell (World.block_lt_of_cell? w _ hx325_0)).trans hx325_0
         replace p325 := eq_true p325
         replace q325 := eq_true q325
         (try (have h_ := of_eq_true q325; simp only [ByteArray.size_append, ByteArray.size_extract, Nat.min_self, Int.toNat_natCast, Nat.sub_zero, Int.natCast_add, size_lit, List.length_cons, List.length_nil, Nat.zero_add, Nat.reduceAdd, Int.natCast_one, Int.cast_ofNat_Int] at h_; have q325s := eq_true h_; clear h_))
         have p326 : 0 ≤ (x4_1 : Int) := of_decide_eq_true (by first | (with_reducible assumption) | assumption)
         have q326 : x4_1 < (l0.length : Int) := of_decide_eq_true (by first | (with_reducible assumption) | assumption)
         obtain ⟨ad326, e326, hx326_0⟩ := Kd.at_int HR0.out x4_1 p326 q326
         obtain rfl : ad324 = ad326 := (by injection e326)
         replace hx326_0 := (HB.out.cell (World.block_lt_of_cell? w _ hx326_0)).trans hx326_0
         replace p326 := eq_true p326
         replace q326 := eq_true q326
         (try (have h_ := of_eq_true q326; simp only [ByteArray.size_append, ByteArray.size_extract, Nat.min_self, Int.toNat_natCast, Nat.sub_zero, Int.natCast_add, size_lit, List.length_cons, List.length_nil, Nat.zero_add, Nat.reduceAdd, Int.natCast_one, Int.cast_ofNat_Int] at h_; have q326s := eq_true h_; clear h_))
         go_wp2
         go_ret2
         exact ⟨_, by first | rfl | (simp [errW_none, errW_some] <;> rfl) | (simp [*, errW_none, errW_some] <;> rfl), by first | exact Kd.R_nil _ _ _ _ _ | exact Kd.N_nil _ _ _ _ _ | exact Kd.V_nil _ _ _ _ _ | exact Kd.Q_nil _ _ _ _ _ | exact Kd.S_nil _ _ _ _ _, by repeat (first | (with_reducible first | exact HB.out | apply below_alloc | apply pw_below_drewN | apply below_drew1) | exact HB.out)⟩
        ·rw [if_neg c7] at H
         have c7b0 : decide (127 < (rd l0 x4_1)) = false := decide_eq_false c7
         clear c7
         have H' := Aside0.mk H
         clear H
         have p324 : 0 ≤ (x4_1 : Int) := of_decide_eq_true (by first | (with_reducible assumption) | assumption)
         have q324 : x4_1 < (l0.length : Int) := of_decide_eq_true (by first | (with_reducible assumption) | assumption)
         obtain ⟨ad324, e324, hx324_0⟩ := Kd.at_int HR0.out x4_1 p324 q324
         cases e324
         replace hx324_0 := (HB.out.cell (World.block_lt_of_cell? w _ hx324_0)).trans hx324_0
         replace p324 := eq_true p324
         replace q324 := eq_true q324
         (try (have h_ := of_eq_true q324; simp only [ByteArray.size_append, ByteArray.size_extract, Nat.min_self, Int.toNat_natCast, Nat.sub_zero, Int.natCast_add, size_lit, List.length_cons, List.length_nil, Nat.zero_add, Nat.reduceAdd, Int.natCast_one, Int.cast_ofNat_Int] at h_; have q324s := eq_true h_; clear h_))
         have p325 : 0 ≤ (x4_1 : Int) := of_decide_eq_true (by first | (with_reducible assumption) | assumption)
         have q325 : x4_1 < (l0.length : Int) := of_decide_eq_true (by first | (with_reducible assumption) | assumption)
         obtain ⟨ad325, e325, hx325_0⟩ := Kd.at_int HR0.out x4_1 p325 q325
         obtain rfl : ad324 = ad325 := (by injection e325)
         replace hx325_0 := (HB.out.cell (World.block_lt_of_cell? w _ hx325_0)).trans hx325_0
         replace p325 := eq_true p325
         replace q325 := eq_true q325
         (try (have h_ := of_eq_true q325; simp only [ByteArray.size_append, ByteArray.size_extract, Nat.min_self, Int.toNat_natCast, Nat.sub_zero, Int.natCast_add, size_lit, List.length_cons, List.length_nil, Nat.zero_add, Nat.reduceAdd, Int.natCast_one, Int.cast_ofNat_Int] at h_; have q325s := eq_true h_; clear h_))
         have p326 : 0 ≤ (x4_1 : Int) := of_decide_eq_true (by first | (with_reducible assumption) | assumption)
         have q326 : x4_1 < (l0.length : Int) := of_decide_eq_true (by first | (with_reducible assumption) | assumption)
         obtain ⟨ad326, e326, hx326_0⟩ := Kd.at_int HR0.out x4_1 p326 q326
         obtain rfl : ad324 = ad326 := (by injection e326)
         replace hx326_0 := (HB.out.cell (World.block_lt_of_cell? w _ hx326_0)).trans hx326_0
         replace p326 := eq_true p326
         replace q326 := eq_true q326
         (try (have h_ := of_eq_true q326; simp only [ByteArray.size_append, ByteArray.size_extract, Nat.min_self, Int.toNat_natCast, Nat.sub_zero, Int.natCast_add, size_lit, List.length_cons, List.length_nil, Nat.zero_add, Nat.reduceAdd, Int.natCast_one, Int.cast_ofNat_Int] at h_; have q326s := eq_true h_; clear h_))
         go_wp2
         go_roundg k1
         case measure => have := HK1.out; omega
         case rel => exact ⟨(wrap64 (x4_1 + 1)), (by first | rfl | (simp; done) | (simp [*]; done)), H', ⟨by have := HK1.out; omega⟩, ⟨by repeat (first | (with_reducible first | exact HB.out | apply below_alloc | apply pw_below_drewN | apply below_drew1) | exact HB.out)⟩⟩
     ·rw [if_neg c4] at H
      exact absurd H (by simp)
    ·rw [if_neg c3] at H
     have c3b0 : decide (x4_1 < (l0.length : Int)) = false := decide_eq_false c3
     clear c3
     have HC8 := Aside0.mk H
     clear H
     go_upto_region 8 with (fail)
     go_cut [52] (fun v52 wc => ∃ (kq : Nat) (x52_7 : Bool), v52 = .bool x52_7 ∧ Aside0 (barscanref14_FromChars.j1 kq l0 x52_7 = some (r1, r2)) ∧ Aside0 (kq ≤ k1) ∧ Aside0 (Below w.heap.size w wc))
     case first =>
      have H := HC8.out
      clear HC8
      by_cases c9 : (l0.length : Int) = 0
      ·rw [if_pos c9] at H
       have c9b0 : ((l0.length : Int) == 0) = true := beq_iff_eq.mpr c9
       have c9b1 : ((l0.length : Int) != 0) = false := bne_eq_false_iff_eq.mpr c9
       clear c9
       (first | rw [c9b0] | (simp only [i64_w]; rw [c9b0]) | skip)
       have H' := Aside0.mk H
       clear H
       go_wp2
       go_meet
       case rel => exact ⟨_, (true), (by first | rfl | (simp; done) | (simp [*]; done)), H', ⟨by have := HK1.out; first | omega | exact Nat.le_refl _⟩, ⟨by repeat (first | (with_reducible first | exact HB.out | apply below_alloc | apply pw_below_drewN | apply below_drew1) | exact HB.out)⟩⟩
      ·rw [if_neg c9] at H
       have c9b0 : ((l0.length : Int) == 0) = false := beq_eq_false_iff_ne.mpr c9
       have c9b1 : ((l0.length : Int) != 0) = true := bne_iff_ne.mpr c9
       have c9b2 : ¬ (l0 = []) := fun h_ => c9 (by rw [h_]; rfl)
       (first | rw [c9b0] | (simp only [i64_w]; rw [c9b0]) | skip)
       by_cases c10 : 0 < (l0.length : Int)
       ·rw [if_pos c10] at H
        have c10b0 : decide (0 < (l0.length : Int)) = true := decide_eq_true c10
        have c10b1 : decide (0 < l0.length) = true := decide_eq_true (by omega)
        clear c10
        have H' := Aside0.mk H
        clear H
        have p327 : 0 ≤ (0 : Int) := (by omega)
        have q327 : 0 < (l0.length : Int) := of_decide_eq_true (by first | (with_reducible assumption) | assumption)
        obtain ⟨ad327, e327, hx327_0⟩ := Kd.at_int HR0.out 0 p327 q327
        cases e327
        have qi327 : (0 < l0.length) = True := eq_true (by omega)
        (try rw [show ((0 : Int)).toNat = 0 from rfl] at hx327_0)
        (try rw [Addr.add_zero'] at hx327_0)
        replace hx327_0 := (HB.out.cell (World.block_lt_of_cell? w _ hx327_0)).trans hx327_0
        replace p327 := eq_true p327
        replace q327 := eq_true q327
        (try (have h_ := of_eq_true q327; simp only [ByteArray.size_append, ByteArray.size_extract, Nat.min_self, Int.toNat_natCast, Nat.sub_zero, Int.natCast_add, size_lit, List.length_cons, List.length_nil, Nat.zero_add, Nat.reduceAdd, Int.natCast_one, Int.cast_ofNat_Int] at h_; have q327s := eq_true h_; clear h_))
        go_wp2
        go_meet
        case rel => exact ⟨_, (((rd l0 0) != 256)), (by first | rfl | (simp; done) | (simp [*]; done)), H', ⟨by have := HK1.out; first | omega | exact Nat.le_refl _⟩, ⟨by repeat (first | (with_reducible first | exact HB.out | apply below_alloc | apply pw_below_drewN | apply below_drew1) | exact HB.out)⟩⟩
       ·rw [if_neg c10] at H
        exact absurd H (by simp)
     case rest =>
      clear HC8
      obtain ⟨kq, x52_7, rfl, HA, HJ7, HB⟩ := hcut
      cases kq with
      | zero => exact absurd HA.out (by simp [barscanref14_FromChars.j1])
      | succ kj7 =>
       have H := HA.out
       clear HA
       simp only [barscanref14_FromChars.j1] at H
       by_cases c11 : x52_7 = true
       ·subst c11
        have H1 : (some (([] : List (S23)), 9)) = some (r1, r2) := by rw [if_pos rfl] at H; exact H
        clear H
        have H := H1
        clear H1
        simp only [Option.some.injEq, Prod.mk.injEq] at H
        obtain ⟨rfl, rfl⟩ := H
        go_wp2
        go_ret2
        exact ⟨_, by first | rfl | (simp [errW_none, errW_some] <;> rfl) | (simp [*, errW_none, errW_some] <;> rfl), by first | exact Kd.R_nil _ _ _ _ _ | exact Kd.N_nil _ _ _ _ _ | exact Kd.V_nil _ _ _ _ _ | exact Kd.Q_nil _ _ _ _ _ | exact Kd.S_nil _ _ _ _ _, by repeat (first | (with_reducible first | exact HB.out | apply below_alloc | apply pw_below_drewN | apply below_drew1) | exact HB.out)⟩
       ·replace c11 := Bool.eq_false_iff.mpr c11
        subst c11
        have H1 : (if (l0.length : Int) = 1 then (some (([] : List (S23)), 5)) else (barscanref14_FromChars.l1 kj7 l0 ([] : List (S23)) 1)) = some (r1, r2) := by rw [if_neg (show ¬ (false = true) by decide)] at H; exact H
        clear H
        have H := H1
        clear H1
        by_cases c12 : (l0.length : Int) = 1
        ·rw [if_pos c12] at H
         have c12b0 : ((l0.length : Int) == 1) = true := beq_iff_eq.mpr c12
         have c12b1 : ((l0.length : Int) != 1) = false := bne_eq_false_iff_eq.mpr c12
         clear c12
         simp only [Option.some.injEq, Prod.mk.injEq] at H
         obtain ⟨rfl, rfl⟩ := H
         go_wp2
         go_ret2
         exact ⟨_, by first | rfl | (simp [errW_none, errW_some] <;> rfl) | (simp [*, errW_none, errW_some] <;> rfl), by first | exact Kd.R_nil _ _ _ _ _ | exact Kd.N_nil _ _ _ _ _ | exact Kd.V_nil _ _ _ _ _ | exact Kd.Q_nil _ _ _ _ _ | exact Kd.S_nil _ _ _ _ _, by repeat (first | (with_reducible first | exact HB.out | apply below_alloc | apply pw_below_drewN | apply below_drew1) | exact HB.out)⟩
        ·rw [if_neg c12] at H
         have c12b0 : ((l0.length : Int) == 1) = false := beq_eq_false_iff_ne.mpr c12
         have c12b1 : ((l0.length : Int) != 1) = true := bne_iff_ne.mpr c12
         have H' := Aside0.mk H
         clear H
         go_wp2
         go_loopg [5, 6] kj7 (fun kq v5 v6 w' => ∃ (x5_3 : List (S23)) (x6_3 : Int), v6 = .int .i64 x6_3 ∧ Aside0 (barscanref14_FromChars.l1 kq l0 x5_3 x6_3 = some (r1, r2)) ∧ Aside0 (kq ≤ kj7) ∧ Aside0 (Kd.R k23 23 w' w.heap.size (fun _ => True) v5 x5_3) ∧ Aside0 (Below w.heap.size w w'))
         case atStart => exact ⟨(([] : List (S23))), (1), (by first | rfl | (simp; done) | (simp [*]; done)), H', ⟨Nat.le_refl _⟩, ⟨by first | exact Kd.R_nil _ _ _ _ _ | exact Kd.N_nil _ _ _ _ _ | exact Kd.V_nil _ _ _ _ _ | exact Kd.Q_nil _ _ _ _ _ | exact Kd.S_nil _ _ _ _ _⟩, ⟨by repeat (first | (with_reducible first | exact HB.out | apply below_alloc | apply pw_below_drewN | apply below_drew1) | exact HB.out)⟩⟩
         case round =>
          clear H'
          obtain ⟨x5_3, x6_3, rfl, HA, HK3, HO_5, HB⟩ := hrel
          cases gk with
          | zero => exact absurd HA.out (by simp [barscanref14_FromChars.l1])
          | succ k3 =>
           have H := HA.out
           clear HA
           simp only [barscanref14_FromChars.l1] at H
           by_cases c13 : x6_3 < (l0.length : Int)
           ·rw [if_pos c13] at H
            have c13b0 : decide (x6_3 < (l0.length : Int)) = true := decide_eq_true c13
            clear c13
            have HC14 := Aside0.mk H
            clear H
            go_upto_block 4 with (fail)
            go_cut [7] (fun v7 wc => ∃ (kq : Nat) (x7_13 : Int), v7 = .int .i64 x7_13 ∧ Aside0 (barscanref14_FromChars.j4 kq l0 x5_3 x6_3 x7_13 = some (r1, r2)) ∧ Aside0 (kq ≤ k3) ∧ Aside0 (Kd.R k23 23 wc w.heap.size (fun _ => True) u5 x5_3) ∧ Aside0 (Below w.heap.size w wc))
            case first =>
             have H := HC14.out
             clear HC14
             have H' := Aside0.mk H
             clear H
             go_wp2
             go_loopg [7] k3 (fun kq v7 w' => ∃ (x7_4 : Int), v7 = .int .i64 x7_4 ∧ Aside0 (barscanref14_FromChars.l2 kq l0 x5_3 x6_3 x7_4 = some (r1, r2)) ∧ Aside0 (kq ≤ k3) ∧ Aside0 (Kd.R k23 23 w' w.heap.size (fun _ => True) u5 x5_3) ∧ Aside0 (Below w.heap.size w w'))
             case atStart => exact ⟨(x6_3), (by first | rfl | (simp; done) | (simp [*]; done)), H', ⟨Nat.le_refl _⟩, ⟨by (with_reducible repeat (first | apply Kd.R_alloc | apply Kd.R_drewN | apply Kd.R_drew)); exact HO_5.out⟩, ⟨by repeat (first | (with_reducible first | exact HB.out | apply below_alloc | apply pw_below_drewN | apply below_drew1) | exact HB.out)⟩⟩
             case round =>
              clear H'
              obtain ⟨x7_4, rfl, HA, HK4, HO_5, HB⟩ := hrel
              cases gk with
              | zero => exact absurd HA.out (by simp [barscanref14_FromChars.l2])
              | succ k4 =>
               have H := HA.out
               clear HA
               simp only [barscanref14_FromChars.l2] at H
               by_cases c15 : x7_4 < (l0.length : Int)
               ·rw [if_pos c15] at H
                have c15b0 : decide (x7_4 < (l0.length : Int)) = true := decide_eq_true c15
                clear c15
                (first | rw [c15b0] | (simp only [i64_w]; rw [c15b0]) | skip)
                by_cases c16 : 0 ≤ x7_4
                ·rw [if_pos c16] at H
                 have c16b0 : decide (0 ≤ x7_4) = true := decide_eq_true c16
                 clear c16
                 by_cases c17 : (rd l0 x7_4) = 256
                 ·rw [if_pos c17] at H
                  have c17b0 : ((rd l0 x7_4) == 256) = true := beq_iff_eq.mpr c17
                  have c17b1 : ((rd l0 x7_4) != 256) = false := bne_eq_false_iff_eq.mpr c17
                  clear c17
                  have H' := Aside0.mk H
                  clear H
                  have p328 : 0 ≤ (x7_4 : Int) := of_decide_eq_true (by first | (with_reducible assumption) | assumption)
                  have q328 : x7_4 < (l0.length : Int) := of_decide_eq_true (by first | (with_reducible assumption) | assumption)
                  obtain ⟨ad328, e328, hx328_0⟩ := Kd.at_int HR0.out x7_4 p328 q328
                  cases e328
                  replace hx328_0 := (HB.out.cell (World.block_lt_of_cell? w _ hx328_0)).trans hx328_0
                  replace p328 := eq_true p328
                  replace q328 := eq_true q328
                  (try (have h_ := of_eq_true q328; simp only [ByteArray.size_append, ByteArray.size_extract, Nat.min_self, Int.toNat_natCast, Nat.sub_zero, Int.natCast_add, size_lit, List.length_cons, List.length_nil, Nat.zero_add, Nat.reduceAdd, Int.natCast_one, Int.cast_ofNat_Int] at h_; have q328s := eq_true h_; clear h_))
                  go_wp2
                  go_meet
                  case rel => exact ⟨_, (x7_4), (by first | rfl | (simp; done) | (simp [*]; done)), H', ⟨by have := HK1.out; have := HJ7.out; have := HK3.out; have := HK4.out; first | omega | exact Nat.le_refl _⟩, ⟨by (with_reducible repeat (first | apply Kd.R_alloc | apply Kd.R_drewN | apply Kd.R_drew)); exact HO_5.out⟩, ⟨by repeat (first | (with_reducible first | exact HB.out | apply below_alloc | apply pw_below_drewN | apply below_drew1) | exact HB.out)⟩⟩
                 ·rw [if_neg c17] at H
                  have c17b0 : ((rd l0 x7_4) == 256) = false := beq_eq_false_iff_ne.mpr c17
                  have c17b1 : ((rd l0 x7_4) != 256) = true := bne_iff_ne.mpr c17
                  have H' := Aside0.mk H
                  clear H
                  have p328 : 0 ≤ (x7_4 : Int) := of_decide_eq_true (by first | (with_reducible assumption) | assumption)
                  have q328 : x7_4 < (l0.length : Int) := of_decide_eq_true (by first | (with_reducible assumption) | assumption)
                  obtain ⟨ad328, e328, hx328_0⟩ := Kd.at_int HR0.out x7_4 p328 q328
                  cases e328
                  replace hx328_0 := (HB.out.cell (World.block_lt_of_cell? w _ hx328_0)).trans hx328_0
                  replace p328 := eq_true p328
                  replace q328 := eq_true q328
                  (try (have h_ := of_eq_true q328; simp only [ByteArray.size_append, ByteArray.size_extract, Nat.min_self, Int.toNat_natCast, Nat.sub_zero, Int.natCast_add, size_lit, List.length_cons, List.length_nil, Nat.zero_add, Nat.reduceAdd, Int.natCast_one, Int.cast_ofNat_Int] at h_; have q328s := eq_true h_; clear h_))
                  go_wp2
                  go_roundg k4
                  case measure => have := HK1.out; have := HJ7.out; have := HK3.out; have := HK4.out; omega
                  case rel => exact ⟨(wrap64 (x7_4 + 1)), (by first | rfl | (simp; done) | (simp [*]; done)), H', ⟨by have := HK1.out; have := HJ7.out; have := HK3.out; have := HK4.out; omega⟩, ⟨by (with_reducible repeat (first | apply Kd.R_alloc | apply Kd.R_drewN | apply Kd.R_drew)); exact HO_5.out⟩, ⟨by repeat (first | (with_reducible first | exact HB.out | apply below_alloc | apply pw_below_drewN | apply below_drew1) | exact HB.out)⟩⟩
                ·rw [if_neg c16] at H
                 exact absurd H (by simp)
               ·rw [if_neg c15] at H
                have c15b0 : decide (x7_4 < (l0.length : Int)) = false := decide_eq_false c15
                clear c15
                (first | rw [c15b0] | (simp only [i64_w]; rw [c15b0]) | skip)
                have H' := Aside0.mk H
                clear H
                go_wp2
                go_meet
                case rel => exact ⟨_, (x7_4), (by first | rfl | (simp; done) | (simp [*]; done)), H', ⟨by have := HK1.out; have := HJ7.out; have := HK3.out; have := HK4.out; first | omega | exact Nat.le_refl _⟩, ⟨by (with_reducible repeat (first | apply Kd.R_alloc | apply Kd.R_drewN | apply Kd.R_drew)); exact HO_5.out⟩, ⟨by repeat (first | (with_reducible first | exact HB.out | apply below_alloc | apply pw_below_drewN | apply below_drew1) | exact HB.out)⟩⟩
            case rest =>
             clear HC14
             obtain ⟨kq, x7_13, rfl, HA, HJ13, HO_5, HB⟩ := hcut
             cases kq with
             | zero => exact absurd HA.out (by simp [barscanref14_FromChars.j4])
             | succ kj13 =>
              have H := HA.out
              clear HA
              simp only [barscanref14_FromChars.j4] at H
              by_cases c18 : x7_13 = x6_3
              ·rw [if_pos c18] at H
               have c18b0 : (x7_13 == x6_3) = true := beq_iff_eq.mpr c18
               have c18b1 : (x7_13 != x6_3) = false := bne_eq_false_iff_eq.mpr c18
               clear c18
               simp only [Option.some.injEq, Prod.mk.injEq] at H
               obtain ⟨rfl, rfl⟩ := H
               go_wp2
               go_ret2
               exact ⟨_, by first | rfl | (simp [errW_none, errW_some] <;> rfl) | (simp [*, errW_none, errW_some] <;> rfl), by first | exact Kd.R_nil _ _ _ _ _ | exact Kd.N_nil _ _ _ _ _ | exact Kd.V_nil _ _ _ _ _ | exact Kd.Q_nil _ _ _ _ _ | exact Kd.S_nil _ _ _ _ _, by repeat (first | (with_reducible first | exact HB.out | apply below_alloc | apply pw_below_drewN | apply below_drew1) | exact HB.out)⟩
              ·rw [if_neg c18] at H
               have c18b0 : (x7_13 == x6_3) = false := beq_eq_false_iff_ne.mpr c18
               have c18b1 : (x7_13 != x6_3) = true := bne_iff_ne.mpr c18
               by_cases c19 : 0 ≤ x6_3
               ·rw [if_pos c19] at H
                have c19b0 := eq_true c19
                (try (have h_ := of_eq_true c19b0; simp only [ByteArray.size_append, ByteArray.size_extract, Nat.min_self, Int.toNat_natCast, Nat.sub_zero, Int.natCast_add, size_lit, List.length_cons, List.length_nil, Nat.zero_add, Nat.reduceAdd, Int.natCast_one, Int.cast_ofNat_Int] at h_; have c19b0s := eq_true h_; clear h_))
                have c19b1 : decide (0 ≤ x6_3) = true := decide_eq_true c19
                clear c19
                by_cases c20 : x6_3 ≤ x7_13
                ·rw [if_pos c20] at H
                 have c20b0 := eq_true c20
                 (try (have h_ := of_eq_true c20b0; simp only [ByteArray.size_append, ByteArray.size_extract, Nat.min_self, Int.toNat_natCast, Nat.sub_zero, Int.natCast_add, size_lit, List.length_cons, List.length_nil, Nat.zero_add, Nat.reduceAdd, Int.natCast_one, Int.cast_ofNat_Int] at h_; have c20b0s := eq_true h_; clear h_))
                 have c20b1 : decide (x6_3 ≤ x7_13) = true := decide_eq_true c20
                 clear c20
                 by_cases c21 : x7_13 ≤ (l0.length : Int)
                 ·rw [if_pos c21] at H
                  have c21b0 := eq_true c21
                  (try (have h_ := of_eq_true c21b0; simp only [ByteArray.size_append, ByteArray.size_extract, Nat.min_self, Int.toNat_natCast, Nat.sub_zero, Int.natCast_add, size_lit, List.length_cons, List.length_nil, Nat.zero_add, Nat.reduceAdd, Int.natCast_one, Int.cast_ofNat_Int] at h_; have c21b0s := eq_true h_; clear h_))
                  have c21b1 : decide (x7_13 ≤ (l0.length : Int)) = true := decide_eq_true c21
                  clear c21
                  replace H := Option.bind_eq_some_iff.mp H
                  obtain ⟨t330, A220, H⟩ := H
                  replace H : ((barscanref14_first.f kj13 t330).bind fun t331 => (if t331.toList = ([] : List UInt8) then (some (([] : List (S23)), 29)) else ((barscanref14_Fixed.f kj13 t331).bind fun bt332 => (if 0 ≤ (t331.size : Int) then (if (t331.size : Int) ≤ (t330.size : Int) then (if bt332.1 > 0 then (barscanref14_FromChars.j5 kj13 l0 x5_3 x6_3 t331 bt332.1 (t330.extract ((t331.size : Int) : Int).toNat t330.size) (decide (((t330.extract ((t331.size : Int) : Int).toNat t330.size).size : Int) < bt332.1))) else (barscanref14_FromChars.j5 kj13 l0 x5_3 x6_3 t331 bt332.1 (t330.extract ((t331.size : Int) : Int).toNat t330.size) false)) else (none)) else (none))))) = some (r1, r2) := H
                  have A22 := Aside0.mk A220
                  clear A220
                  replace H := Option.bind_eq_some_iff.mp H
                  obtain ⟨t331, A230, H⟩ := H
                  replace H : (if t331.toList = ([] : List UInt8) then (some (([] : List (S23)), 29)) else ((barscanref14_Fixed.f kj13 t331).bind fun bt332 => (if 0 ≤ (t331.size : Int) then (if (t331.size : Int) ≤ (t330.size : Int) then (if bt332.1 > 0 then (barscanref14_FromChars.j5 kj13 l0 x5_3 x6_3 t331 bt332.1 (t330.extract ((t331.size : Int) : Int).toNat t330.size) (decide (((t330.extract ((t331.size : Int) : Int).toNat t330.size).size : Int) < bt332.1))) else (barscanref14_FromChars.j5 kj13 l0 x5_3 x6_3 t331 bt332.1 (t330.extract ((t331.size : Int) : Int).toNat t330.size) false)) else (none)) else (none)))) = some (r1, r2) := H
                  have A23 := Aside0.mk A230
                  clear A230
                  by_cases c24 : t331.toList = ([] : List UInt8)
                  ·rw [if_pos c24] at H
                   have c24b0 : (t331.toList == ([] : List UInt8)) = true := beq_iff_eq.mpr c24
                   have c24b1 : (t331.toList != ([] : List UInt8)) = false := bne_eq_false_iff_eq.mpr c24
                   clear c24
                   simp only [Option.some.injEq, Prod.mk.injEq] at H
                   obtain ⟨rfl, rfl⟩ := H
                   obtain ⟨i025, hi025, _, hsz25, _⟩ := info_parts info3
                   obtain ⟨A25, hcut25, hA25, hC25⟩ := print_mid_of (P := Tryz.prog) (Value.int .i64) 0 37 3 .i64 .i64 Tryz.underlying37 hi025 hsz25 A0 c0 l0 x6_3 x7_13 (of_decide_eq_true (by first | (with_reducible assumption) | assumption)) (by first | omega | exact of_decide_eq_true (by first | (with_reducible assumption) | assumption)) (of_decide_eq_true (by first | (with_reducible assumption) | assumption)) HC0.out
                   have HR329 := Aside0.mk (Kd.C_of_reads (h1 := fun _ => rfl) (hA25 _ (Kd.reads_of_C HR0.out)))
                   have HC329 := Aside0.mk hC25
                   clear hA25 hC25 hi025 hsz25
                   go_wp2_with (first | ((with_reducible refine gate_callee (f := 42) rfl ?_); refine goesL_ (some 81) rfl rfl Tryz.func42 (by kernel_rfl) rfl #[.slice A25 ((l0.take (x7_13 : Int).toNat).drop (x6_3 : Int).toNat).length (c0 - x6_3.toNat)] rfl (by (try simp only [List.map_toArray, List.map_cons, List.map_nil]); first | done | (rw [show ((l0.take (x7_13 : Int).toNat).drop (x6_3 : Int).toNat).length = (x7_13.toNat - x6_3.toNat) from (by rw [List.length_drop, List.length_take]; have h_ : (x7_13 : Int) ≤ (l0.length : Int) := of_decide_eq_true (by first | (with_reducible assumption) | assumption); omega)] <;> rfl) | rfl | (simp only [List.length_drop, List.length_take]; rfl)) ?_; (with_reducible refine (barscanref14_text.calls kj13 _ _ ((l0.take (x7_13 : Int).toNat).drop (x6_3 : Int).toNat) t330 _ ?side1 ?side2 A22.out).mono ?_); (case side1 => repeat (first | exact (Kd.C_below HR329.out HB.out) | (with_reducible refine Kd.C_alloc ?_ _) | (with_reducible refine Kd.C_drewN ?_ _) | (with_reducible refine Kd.C_drew ?_))); (case side2 => exact HC329.out); rintro e w26 ⟨rfl, hb⟩; refine ⟨_, rfl, ?_⟩; have n0_ := Aside0.mk (Kd.R_below (by (with_reducible repeat (first | apply Kd.R_alloc | apply Kd.R_drewN | apply Kd.R_drew)); exact HO_5.out) hb); have n1_ := Aside0.mk (below_step (by repeat (first | (with_reducible first | exact HB.out | apply below_alloc | apply pw_below_drewN | apply below_drew1) | exact HB.out)) hb); clear HO_5; clear HB; have HO_5 := n0_; have HB := n1_; clear n0_ n1_; (try clear hb); (try clear hb2); (try clear hk); (try clear hi)) | ((with_reducible refine gate_callee (f := 43) rfl ?_); refine goesL_ (some 83) rfl rfl Tryz.func43 (by kernel_rfl) rfl #[.string t330] rfl (by (try simp only [List.map_toArray, List.map_cons, List.map_nil]); first | done | rfl | (simp only [List.length_drop, List.length_take]; rfl)) ?_; (with_reducible refine (barscanref14_first.calls kj13 t330 t331 _ A23.out).mono ?_); rintro e w' ⟨rfl, ⟨nd, rfl⟩⟩; refine ⟨_, rfl, ?_⟩))
                   go_ret2
                   exact ⟨_, by first | rfl | (simp [errW_none, errW_some] <;> rfl) | (simp [*, errW_none, errW_some] <;> rfl), by first | exact Kd.R_nil _ _ _ _ _ | exact Kd.N_nil _ _ _ _ _ | exact Kd.V_nil _ _ _ _ _ | exact Kd.Q_nil _ _ _ _ _ | exact Kd.S_nil _ _ _ _ _, by repeat (first | (with_reducible first | exact HB.out | apply below_alloc | apply pw_below_drewN | apply below_drew1) | exact HB.out)⟩
                  ·rw [if_neg c24] at H
                   have c24b0 : (t331.toList == ([] : List UInt8)) = false := beq_eq_false_iff_ne.mpr c24
                   have c24b1 : (t331.toList != ([] : List UInt8)) = true := bne_iff_ne.mpr c24
                   replace H := Option.bind_eq_some_iff.mp H
                   obtain ⟨⟨t332, t333, t334⟩, A270, H⟩ := H
                   replace H : (if 0 ≤ (t331.size : Int) then (if (t331.size : Int) ≤ (t330.size : Int) then (if t332 > 0 then (barscanref14_FromChars.j5 kj13 l0 x5_3 x6_3 t331 t332 (t330.extract ((t331.size : Int) : Int).toNat t330.size) (decide (((t330.extract ((t331.size : Int) : Int).toNat t330.size).size : Int) < t332))) else (barscanref14_FromChars.j5 kj13 l0 x5_3 x6_3 t331 t332 (t330.extract ((t331.size : Int) : Int).toNat t330.size) false)) else (none)) else (none)) = some (r1, r2) := H
                   have A27 := Aside0.mk A270
                   clear A270
                   by_cases c28 : 0 ≤ (t331.size : Int)
                   ·rw [if_pos c28] at H
                    have c28b0 := eq_true c28
                    (try (have h_ := of_eq_true c28b0; simp only [ByteArray.size_append, ByteArray.size_extract, Nat.min_self, Int.toNat_natCast, Nat.sub_zero, Int.natCast_add, size_lit, List.length_cons, List.length_nil, Nat.zero_add, Nat.reduceAdd, Int.natCast_one, Int.cast_ofNat_Int] at h_; have c28b0s := eq_true h_; clear h_))
                    have c28b1 : decide (0 ≤ (t331.size : Int)) = true := decide_eq_true c28
                    clear c28
                    by_cases c29 : (t331.size : Int) ≤ (t330.size : Int)
                    ·rw [if_pos c29] at H
                     have c29b0 := eq_true c29
                     (try (have h_ := of_eq_true c29b0; simp only [ByteArray.size_append, ByteArray.size_extract, Nat.min_self, Int.toNat_natCast, Nat.sub_zero, Int.natCast_add, size_lit, List.length_cons, List.length_nil, Nat.zero_add, Nat.reduceAdd, Int.natCast_one, Int.cast_ofNat_Int] at h_; have c29b0s := eq_true h_; clear h_))
                     have c29b1 : decide ((t331.size : Int) ≤ (t330.size : Int)) = true := decide_eq_true c29
                     clear c29
                     have HC30 := Aside0.mk H
                     clear H
                     obtain ⟨i031, hi031, _, hsz31, _⟩ := info_parts info3
                     obtain ⟨A31, hcut31, hA31, hC31⟩ := print_mid_of (P := Tryz.prog) (Value.int .i64) 0 37 3 .i64 .i64 Tryz.underlying37 hi031 hsz31 A0 c0 l0 x6_3 x7_13 (of_decide_eq_true (by first | (with_reducible assumption) | assumption)) (by first | omega | exact of_decide_eq_true (by first | (with_reducible assumption) | assumption)) (of_decide_eq_true (by first | (with_reducible assumption) | assumption)) HC0.out
                     have HR329 := Aside0.mk (Kd.C_of_reads (h1 := fun _ => rfl) (hA31 _ (Kd.reads_of_C HR0.out)))
                     have HC329 := Aside0.mk hC31
                     clear hA31 hC31 hi031 hsz31
                     go_upto_region 26 with (first | ((with_reducible refine gate_callee (f := 42) rfl ?_); refine goesL_ (some 81) rfl rfl Tryz.func42 (by kernel_rfl) rfl #[.slice A31 ((l0.take (x7_13 : Int).toNat).drop (x6_3 : Int).toNat).length (c0 - x6_3.toNat)] rfl (by (try simp only [List.map_toArray, List.map_cons, List.map_nil]); first | done | (rw [show ((l0.take (x7_13 : Int).toNat).drop (x6_3 : Int).toNat).length = (x7_13.toNat - x6_3.toNat) from (by rw [List.length_drop, List.length_take]; have h_ : (x7_13 : Int) ≤ (l0.length : Int) := of_decide_eq_true (by first | (with_reducible assumption) | assumption); omega)] <;> rfl) | rfl | (simp only [List.length_drop, List.length_take]; rfl)) ?_; (with_reducible refine (barscanref14_text.calls kj13 _ _ ((l0.take (x7_13 : Int).toNat).drop (x6_3 : Int).toNat) t330 _ ?side1 ?side2 A22.out).mono ?_); (case side1 => repeat (first | exact (Kd.C_below HR329.out HB.out) | (with_reducible refine Kd.C_alloc ?_ _) | (with_reducible refine Kd.C_drewN ?_ _) | (with_reducible refine Kd.C_drew ?_))); (case side2 => exact HC329.out); rintro e w32 ⟨rfl, hb⟩; refine ⟨_, rfl, ?_⟩; have n0_ := Aside0.mk (Kd.R_below (by (with_reducible repeat (first | apply Kd.R_alloc | apply Kd.R_drewN | apply Kd.R_drew)); exact HO_5.out) hb); have n1_ := Aside0.mk (below_step (by repeat (first | (with_reducible first | exact HB.out | apply below_alloc | apply pw_below_drewN | apply below_drew1) | exact HB.out)) hb); clear HO_5; clear HB; have HO_5 := n0_; have HB := n1_; clear n0_ n1_; (try clear hb); (try clear hb2); (try clear hk); (try clear hi)) | ((with_reducible refine gate_callee (f := 43) rfl ?_); refine goesL_ (some 83) rfl rfl Tryz.func43 (by kernel_rfl) rfl #[.string t330] rfl (by (try simp only [List.map_toArray, List.map_cons, List.map_nil]); first | done | rfl | (simp only [List.length_drop, List.length_take]; rfl)) ?_; (with_reducible refine (barscanref14_first.calls kj13 t330 t331 _ A23.out).mono ?_); rintro e w' ⟨rfl, ⟨nd, rfl⟩⟩; refine ⟨_, rfl, ?_⟩) | ((with_reducible refine gate_callee (f := 8) rfl ?_); refine goesL_ (some 88) rfl rfl Tryz.func8 (by kernel_rfl) rfl #[.string t331] rfl (by (try simp only [List.map_toArray, List.map_cons, List.map_nil]); first | done | rfl | (simp only [List.length_drop, List.length_take]; rfl)) ?_; (with_reducible refine (barscanref14_Fixed.calls kj13 t331 t332 t333 t334 _ A27.out).mono ?_); rintro e w' ⟨rfl, ⟨nd, rfl⟩⟩; refine ⟨_, rfl, ?_⟩))
                     (try simp only [Act.put, List.setIfInBounds_toArray, List.set_cons_zero, List.set_cons_succ])
                     go_cut [103] (fun v103 wc => ∃ (kq : Nat) (x103_29 : Bool), v103 = .bool x103_29 ∧ Aside0 (barscanref14_FromChars.j5 kq l0 x5_3 x6_3 t331 t332 (t330.extract ((t331.size : Int) : Int).toNat t330.size) x103_29 = some (r1, r2)) ∧ Aside0 (kq ≤ kj13) ∧ Aside0 (Kd.R k23 23 wc w.heap.size (fun _ => True) u5 x5_3) ∧ Aside0 (Below w.heap.size w wc))
                     case first =>
                      have H := HC30.out
                      clear HC30
                      by_cases c33 : t332 > 0
                      ·rw [if_pos c33] at H
                       have c33b0 : decide (0 < t332) = true := decide_eq_true c33
                       clear c33
                       (first | rw [c33b0] | (simp only [i64_w]; rw [c33b0]) | skip)
                       have H' := Aside0.mk H
                       clear H
                       go_wp2
                       go_meet
                       case rel => exact ⟨_, (decide (((t330.extract ((t331.size : Int) : Int).toNat t330.size).size : Int) < t332)), (by first | rfl | (simp; done) | (simp [*]; done)), H', ⟨by have := HK1.out; have := HJ7.out; have := HK3.out; have := HJ13.out; first | omega | exact Nat.le_refl _⟩, ⟨by (with_reducible repeat (first | apply Kd.R_alloc | apply Kd.R_drewN | apply Kd.R_drew)); exact HO_5.out⟩, ⟨by repeat (first | (with_reducible first | exact HB.out | apply below_alloc | apply pw_below_drewN | apply below_drew1) | exact HB.out)⟩⟩
                      ·rw [if_neg c33] at H
                       have c33b0 : decide (0 < t332) = false := decide_eq_false c33
                       clear c33
                       (first | rw [c33b0] | (simp only [i64_w]; rw [c33b0]) | skip)
                       have H' := Aside0.mk H
                       clear H
                       go_wp2
                       go_meet
                       case rel => exact ⟨_, (false), (by first | rfl | (simp; done) | (simp [*]; done)), H', ⟨by have := HK1.out; have := HJ7.out; have := HK3.out; have := HJ13.out; first | omega | exact Nat.le_refl _⟩, ⟨by (with_reducible repeat (first | apply Kd.R_alloc | apply Kd.R_drewN | apply Kd.R_drew)); exact HO_5.out⟩, ⟨by repeat (first | (with_reducible first | exact HB.out | apply below_alloc | apply pw_below_drewN | apply below_drew1) | exact HB.out)⟩⟩
                     case rest =>
                      clear HC30
                      obtain ⟨kq, x103_29, rfl, HA, HJ29, HO_5, HB⟩ := hcut
                      cases kq with
                      | zero => exact absurd HA.out (by simp [barscanref14_FromChars.j5])
                      | succ kj29 =>
                       have H := HA.out
                       clear HA
                       simp only [barscanref14_FromChars.j5] at H
                       by_cases c34 : x103_29 = true
                       ·subst c34
                        have H1 : (some (([] : List (S23)), 10)) = some (r1, r2) := by rw [if_pos rfl] at H; exact H
                        clear H
                        have H := H1
                        clear H1
                        simp only [Option.some.injEq, Prod.mk.injEq] at H
                        obtain ⟨rfl, rfl⟩ := H
                        go_wp2
                        go_ret2
                        exact ⟨_, by first | rfl | (simp [errW_none, errW_some] <;> rfl) | (simp [*, errW_none, errW_some] <;> rfl), by first | exact Kd.R_nil _ _ _ _ _ | exact Kd.N_nil _ _ _ _ _ | exact Kd.V_nil _ _ _ _ _ | exact Kd.Q_nil _ _ _ _ _ | exact Kd.S_nil _ _ _ _ _, by repeat (first | (with_reducible first | exact HB.out | apply below_alloc | apply pw_below_drewN | apply below_drew1) | exact HB.out)⟩
                       ·replace c34 := Bool.eq_false_iff.mpr c34
                        subst c34
                        have H1 : (if t332 > 0 then (if 0 ≤ t332 then (if t332 ≤ ((t330.extract ((t331.size : Int) : Int).toNat t330.size).size : Int) then (barscanref14_FromChars.j6 kj29 l0 x5_3 x6_3 t331 t332 ((t330.extract ((t331.size : Int) : Int).toNat t330.size).extract 0 (t332 : Int).toNat)) else (none)) else (none)) else (barscanref14_FromChars.j6 kj29 l0 x5_3 x6_3 t331 t332 (t330.extract ((t331.size : Int) : Int).toNat t330.size))) = some (r1, r2) := by rw [if_neg (show ¬ (false = true) by decide)] at H; exact H
                        clear H
                        have H := H1
                        clear H1
                        have HC35 := Aside0.mk H
                        clear H
                        go_upto_if 105 with (fail)
                        go_cut [13] (fun v13 wc => ∃ (kq : Nat) (x13_34 : ByteArray), v13 = .string x13_34 ∧ Aside0 (barscanref14_FromChars.j6 kq l0 x5_3 x6_3 t331 t332 x13_34 = some (r1, r2)) ∧ Aside0 (kq ≤ kj29) ∧ Aside0 (Kd.R k23 23 wc w.heap.size (fun _ => True) u5 x5_3) ∧ Aside0 (Below w.heap.size w wc))
                        case first =>
                         have H := HC35.out
                         clear HC35
                         by_cases c36 : t332 > 0
                         ·rw [if_pos c36] at H
                          have c36b0 : decide (0 < t332) = true := decide_eq_true c36
                          clear c36
                          (first | rw [c36b0] | (simp only [i64_w]; rw [c36b0]) | skip)
                          by_cases c37 : 0 ≤ t332
                          ·rw [if_pos c37] at H
                           have c37b0 := eq_true c37
                           (try (have h_ := of_eq_true c37b0; simp only [ByteArray.size_append, ByteArray.size_extract, Nat.min_self, Int.toNat_natCast, Nat.sub_zero, Int.natCast_add, size_lit, List.length_cons, List.length_nil, Nat.zero_add, Nat.reduceAdd, Int.natCast_one, Int.cast_ofNat_Int] at h_; have c37b0s := eq_true h_; clear h_))
                           have c37b1 : decide (0 ≤ t332) = true := decide_eq_true c37
                           clear c37
                           by_cases c38 : t332 ≤ ((t330.extract ((t331.size : Int) : Int).toNat t330.size).size : Int)
                           ·rw [if_pos c38] at H
                            have c38b0 := eq_true c38
                            (try (have h_ := of_eq_true c38b0; simp only [ByteArray.size_append, ByteArray.size_extract, Nat.min_self, Int.toNat_natCast, Nat.sub_zero, Int.natCast_add, size_lit, List.length_cons, List.length_nil, Nat.zero_add, Nat.reduceAdd, Int.natCast_one, Int.cast_ofNat_Int] at h_; have c38b0s := eq_true h_; clear h_))
                            have c38b1 : decide (t332 ≤ ((t330.extract ((t331.size : Int) : Int).toNat t330.size).size : Int)) = true := decide_eq_true c38
                            (try (have c38b1s := c38b1; simp only [ByteArray.size_append, ByteArray.size_extract, Nat.min_self, Int.toNat_natCast, Nat.sub_zero, Int.natCast_add, size_lit, List.length_cons, List.length_nil, Nat.zero_add, Nat.reduceAdd, Int.natCast_one, Int.cast_ofNat_Int] at c38b1s))
                            (try (have h_ := of_decide_eq_true c38b1; simp only [ByteArray.size_append, ByteArray.size_extract, Nat.min_self, Int.toNat_natCast, Nat.sub_zero, Int.natCast_add, size_lit, List.length_cons, List.length_nil, Nat.zero_add, Nat.reduceAdd, Int.natCast_one, Int.cast_ofNat_Int] at h_; have c38b1t := eq_true h_; clear h_))
                            clear c38
                            have H' := Aside0.mk H
                            clear H
                            go_wp2
                            go_meet
                            case rel => exact ⟨_, ((t330.extract ((t331.size : Int) : Int).toNat t330.size).extract 0 (t332 : Int).toNat), (by first | rfl | (simp; done) | (simp [*]; done)), H', ⟨by have := HK1.out; have := HJ7.out; have := HK3.out; have := HJ13.out; have := HJ29.out; first | omega | exact Nat.le_refl _⟩, ⟨by (with_reducible repeat (first | apply Kd.R_alloc | apply Kd.R_drewN | apply Kd.R_drew)); exact HO_5.out⟩, ⟨by repeat (first | (with_reducible first | exact HB.out | apply below_alloc | apply pw_below_drewN | apply below_drew1) | exact HB.out)⟩⟩
                           ·rw [if_neg c38] at H
                            exact absurd H (by simp)
                          ·rw [if_neg c37] at H
                           exact absurd H (by simp)
                         ·rw [if_neg c36] at H
                          have c36b0 : decide (0 < t332) = false := decide_eq_false c36
                          clear c36
                          (first | rw [c36b0] | (simp only [i64_w]; rw [c36b0]) | skip)
                          have H' := Aside0.mk H
                          clear H
                          go_wp2
                          go_meet
                          case rel => exact ⟨_, ((t330.extract ((t331.size : Int) : Int).toNat t330.size)), (by first | rfl | (simp; done) | (simp [*]; done)), H', ⟨by have := HK1.out; have := HJ7.out; have := HK3.out; have := HJ13.out; have := HJ29.out; first | omega | exact Nat.le_refl _⟩, ⟨by (with_reducible repeat (first | apply Kd.R_alloc | apply Kd.R_drewN | apply Kd.R_drew)); exact HO_5.out⟩, ⟨by repeat (first | (with_reducible first | exact HB.out | apply below_alloc | apply pw_below_drewN | apply below_drew1) | exact HB.out)⟩⟩
                        case rest =>
                         clear HC35
                         obtain ⟨kq, x13_34, rfl, HA, HJ34, HO_5, HB⟩ := hcut
                         cases kq with
                         | zero => exact absurd HA.out (by simp [barscanref14_FromChars.j6])
                         | succ kj34 =>
                          have H := HA.out
                          clear HA
                          simp only [barscanref14_FromChars.j6] at H
                          replace H := Option.bind_eq_some_iff.mp H
                          obtain ⟨t336, A390, H⟩ := H
                          replace H : (if t336 = 0 then (if x5_3.length < 4398046511104 then ((some (x5_3 ++ [(⟨t331, x13_34⟩ : S23)] : List (S23))).bind fun y337 => (if t332 = 0 then (barscanref14_FromChars.j7 kj34 l0 y337 (wrap64 ((wrap64 (x6_3 + (t331.size : Int))) + (x13_34.size : Int))) (decide ((wrap64 ((wrap64 (x6_3 + (t331.size : Int))) + (x13_34.size : Int))) < (l0.length : Int)))) else (barscanref14_FromChars.j7 kj34 l0 y337 (wrap64 ((wrap64 (x6_3 + (t331.size : Int))) + (x13_34.size : Int))) false))) else (none)) else (some (([] : List (S23)), t336))) = some (r1, r2) := H
                          have A39 := Aside0.mk A390
                          clear A390
                          by_cases c40 : t336 = 0
                          ·rw [if_pos c40] at H
                           have c40b0 : (t336 == 0) = true := beq_iff_eq.mpr c40
                           have c40b1 : (t336 != 0) = false := bne_eq_false_iff_eq.mpr c40
                           clear c40
                           by_cases c41 : x5_3.length < 4398046511104
                           ·rw [if_pos c41] at H
                            have LMc41 := Aside0.mk c41
                            clear c41
                            obtain ⟨y337, hy337⟩ : ∃ y_ : List (S23), y_ = (x5_3 ++ [(⟨t331, x13_34⟩ : S23)]) := ⟨_, rfl⟩
                            replace H : (if t332 = 0 then (barscanref14_FromChars.j7 kj34 l0 y337 (wrap64 ((wrap64 (x6_3 + (t331.size : Int))) + (x13_34.size : Int))) (decide ((wrap64 ((wrap64 (x6_3 + (t331.size : Int))) + (x13_34.size : Int))) < (l0.length : Int)))) else (barscanref14_FromChars.j7 kj34 l0 y337 (wrap64 ((wrap64 (x6_3 + (t331.size : Int))) + (x13_34.size : Int))) false)) = some (r1, r2) := by first | (rw [hy337]; with_reducible exact H) | (have H2_ := (Option.bind_some _ _).symm.trans H; rw [hy337]; with_reducible exact H2_) | (have H2_ := (Option.bind_some _ _).symm.trans H; with_reducible exact H2_) | with_reducible exact H | (rw [hy337]; exact H) | exact H
                            have Ny337 := Aside0.mk hy337
                            clear hy337
                            have HC42 := Aside0.mk H
                            clear H
                            go_upto_region 36 with (first | ((with_reducible refine gate_dst (N := 14) rfl ?_); (try (refine gate_guard (by rfl) ?_; dsimp only)); refine box_event ?hg (N := 14) ?hd (cs := #[.string (⟨#[]⟩ : ByteArray), .string (⟨#[]⟩ : ByteArray)]) (t := 23) ?hr ?_; (case hd => rfl); (case hg => rfl); (case hr => first | (go_simp; done) | (go_simp; rfl)); intro gb335 hg w43 hbox hb; have n0_ := Aside0.mk (Kd.R_below (Kd.R_elderB (by (with_reducible repeat (first | apply Kd.R_alloc | apply Kd.R_drewN | apply Kd.R_drew)); exact HO_5.out) gb335 (Nat.le_of_eq hg.symm)) hb); have n1_ := Aside0.mk (below_step (by repeat (first | (with_reducible first | exact HB.out | apply below_alloc | apply pw_below_drewN | apply below_drew1) | exact HB.out)) hb); have n2_ := Aside0.mk (hbox); have n3_ := Aside0.mk ((by rw [hg]; exact (below_size (by repeat (first | (with_reducible first | exact HB.out | apply below_alloc | apply pw_below_drewN | apply below_drew1) | exact HB.out))) : w.heap.size ≤ gb335)); have n4_ := Aside0.mk ((by rw [hg]; exact (below_size (by repeat (first | (with_reducible first | exact HB.out | apply below_alloc | apply pw_below_drewN | apply below_drew1) | exact HB.out))) : w.heap.size ≤ gb335)); clear HO_5; clear HB; have HO_5 := n0_; have HB := n1_; have BK335 := n2_; have GW335 := n3_; have GE335 := n4_; clear n0_ n1_ n2_ n3_ n4_; clear hb hbox hg; have hcz44_0 : w43.cell? ⟨gb335, 0, none⟩ = some (.string (⟨#[]⟩ : ByteArray)) := (blk_cell BK335.out 0).trans rfl; have hcz44_1 : w43.cell? ⟨gb335, 1, none⟩ = some (.string (⟨#[]⟩ : ByteArray)) := (blk_cell BK335.out 1).trans rfl; have hfz44_0 := blk_frozen BK335.out 0; have hfz44_1 := blk_frozen BK335.out 1) | ((with_reducible refine gate_callee (f := 10) rfl ?_); refine goesL_ (some 113) rfl rfl Tryz.func10 (by kernel_rfl) rfl #[.agg #[.string t331, .string x13_34]] rfl (by (try simp only [List.map_toArray, List.map_cons, List.map_nil]); first | done | rfl | (simp only [List.length_drop, List.length_take]; rfl)) ?_; (with_reducible refine (barscanref14_Verify.calls kj34 t331 x13_34 t336 _ A39.out).mono ?_); rintro e w45 ⟨rfl, hb⟩; refine ⟨_, rfl, ?_⟩; have n0_ := Aside0.mk (Kd.R_below (by (with_reducible repeat (first | apply Kd.R_alloc | apply Kd.R_drewN | apply Kd.R_drew)); exact (Kd.R_mono (Kd.R_far (p := ⟨gb335, 1, none⟩) (Kd.R_far (p := ⟨gb335, 0, none⟩) (Kd.R_mono HO_5.out (fun k_ hk => (⟨hk, hk.2⟩ : _ ∧ k_ ≠ gb335))) (fun _ hk => hk.2) (.string t331)) (fun _ hk => hk.2) (.string x13_34)) (fun _ h_ => h_.1))) hb); have n1_ := Aside0.mk (blk_below (g := gb335) (o := .cells #[.string t331, .string x13_34] 23 (0, 0)) (by (with_reducible repeat (first | refine blk_drewN ?_ _ | refine blk_drew ?_ | refine blk_alloc ?_ _)); refine blk_put (cs := #[.string t331, .string (⟨#[]⟩ : ByteArray)]) ?_ 1 _ rfl; (with_reducible repeat (first | refine blk_drewN ?_ _ | refine blk_drew ?_ | refine blk_alloc ?_ _)); refine blk_put (cs := #[.string (⟨#[]⟩ : ByteArray), .string (⟨#[]⟩ : ByteArray)]) ?_ 0 _ rfl; (with_reducible repeat (first | refine blk_drewN ?_ _ | refine blk_drew ?_ | refine blk_alloc ?_ _)); exact BK335.out) hb); have n2_ := Aside0.mk (below_step (by repeat (first | (with_reducible first | exact HB.out | apply below_alloc | apply pw_below_drewN | apply below_drew1 | refine below_set ?_ GE335.out) | exact HB.out)) hb); clear HO_5; clear BK335; clear HB; have HO_5 := n0_; have BK335 := n1_; have HB := n2_; clear n0_ n1_ n2_; (try clear hb); (try clear hb2); (try clear hk); (try clear hi); have hcz46_0 : w45.cell? ⟨gb335, 0, none⟩ = some (.string t331) := (blk_cell BK335.out 0).trans rfl; have hcz46_1 : w45.cell? ⟨gb335, 1, none⟩ = some (.string x13_34) := (blk_cell BK335.out 1).trans rfl; have hfz46_0 := blk_frozen BK335.out 0; have hfz46_1 := blk_frozen BK335.out 1) | ((with_reducible refine gate_builtin (b := .append) (xs := #[.tmp 117, .tmp 119]) rfl ?_); (try (refine gate_guard (by rfl) ?_; dsimp only)); at_builtin; refine Kd.R_append k23 (w0 := w) w.heap.size rfl (.tmp 117) (.tmp 119) 30 23 (.agg #[(.string ⟨#[]⟩), (.string ⟨#[]⟩)]) 32 rfl Tryz.underlying30 info23 rfl (by decide) (by omega) u5 x5_3 (⟨t331, x13_34⟩ : S23) [.string t331, .string x13_34] (fun k_ => k_ ≠ gb335) (fun _ => False) rfl rfl ?aP (fun _ hk => hk.elim) ?aF ?aO ?aB ?aS ?aL ?_; (case aP => exact k23_mkM _ _ _ (⟨t331, x13_34⟩ : S23)); (case aB => exact (by repeat (first | (with_reducible first | exact HB.out | apply below_alloc | apply pw_below_drewN | apply below_drew1 | refine below_set ?_ GE335.out) | exact HB.out))); (case aF => exact (fun k_ hk => Kd.freshB (g := gb335) (o := .cells #[.string t331, .string x13_34] 23 (0, 0)) (by (with_reducible repeat (first | refine blk_drewN ?_ _ | refine blk_drew ?_ | refine blk_alloc ?_ _)); exact BK335.out) k_ hk)); (case aO => exact (by (with_reducible repeat (first | apply Kd.R_alloc | apply Kd.R_drewN | apply Kd.R_drew)); exact Kd.R_mono HO_5.out (fun _ hk => hk.2))); (case aS => exact (below_size (by repeat (first | (with_reducible first | exact HB.out | apply below_alloc | apply pw_below_drewN | apply below_drew1 | refine below_set ?_ GE335.out) | exact HB.out)))); (case aL => have := LMc41.out; omega); intro v338 w47 ho hb hg hat; rw [← Ny337.out] at ho; have n0_ := Aside0.mk (blk_grown (g := gb335) (o := .cells #[.string t331, .string x13_34] 23 (0, 0)) (by (with_reducible repeat (first | refine blk_drewN ?_ _ | refine blk_drew ?_ | refine blk_alloc ?_ _)); exact BK335.out) hg (Kd.R_away HO_5.out (fun _ hk => hk.2))); have n1_ := Aside0.mk (hb); have n2_ := Aside0.mk (ho); clear BK335; clear HB; clear HO_5; have BK335 := n0_; have HB := n1_; have HO339 := n2_; clear n0_ n1_ n2_; clear ho hb hg hat))
                            (try simp only [Act.put, List.setIfInBounds_toArray, List.set_cons_zero, List.set_cons_succ])
                            go_cut [135] (fun v135 wc => ∃ (kq : Nat) (x135_41 : Bool), v135 = .bool x135_41 ∧ Aside0 (barscanref14_FromChars.j7 kq l0 y337 (wrap64 ((wrap64 (x6_3 + (t331.size : Int))) + (x13_34.size : Int))) x135_41 = some (r1, r2)) ∧ Aside0 (kq ≤ kj34) ∧ Aside0 (Kd.R k23 23 wc w.heap.size (fun k_ => k_ ≠ gb335) v338 y337) ∧ Aside0 (wc.heap[gb335]? = some (.cells #[.string t331, .string x13_34] 23 (0, 0))) ∧ Aside0 (Below w.heap.size w wc))
                            case first =>
                             have H := HC42.out
                             clear HC42
                             by_cases c48 : t332 = 0
                             ·rw [if_pos c48] at H
                              have c48b0 : (t332 == 0) = true := beq_iff_eq.mpr c48
                              have c48b1 : (t332 != 0) = false := bne_eq_false_iff_eq.mpr c48
                              clear c48
                              (first | rw [c48b0] | (simp only [i64_w]; rw [c48b0]) | skip)
                              have H' := Aside0.mk H
                              clear H
                              go_wp2
                              go_meet
                              case rel => exact ⟨_, (decide ((wrap64 ((wrap64 (x6_3 + (t331.size : Int))) + (x13_34.size : Int))) < (l0.length : Int))), (by first | rfl | (simp; done) | (simp [*]; done)), H', ⟨by have := HK1.out; have := HJ7.out; have := HK3.out; have := HJ13.out; have := HJ29.out; have := HJ34.out; first | omega | exact Nat.le_refl _⟩, ⟨by (with_reducible repeat (first | apply Kd.R_alloc | apply Kd.R_drewN | apply Kd.R_drew)); exact HO339.out⟩, ⟨by (with_reducible repeat (first | refine blk_drewN ?_ _ | refine blk_drew ?_ | refine blk_alloc ?_ _)); exact BK335.out⟩, ⟨by repeat (first | (with_reducible first | exact HB.out | apply below_alloc | apply pw_below_drewN | apply below_drew1 | refine below_set ?_ GE335.out) | exact HB.out)⟩⟩
                             ·rw [if_neg c48] at H
                              have c48b0 : (t332 == 0) = false := beq_eq_false_iff_ne.mpr c48
                              have c48b1 : (t332 != 0) = true := bne_iff_ne.mpr c48
                              (first | rw [c48b0] | (simp only [i64_w]; rw [c48b0]) | skip)
                              have H' := Aside0.mk H
                              clear H
                              go_wp2
                              go_meet
                              case rel => exact ⟨_, (false), (by first | rfl | (simp; done) | (simp [*]; done)), H', ⟨by have := HK1.out; have := HJ7.out; have := HK3.out; have := HJ13.out; have := HJ29.out; have := HJ34.out; first | omega | exact Nat.le_refl _⟩, ⟨by (with_reducible repeat (first | apply Kd.R_alloc | apply Kd.R_drewN | apply Kd.R_drew)); exact HO339.out⟩, ⟨by (with_reducible repeat (first | refine blk_drewN ?_ _ | refine blk_drew ?_ | refine blk_alloc ?_ _)); exact BK335.out⟩, ⟨by repeat (first | (with_reducible first | exact HB.out | apply below_alloc | apply pw_below_drewN | apply below_drew1 | refine below_set ?_ GE335.out) | exact HB.out)⟩⟩
                            case rest =>
                             clear HC42
                             obtain ⟨kq, x135_41, rfl, HA, HJ41, HO_5, BK335, HB⟩ := hcut
                             cases kq with
                             | zero => exact absurd HA.out (by simp [barscanref14_FromChars.j7])
                             | succ kj41 =>
                              have H := HA.out
                              clear HA
                              simp only [barscanref14_FromChars.j7] at H
                              by_cases c49 : x135_41 = true
                              ·subst c49
                               have H1 : (if (wrap64 ((wrap64 ((wrap64 (x6_3 + (t331.size : Int))) + (x13_34.size : Int))) + 1)) = (l0.length : Int) then (some (([] : List (S23)), 9)) else (barscanref14_FromChars.l1 kj41 l0 y337 (wrap64 ((wrap64 ((wrap64 (x6_3 + (t331.size : Int))) + (x13_34.size : Int))) + 1)))) = some (r1, r2) := by rw [if_pos rfl] at H; exact H
                               clear H
                               have H := H1
                               clear H1
                               by_cases c50 : (wrap64 ((wrap64 ((wrap64 (x6_3 + (t331.size : Int))) + (x13_34.size : Int))) + 1)) = (l0.length : Int)
                               ·rw [if_pos c50] at H
                                have c50b0 : ((wrap64 ((wrap64 ((wrap64 (x6_3 + (t331.size : Int))) + (x13_34.size : Int))) + 1)) == (l0.length : Int)) = true := beq_iff_eq.mpr c50
                                have c50b1 : ((wrap64 ((wrap64 ((wrap64 (x6_3 + (t331.size : Int))) + (x13_34.size : Int))) + 1)) != (l0.length : Int)) = false := bne_eq_false_iff_eq.mpr c50
                                clear c50
                                simp only [Option.some.injEq, Prod.mk.injEq] at H
                                obtain ⟨rfl, rfl⟩ := H
                                go_wp2
                                go_ret2
                                exact ⟨_, by first | rfl | (simp [errW_none, errW_some] <;> rfl) | (simp [*, errW_none, errW_some] <;> rfl), by first | exact Kd.R_nil _ _ _ _ _ | exact Kd.N_nil _ _ _ _ _ | exact Kd.V_nil _ _ _ _ _ | exact Kd.Q_nil _ _ _ _ _ | exact Kd.S_nil _ _ _ _ _, by repeat (first | (with_reducible first | exact HB.out | apply below_alloc | apply pw_below_drewN | apply below_drew1 | refine below_set ?_ GE335.out) | exact HB.out)⟩
                               ·rw [if_neg c50] at H
                                have c50b0 : ((wrap64 ((wrap64 ((wrap64 (x6_3 + (t331.size : Int))) + (x13_34.size : Int))) + 1)) == (l0.length : Int)) = false := beq_eq_false_iff_ne.mpr c50
                                have c50b1 : ((wrap64 ((wrap64 ((wrap64 (x6_3 + (t331.size : Int))) + (x13_34.size : Int))) + 1)) != (l0.length : Int)) = true := bne_iff_ne.mpr c50
                                have H' := Aside0.mk H
                                clear H
                                go_wp2
                                go_roundg kj41
                                case measure => have := HK1.out; have := HJ7.out; have := HK3.out; have := HJ13.out; have := HJ29.out; have := HJ34.out; have := HJ41.out; omega
                                case rel => exact ⟨(y337), (wrap64 ((wrap64 ((wrap64 (x6_3 + (t331.size : Int))) + (x13_34.size : Int))) + 1)), (by first | rfl | (simp; done) | (simp [*]; done)), H', ⟨by have := HK1.out; have := HJ7.out; have := HK3.out; have := HJ13.out; have := HJ29.out; have := HJ34.out; have := HJ41.out; omega⟩, ⟨by (with_reducible repeat (first | apply Kd.R_alloc | apply Kd.R_drewN | apply Kd.R_drew)); exact Kd.R_mono HO_5.out (fun _ hk => trivial)⟩, ⟨by repeat (first | (with_reducible first | exact HB.out | apply below_alloc | apply pw_below_drewN | apply below_drew1 | refine below_set ?_ GE335.out) | exact HB.out)⟩⟩
                              ·replace c49 := Bool.eq_false_iff.mpr c49
                               subst c49
                               have H1 : (barscanref14_FromChars.l1 kj41 l0 y337 (wrap64 ((wrap64 (x6_3 + (t331.size : Int))) + (x13_34.size : Int)))) = some (r1, r2) := by rw [if_neg (show ¬ (false = true) by decide)] at H; exact H
                               clear H
                               have H := H1
                               clear H1
                               have H' := Aside0.mk H
                               clear H
                               go_wp2
                               go_roundg kj41
                               case measure => have := HK1.out; have := HJ7.out; have := HK3.out; have := HJ13.out; have := HJ29.out; have := HJ34.out; have := HJ41.out; omega
                               case rel => exact ⟨(y337), ((wrap64 ((wrap64 (x6_3 + (t331.size : Int))) + (x13_34.size : Int)))), (by first | rfl | (simp; done) | (simp [*]; done)), H', ⟨by have := HK1.out; have := HJ7.out; have := HK3.out; have := HJ13.out; have := HJ29.out; have := HJ34.out; have := HJ41.out; omega⟩, ⟨by (with_reducible repeat (first | apply Kd.R_alloc | apply Kd.R_drewN | apply Kd.R_drew)); exact Kd.R_mono HO_5.out (fun _ hk => trivial)⟩, ⟨by repeat (first | (with_reducible first | exact HB.out | apply below_alloc | apply pw_below_drewN | apply below_drew1 | refine below_set ?_ GE335.out) | exact HB.out)⟩⟩
                           ·rw [if_neg c41] at H
                            exact absurd H (by simp)
                          ·rw [if_neg c40] at H
                           have c40b0 : (t336 == 0) = false := beq_eq_false_iff_ne.mpr c40
                           have c40b1 : (t336 != 0) = true := bne_iff_ne.mpr c40
                           simp only [Option.some.injEq, Prod.mk.injEq] at H
                           obtain ⟨rfl, rfl⟩ := H
                           go_wp2_with (first | ((with_reducible refine gate_dst (N := 14) rfl ?_); (try (refine gate_guard (by rfl) ?_; dsimp only)); refine box_event ?hg (N := 14) ?hd (cs := #[.string (⟨#[]⟩ : ByteArray), .string (⟨#[]⟩ : ByteArray)]) (t := 23) ?hr ?_; (case hd => rfl); (case hg => rfl); (case hr => first | (go_simp; done) | (go_simp; rfl)); intro gb335 hg w51 hbox hb; have n0_ := Aside0.mk (Kd.R_below (Kd.R_elderB (by (with_reducible repeat (first | apply Kd.R_alloc | apply Kd.R_drewN | apply Kd.R_drew)); exact HO_5.out) gb335 (Nat.le_of_eq hg.symm)) hb); have n1_ := Aside0.mk (below_step (by repeat (first | (with_reducible first | exact HB.out | apply below_alloc | apply pw_below_drewN | apply below_drew1) | exact HB.out)) hb); have n2_ := Aside0.mk (hbox); have n3_ := Aside0.mk ((by rw [hg]; exact (below_size (by repeat (first | (with_reducible first | exact HB.out | apply below_alloc | apply pw_below_drewN | apply below_drew1) | exact HB.out))) : w.heap.size ≤ gb335)); have n4_ := Aside0.mk ((by rw [hg]; exact (below_size (by repeat (first | (with_reducible first | exact HB.out | apply below_alloc | apply pw_below_drewN | apply below_drew1) | exact HB.out))) : w.heap.size ≤ gb335)); clear HO_5; clear HB; have HO_5 := n0_; have HB := n1_; have BK335 := n2_; have GW335 := n3_; have GE335 := n4_; clear n0_ n1_ n2_ n3_ n4_; clear hb hbox hg; have hcz52_0 : w51.cell? ⟨gb335, 0, none⟩ = some (.string (⟨#[]⟩ : ByteArray)) := (blk_cell BK335.out 0).trans rfl; have hcz52_1 : w51.cell? ⟨gb335, 1, none⟩ = some (.string (⟨#[]⟩ : ByteArray)) := (blk_cell BK335.out 1).trans rfl; have hfz52_0 := blk_frozen BK335.out 0; have hfz52_1 := blk_frozen BK335.out 1) | ((with_reducible refine gate_callee (f := 10) rfl ?_); refine goesL_ (some 113) rfl rfl Tryz.func10 (by kernel_rfl) rfl #[.agg #[.string t331, .string x13_34]] rfl (by (try simp only [List.map_toArray, List.map_cons, List.map_nil]); first | done | rfl | (simp only [List.length_drop, List.length_take]; rfl)) ?_; (with_reducible refine (barscanref14_Verify.calls kj34 t331 x13_34 t336 _ A39.out).mono ?_); rintro e w53 ⟨rfl, hb⟩; refine ⟨_, rfl, ?_⟩; have n0_ := Aside0.mk (Kd.R_below (by (with_reducible repeat (first | apply Kd.R_alloc | apply Kd.R_drewN | apply Kd.R_drew)); exact (Kd.R_mono (Kd.R_far (p := ⟨gb335, 1, none⟩) (Kd.R_far (p := ⟨gb335, 0, none⟩) (Kd.R_mono HO_5.out (fun k_ hk => (⟨hk, hk.2⟩ : _ ∧ k_ ≠ gb335))) (fun _ hk => hk.2) (.string t331)) (fun _ hk => hk.2) (.string x13_34)) (fun _ h_ => h_.1))) hb); have n1_ := Aside0.mk (blk_below (g := gb335) (o := .cells #[.string t331, .string x13_34] 23 (0, 0)) (by (with_reducible repeat (first | refine blk_drewN ?_ _ | refine blk_drew ?_ | refine blk_alloc ?_ _)); refine blk_put (cs := #[.string t331, .string (⟨#[]⟩ : ByteArray)]) ?_ 1 _ rfl; (with_reducible repeat (first | refine blk_drewN ?_ _ | refine blk_drew ?_ | refine blk_alloc ?_ _)); refine blk_put (cs := #[.string (⟨#[]⟩ : ByteArray), .string (⟨#[]⟩ : ByteArray)]) ?_ 0 _ rfl; (with_reducible repeat (first | refine blk_drewN ?_ _ | refine blk_drew ?_ | refine blk_alloc ?_ _)); exact BK335.out) hb); have n2_ := Aside0.mk (below_step (by repeat (first | (with_reducible first | exact HB.out | apply below_alloc | apply pw_below_drewN | apply below_drew1 | refine below_set ?_ GE335.out) | exact HB.out)) hb); clear HO_5; clear BK335; clear HB; have HO_5 := n0_; have BK335 := n1_; have HB := n2_; clear n0_ n1_ n2_; (try clear hb); (try clear hb2); (try clear hk); (try clear hi)))
                           go_ret2
                           exact ⟨_, by first | rfl | (simp [errW_none, errW_some] <;> rfl) | (simp [*, errW_none, errW_some] <;> rfl), by first | exact Kd.R_nil _ _ _ _ _ | exact Kd.N_nil _ _ _ _ _ | exact Kd.V_nil _ _ _ _ _ | exact Kd.Q_nil _ _ _ _ _ | exact Kd.S_nil _ _ _ _ _, by repeat (first | (with_reducible first | exact HB.out | apply below_alloc | apply pw_below_drewN | apply below_drew1 | refine below_set ?_ GE335.out) | exact HB.out)⟩
                    ·rw [if_neg c29] at H
                     exact absurd H (by simp)
                   ·rw [if_neg c28] at H
                    exact absurd H (by simp)
                 ·rw [if_neg c21] at H
                  exact absurd H (by simp)
                ·rw [if_neg c20] at H
                 exact absurd H (by simp)
               ·rw [if_neg c19] at H
                exact absurd H (by simp)
           ·rw [if_neg c13] at H
            have c13b0 : decide (x6_3 < (l0.length : Int)) = false := decide_eq_false c13
            clear c13
            simp only [Option.some.injEq, Prod.mk.injEq] at H
            obtain ⟨rfl, rfl⟩ := H
            go_wp2
            go_ret2
            exact ⟨_, by first | rfl | (simp [errW_none, errW_some] <;> rfl) | (simp [*, errW_none, errW_some] <;> rfl), by (with_reducible repeat (first | apply Kd.R_alloc | apply Kd.R_drewN | apply Kd.R_drew)); exact HO_5.out, by repeat (first | (with_reducible first | exact HB.out | apply below_alloc | apply pw_below_drewN | apply below_drew1) | exact HB.out)⟩

end Go.Proofs.YtghlbdemlmbijaaGreatDoor.Q

/- Characters read back: FromChars of both. -/
namespace Go.Proofs.YtghlbdemlmbijaaGreatDoor.Q
open Go.RowKit Go.Proofs.YtghlbdemlmbijaaGreatDoorW.PrintWords Go.Proofs.YtghlbdemlmbijaaGreatDoorW.PrintLast Go.Proofs.YtghlbdemlmbijaaGreatDoorW.PrintMore
set_option linter.unusedVariables false
set_option linter.unusedSimpArgs false
/-- The characters before the next FNC1. -/
def before (C : List Int) : List Int := C.takeWhile fun x => x != 256
def runS (C : List Int) : ByteArray := strOfNums ((before C).map fun x => x % 256)
theorem index_l (C : List Int) (hC : C.length < 4611686018427387904) (n : Nat) : ∀ i : Nat, i + n = C.length → Ev (fun k => slices_Index_int_int.l0 k C 256 (C.length : Int) i)
    (if (before (C.drop i)).length = (C.drop i).length then -1 else ((i + (before (C.drop i)).length : Nat) : Int)) := by
  induction n with
  | zero =>
    intro i h
    refine Ev.succ ?_
    simp only [slices_Index_int_int.l0]
    have e : C.drop i = [] := List.drop_of_length_le (by omega)
    rw [e, if_pos (by rfl)]
    exact Ev.neg (by omega) (Ev.const rfl)
  | succ n ih =>
    intro i h
    have hlt : i < C.length := by omega
    have hd : C.drop i = C[i] :: C.drop (i + 1) := List.drop_eq_getElem_cons hlt
    refine Ev.succ ?_
    simp only [slices_Index_int_int.l0]
    refine Ev.pos (by omega) (Ev.pos (by omega) (Ev.pos (by omega) ?_))
    rw [rd_nat C i hlt, hd]
    unfold before
    by_cases he : C[i] = 256
    · rw [List.takeWhile_cons_of_neg (by simpa using he)]
      refine Ev.pos he.symm ?_
      rw [if_neg (by simp only [List.length_nil, List.length_cons]; omega)]
      exact Ev.const (by simp)
    · rw [List.takeWhile_cons_of_pos (by simpa using he)]
      refine Ev.neg (fun h => he h.symm) ?_
      rw [wrap_up i (by omega)]
      have := ih (i + 1) (by omega)
      unfold before at this
      have e : (if (C[i] :: (C.drop (i + 1)).takeWhile fun x => x != 256).length = (C[i] :: C.drop (i + 1)).length then (-1 : Int) else ((i + (C[i] :: (C.drop (i + 1)).takeWhile fun x => x != 256).length : Nat) : Int)) =
          (if ((C.drop (i + 1)).takeWhile fun x => x != 256).length = (C.drop (i + 1)).length then (-1 : Int) else ((i + 1 + ((C.drop (i + 1)).takeWhile fun x => x != 256).length : Nat) : Int)) := by
        simp only [List.length_cons]
        by_cases h3 : ((C.drop (i + 1)).takeWhile fun x => x != 256).length = (C.drop (i + 1)).length
        · rw [if_pos h3, if_pos (by omega)]
        · rw [if_neg h3, if_neg (by omega)]
          omega
      rw [e]
      exact this
theorem fill_l (C : List Int) (hC : C.length < 4611686018427387904) (n : Nat) : ∀ i : Nat, i + n = C.length → Ev (fun k => gs1_run.l0 k ((C.take i).map (fun x => x % 256) ++ List.replicate n 0) C (C.length : Int) i) (strOfNums (C.map fun x => x % 256)) := by
  induction n with
  | zero =>
    intro i h
    refine Ev.succ ?_
    simp only [gs1_run.l0]
    refine Ev.neg (by omega) (Ev.const ?_)
    rw [List.take_of_length_le (by omega)]
    simp
  | succ n ih =>
    intro i h
    have hlt : i < C.length := by omega
    refine Ev.succ ?_
    simp only [gs1_run.l0]
    refine Ev.pos (by omega) (Ev.pos (by omega) (Ev.pos (by omega) (Ev.pos (by simp; omega) ?_)))
    have e : ((C.take i).map (fun x => x % 256) ++ List.replicate (n + 1) 0).set (i : Int).toNat ((rd C i) % 256) = (C.take (i + 1)).map (fun x => x % 256) ++ List.replicate n 0 := by
      have hl3 : ((C.take i).map fun x => x % 256).length = i := by rw [List.length_map, List.length_take]; omega
      rw [rd_nat C i hlt, Int.toNat_natCast, List.set_append, if_neg (by omega), List.take_succ_eq_append_getElem hlt, List.map_append, hl3, Nat.sub_self, List.replicate_succ, List.set_cons_zero, List.append_assoc]
      rfl
    rw [e, wrap_up i (by omega)]
    exact ih (i + 1) (by omega)
theorem before_take (C : List Int) : before C = C.take (before C).length := by
  have h := List.takeWhile_append_dropWhile (p := fun x : Int => x != 256) (l := C)
  have h2 : ((C.takeWhile fun x => x != 256) ++ (C.dropWhile fun x => x != 256)).take (C.takeWhile fun x => x != 256).length = C.takeWhile fun x => x != 256 := by rw [List.take_append_of_le_length (Nat.le_refl _), List.take_length]
  rw [h] at h2
  exact h2.symm
theorem before_le (C : List Int) : (before C).length ≤ C.length := by rw [before_take]; simp; omega
theorem run_ev (C : List Int) (hC : C.length ≤ 4096) : Ev (fun k => gs1_run.f k C) (runS C) := by
  unfold gs1_run.f
  have hi := index_l C (by omega) C.length 0 (by omega)
  rw [List.drop_zero, Nat.zero_add] at hi
  have fin : ∀ D : List Int, D.length ≤ 4096 → Ev (fun k => gs1_run.j0 k D) (strOfNums (D.map fun x => x % 256)) := by
    intro D hD
    refine Ev.succ ?_
    simp only [gs1_run.j0, Int.toNat_natCast]
    refine Ev.pos (by omega) (Ev.pos (by omega) ?_)
    have := fill_l D (by omega) D.length 0 (by omega)
    simpa using this
  have hle := before_le C
  unfold runS
  refine Ev.bind (F := fun k => slices_Index_int_int.f k C 256) hi ?_
  by_cases h : (before C).length = C.length
  · rw [if_pos h]
    refine Ev.neg (by omega) ?_
    have e : before C = C := by rw [before_take, h, List.take_length]
    rw [e]
    exact fin C hC
  · rw [if_neg h]
    refine Ev.pos (by omega) (Ev.pos (by omega) (Ev.pos (by omega) ?_))
    rw [Int.toNat_natCast, ← before_take]
    exact fin _ (by omega)
theorem text_l (C : List Int) (hC : C.length < 140737488355328) (n : Nat) : ∀ i : Nat, i + n = C.length → Ev (fun k => barscanref14_text.l0 k C ((C.take i).map fun x => x % 256) i) (strOfNums (C.map fun x => x % 256)) := by
  induction n with
  | zero =>
    intro i h
    refine Ev.succ ?_
    simp only [barscanref14_text.l0]
    refine Ev.neg (by omega) (Ev.const ?_)
    rw [List.take_of_length_le (by omega)]
  | succ n ih =>
    intro i h
    have hlt : i < C.length := by omega
    refine Ev.succ ?_
    simp only [barscanref14_text.l0]
    refine Ev.pos (by omega) (Ev.pos (by omega) (Ev.pos (by simp; omega) ?_))
    have e : ((C.take i).map fun x => x % 256) ++ [(rd C i) % 256] = (C.take (i + 1)).map fun x => x % 256 := by
      rw [rd_nat C i hlt, List.take_succ_eq_append_getElem hlt, List.map_append]
      rfl
    rw [e, wrap_up i (by omega)]
    exact ih (i + 1) (by omega)
theorem text_ev (C : List Int) (hC : C.length ≤ 4096) : Ev (fun k => barscanref14_text.f k C) (strOfNums (C.map fun x => x % 256)) := by
  unfold barscanref14_text.f
  have := text_l C (by omega) C.length 0 (by omega)
  simpa using this
/-! ### The application identifier at the beginning -/
def okP (s : ByteArray) (n : Nat) : Bool := decide (n ≤ s.size) && decide ((tableS ((bs s).take n)).1 ≠ 0)
def preS (s : ByteArray) : Nat := if 2 ≤ s.size then (if okP s 2 then 2 else if 3 ≤ s.size then (if okP s 3 then 3 else if 4 ≤ s.size then (if okP s 4 then 4 else 0) else 0) else 0) else 0
theorem okP_form (s : ByteArray) (n : Nat) (hn : n ≤ 4) (h : n ≤ s.size) : gs1_formOf.f (s.extract 0 n) = some (conv (tableS ((bs s).take n))) ∧ ((conv (tableS ((bs s).take n))).2.2.2.2.2 = true ↔ okP s n = true) := by
  have e : bs (s.extract 0 n) = (bs s).take n := by rw [bs_extract, List.drop_zero, Nat.sub_zero]
  have hs : (s.extract 0 n).size < 4294967281 := by rw [← bs_len, e, List.length_take]; omega
  refine ⟨by rw [form_at _ hs, e], ?_⟩
  have hc := conv_ok (tableS ((bs s).take n)) (tableS_form _)
  rw [hc.1]
  unfold okP
  rw [decide_eq_true h, Bool.true_and, decide_eq_true_iff]
def preV (s : ByteArray) : ByteArray × Int × Int × Bool × Bool × Bool × Bool :=
  if preS s = 0 then (⟨#[]⟩, 0, 0, false, false, false, false)
  else (s.extract 0 (preS s), (conv (tableS ((bs s).take (preS s)))).1, (conv (tableS ((bs s).take (preS s)))).2.1, (conv (tableS ((bs s).take (preS s)))).2.2.1, (conv (tableS ((bs s).take (preS s)))).2.2.2.1, (conv (tableS ((bs s).take (preS s)))).2.2.2.2.1, true)
theorem prefix_at (s : ByteArray) (k : Nat) : gs1_prefix.f (k + 8) s = some (preV s) := by
  unfold gs1_prefix.f preV preS
  simp only [gs1_prefix.l0, gs1_prefix.j1, show wrap64 (2 + 1) = 3 by decide +kernel, show wrap64 (3 + 1) = 4 by decide +kernel, show wrap64 (4 + 1) = 5 by decide +kernel]
  by_cases h2 : 2 ≤ s.size
  · have f2 := okP_form s 2 (by decide) h2
    rw [if_pos (by decide), if_pos (decide_eq_true (by omega)), if_pos (by decide), if_pos (by omega)]
    simp only [show (2 : Int).toNat = 2 from rfl, f2.1, Option.bind_some, h2, if_true]
    by_cases g2 : okP s 2 = true
    · simp [f2.2.2 g2, g2]
    · have n2 : ¬ (conv (tableS ((bs s).take 2))).2.2.2.2.2 = true := fun h => g2 (f2.2.1 h)
      rw [if_neg n2, if_neg g2]
      by_cases h3 : 3 ≤ s.size
      · have f3 := okP_form s 3 (by decide) h3
        rw [if_pos (by decide), if_pos (decide_eq_true (by omega)), if_pos (by decide), if_pos (by omega)]
        simp only [show (3 : Int).toNat = 3 from rfl, f3.1, Option.bind_some, h3, if_true]
        by_cases g3 : okP s 3 = true
        · simp [f3.2.2 g3, g3]
        · have n3 : ¬ (conv (tableS ((bs s).take 3))).2.2.2.2.2 = true := fun h => g3 (f3.2.1 h)
          rw [if_neg n3, if_neg g3]
          by_cases h4 : 4 ≤ s.size
          · have f4 := okP_form s 4 (by decide) h4
            rw [if_pos (by decide), if_pos (decide_eq_true (by omega)), if_pos (by decide), if_pos (by omega)]
            simp only [show (4 : Int).toNat = 4 from rfl, f4.1, Option.bind_some, h4, if_true]
            by_cases g4 : okP s 4 = true
            · simp [f4.2.2 g4, g4]
            · have n4 : ¬ (conv (tableS ((bs s).take 4))).2.2.2.2.2 = true := fun h => g4 (f4.2.1 h)
              simp [n4, g4]
          · simp [h4, show ¬ (4 : Int) ≤ (s.size : Int) by omega]
      · simp [h3, show ¬ (3 : Int) ≤ (s.size : Int) by omega]
  · simp [h2, show ¬ (2 : Int) ≤ (s.size : Int) by omega]
def preA (s : ByteArray) : ByteArray := if preS s = 0 then ⟨#[]⟩ else s.extract 0 (preS s)
theorem okP_table (s : ByteArray) (n : Nat) (hn : n ≤ 4) (h : n ≤ s.size) (k : Nat) (hk : 24 ≤ k) : barscanref14_table.f k (s.extract 0 n) = some (tableS ((bs s).take n)) ∧ ((tableS ((bs s).take n)).1 = 0 ↔ okP s n = false) := by
  have e : bs (s.extract 0 n) = (bs s).take n := by rw [bs_extract, List.drop_zero, Nat.sub_zero]
  have hs : (s.extract 0 n).size ≤ 4 := by rw [← bs_len, e, List.length_take]; omega
  refine ⟨by rw [table_ev _ (by omega) k (by omega), e], ?_⟩
  unfold okP
  rw [decide_eq_true h, Bool.true_and, decide_eq_false_iff_not, Decidable.not_not]
theorem first_at (s : ByteArray) (k : Nat) (hk : 40 ≤ k) : barscanref14_first.f k s = some (preA s) := by
  obtain ⟨k, rfl⟩ : ∃ j, k = j + 8 := ⟨k - 8, by omega⟩
  unfold barscanref14_first.f preA preS
  simp only [barscanref14_first.l0, barscanref14_first.j1, show wrap64 (2 + 1) = 3 by decide +kernel, show wrap64 (3 + 1) = 4 by decide +kernel, show wrap64 (4 + 1) = 5 by decide +kernel]
  by_cases h2 : 2 ≤ s.size
  · have f2 := okP_table s 2 (by decide) h2 (k + 6) (by omega)
    rw [if_pos (by decide), if_pos (decide_eq_true (by omega)), if_pos (by decide), if_pos (by omega)]
    simp only [show (2 : Int).toNat = 2 from rfl, f2.1, Option.bind_some, h2, if_true]
    rcases g2 : okP s 2 with _ | _
    · rw [if_pos (f2.2.2 g2)]
      simp only [Bool.false_eq_true, if_false]
      by_cases h3 : 3 ≤ s.size
      · have f3 := okP_table s 3 (by decide) h3 (k + 4) (by omega)
        rw [if_pos (by decide), if_pos (decide_eq_true (by omega)), if_pos (by decide), if_pos (by omega)]
        simp only [show (3 : Int).toNat = 3 from rfl, f3.1, Option.bind_some, h3, if_true]
        rcases g3 : okP s 3 with _ | _
        · rw [if_pos (f3.2.2 g3)]
          simp only [Bool.false_eq_true, if_false]
          by_cases h4 : 4 ≤ s.size
          · have f4 := okP_table s 4 (by decide) h4 (k + 2) (by omega)
            rw [if_pos (by decide), if_pos (decide_eq_true (by omega)), if_pos (by decide), if_pos (by omega)]
            simp only [show (4 : Int).toNat = 4 from rfl, f4.1, Option.bind_some, h4, if_true]
            rcases g4 : okP s 4 with _ | _
            · rw [if_pos (f4.2.2 g4)]
              simp
            · rw [if_neg (fun h => by rw [f4.2.1 h] at g4; cases g4)]
              simp
          · simp [h4, show ¬ (4 : Int) ≤ (s.size : Int) by omega]
        · rw [if_neg (fun h => by rw [f3.2.1 h] at g3; cases g3)]
          simp
      · simp [h3, show ¬ (3 : Int) ≤ (s.size : Int) by omega]
    · rw [if_neg (fun h => by rw [f2.2.1 h] at g2; cases g2)]
      simp
  · simp [h2, show ¬ (2 : Int) ≤ (s.size : Int) by omega]
theorem preS_le (s : ByteArray) : preS s ≤ s.size ∧ preS s ≤ 4 ∧ (preS s ≠ 0 → 2 ≤ preS s ∧ (tableS ((bs s).take (preS s))).1 ≠ 0) := by
  have ok : ∀ n, okP s n = true → (tableS ((bs s).take n)).1 ≠ 0 := by
    intro n h
    unfold okP at h
    rw [Bool.and_eq_true, decide_eq_true_iff, decide_eq_true_iff] at h
    exact h.2
  unfold preS
  by_cases h2 : 2 ≤ s.size
  · rw [if_pos h2]
    by_cases g2 : okP s 2 = true
    · rw [if_pos g2]; exact ⟨h2, by omega, fun _ => ⟨by omega, ok 2 g2⟩⟩
    · rw [if_neg g2]
      by_cases h3 : 3 ≤ s.size
      · rw [if_pos h3]
        by_cases g3 : okP s 3 = true
        · rw [if_pos g3]; exact ⟨h3, by omega, fun _ => ⟨by omega, ok 3 g3⟩⟩
        · rw [if_neg g3]
          by_cases h4 : 4 ≤ s.size
          · rw [if_pos h4]
            by_cases g4 : okP s 4 = true
            · rw [if_pos g4]; exact ⟨h4, by omega, fun _ => ⟨by omega, ok 4 g4⟩⟩
            · rw [if_neg g4]; exact ⟨by omega, by omega, fun h => absurd rfl h⟩
          · rw [if_neg h4]; exact ⟨by omega, by omega, fun h => absurd rfl h⟩
      · rw [if_neg h3]; exact ⟨by omega, by omega, fun h => absurd rfl h⟩
  · rw [if_neg h2]; exact ⟨by omega, by omega, fun h => absurd rfl h⟩
/-! ### The elements -/
theorem nums_size (l : List Int) : (strOfNums l).size = l.length := by
  unfold strOfNums
  show (l.map _).toArray.size = _
  simp
theorem runS_size (C : List Int) : (runS C).size = (before C).length := by unfold runS; rw [nums_size, List.length_map]
def tbC (C : List Int) : Int × Int := tableS ((bs (runS C)).take (preS (runS C)))
def fxC (C : List Int) : Int := (conv (tbC C)).1
def dat0 (C : List Int) : ByteArray := (runS C).extract (preS (runS C)) (runS C).size
def dat (C : List Int) : ByteArray := if fxC C > 0 then (dat0 C).extract 0 (fxC C).toNat else dat0 C
def elC (C : List Int) : El := ⟨(runS C).extract 0 (preS (runS C)), dat C⟩
def restC (C : List Int) : List Int := C.drop (preS (runS C) + (dat C).size)
def fcR : Nat → List Int → List El → List El × Int
  | 0, _, acc => (acc, 0)
  | n + 1, C, acc => if C = [] then (acc, 0) else if rd C 0 = 256 then ([], 9) else if preS (runS C) = 0 then ([], 29) else if fxC C > 0 ∧ ((dat0 C).size : Int) < fxC C then ([], 10)
    else if verT (tbC C) (dat C) = 0 then (if fxC C = 0 ∧ restC C ≠ [] then (if (restC C).drop 1 = [] then ([], 9) else fcR n ((restC C).drop 1) (acc ++ [elC C])) else fcR n (restC C) (acc ++ [elC C])) else ([], verT (tbC C) (dat C))
theorem dat0_size (C : List Int) : (dat0 C).size = (runS C).size - preS (runS C) := by unfold dat0; simp
theorem dat_size (C : List Int) : (dat C).size ≤ (runS C).size - preS (runS C) := by
  unfold dat
  split
  · rw [ByteArray.size_extract, dat0_size]; omega
  · rw [dat0_size]; exact Nat.le_refl _
theorem gj3 {acc : List El} {D : List Int} {x : Bool} {ai d : ByteArray} {r : List El × Int} (hacc : acc.length < 4398046511104) (hx : x = true → D ≠ []) (a1 : x = true → D.drop 1 = [] → r = ([], 9))
    (a2 : x = true → D.drop 1 ≠ [] → Ev (fun k => gs1_FromChars.l0 k (acc ++ [⟨ai, d⟩]) (D.drop 1)) r) (a3 : x = false → Ev (fun k => gs1_FromChars.l0 k (acc ++ [⟨ai, d⟩]) D) r) : Ev (fun k => gs1_FromChars.j3 k acc D x ai d) r := by
  refine Ev.succ ?_
  simp only [gs1_FromChars.j3]
  cases x with
  | true =>
    have hl1 : 0 < D.length := List.length_pos_iff.2 (hx rfl)
    refine Ev.pos rfl (Ev.pos (by omega) ?_)
    simp only [Option.bind_some]
    by_cases h5 : D.drop 1 = []
    · rw [a1 rfl h5]
      exact Ev.pos (by rw [h5]; rfl) (Ev.const rfl)
    · exact Ev.neg (fun h => h5 (List.length_eq_zero_iff.1 (by omega))) (Ev.pos hacc (a2 rfl h5))
  | false => exact Ev.neg (by simp) (Ev.pos hacc (a3 rfl))
theorem gj2 {acc : List El} {C : List Int} {ai d : ByteArray} {fx most v : Int} {dig chk day : Bool} {r : List El × Int} (hver : Ev (fun k => gs1_form_verify.f k fx most dig chk day d) v) (hle : ai.size + d.size ≤ C.length) (hC : C.length ≤ 4096)
    (b1 : v ≠ 0 → r = ([], v)) (b2 : v = 0 → Ev (fun k => gs1_FromChars.j3 k acc (C.drop (ai.size + d.size)) (decide (fx = 0) && decide (C.drop (ai.size + d.size) ≠ [])) ai d) r) : Ev (fun k => gs1_FromChars.j2 k acc C ai fx most dig chk day ai d) r := by
  refine Ev.succ ?_
  simp only [gs1_FromChars.j2]
  refine Ev.bind hver ?_
  by_cases hv : v = 0
  · have hw : wrap64 ((ai.size : Int) + (d.size : Int)) = ((ai.size + d.size : Nat) : Int) := by rw [wrap_id _ (by omega) (by omega)]; omega
    rw [hw]
    refine Ev.pos hv (Ev.pos (by omega) (Ev.pos (by omega) ?_))
    simp only [Option.bind_some, Int.toNat_natCast]
    have b := b2 hv
    by_cases h6 : fx = 0
    · refine Ev.pos h6 ?_
      rw [decide_eq_true h6, Bool.true_and] at b
      have e : decide (((C.drop (ai.size + d.size)).length : Int) > 0) = decide (C.drop (ai.size + d.size) ≠ []) := by
        by_cases h7 : C.drop (ai.size + d.size) = []
        · rw [h7]; rfl
        · have := List.length_pos_iff.2 h7
          rw [decide_eq_true h7, decide_eq_true (by omega)]
      rw [e]
      exact b
    · refine Ev.neg h6 ?_
      rw [decide_eq_false h6, Bool.false_and] at b
      exact b
  · rw [b1 hv]
    exact Ev.neg hv (Ev.const rfl)
set_option maxHeartbeats 2000000 in
theorem gfc_l (n : Nat) : ∀ (C : List Int) (acc : List El), C.length < n → C.length ≤ 4096 → acc.length + C.length ≤ 4096 → Ev (fun k => gs1_FromChars.l0 k acc C) (fcR n C acc) := by
  induction n with
  | zero => intro C acc h; omega
  | succ n ih =>
    intro C acc h hC ha
    refine Ev.succ ?_
    simp only [gs1_FromChars.l0]
    unfold fcR
    by_cases h0 : C = []
    · rw [if_pos h0]
      subst h0
      exact Ev.neg (by simp) (Ev.const rfl)
    · rw [if_neg h0]
      have hpos : 0 < C.length := List.length_pos_iff.2 h0
      refine Ev.pos (by omega) (Ev.pos (by omega) ?_)
      by_cases h1 : rd C 0 = 256
      · rw [if_pos h1]
        exact Ev.pos h1 (Ev.const rfl)
      · rw [if_neg h1]
        refine Ev.neg h1 (Ev.bind (run_ev C hC) (Ev.bind (a := preV (runS C)) ⟨8, fun k hk => by obtain ⟨j, rfl⟩ : ∃ j, k = j + 8 := ⟨k - 8, by omega⟩; exact prefix_at _ j⟩ ?_))
        have hrs := runS_size C
        have hbl := before_le C
        have hp := preS_le (runS C)
        unfold preV
        by_cases h2 : preS (runS C) = 0
        · rw [if_pos h2, if_pos h2]
          exact Ev.neg (by simp) (Ev.const rfl)
        · rw [if_neg h2, if_neg h2]
          have hple := hp.1
          have hp2a := (hp.2.2 h2).1
          have htn : (tbC C).1 ≠ 0 := (hp.2.2 h2).2
          clear hp
          have has : ((runS C).extract 0 (preS (runS C))).size = preS (runS C) := by clear htn; rw [ByteArray.size_extract]; omega
          have hd0 := dat0_size C
          have hds := dat_size C
          have hrl : (restC C).length = C.length - (preS (runS C) + (dat C).size) := by clear htn; unfold restC; rw [List.length_drop]
          have hdb : (dat C).size < 4294967296 := by clear htn; omega
          have hver : Ev (fun k => gs1_form_verify.f k (conv (tbC C)).1 (conv (tbC C)).2.1 (conv (tbC C)).2.2.1 (conv (tbC C)).2.2.2.1 (conv (tbC C)).2.2.2.2.1 (dat C)) (verT (tbC C) (dat C)) := by
            have htf : tbC C ∈ [(2, 18), (2, 14), (3, 6), (1, 2), (4, 8), (5, 20), (5, 25), (5, 30), (5, 90), (2, 13), (4, 15), (1, 6), ((0 : Int), (0 : Int))] := tableS_form ((bs (runS C)).take (preS (runS C)))
            have hco := conv_ok (tbC C) htf
            exact ⟨(dat C).size + 21, fun k hk => (gver_at _ _ _ _ _ (dat C) hdb hco.2 k hk).trans (congrArg some (gver_verT (tbC C) htf htn (dat C)))⟩
          clear htn
          refine Ev.pos rfl (Ev.pos (by omega) (Ev.pos (by rw [has]; omega) ?_))
          simp only [has, Int.toNat_natCast]
          have fin : Ev (fun k => gs1_FromChars.j2 k acc C ((runS C).extract 0 (preS (runS C))) (conv (tbC C)).1 (conv (tbC C)).2.1 (conv (tbC C)).2.2.1 (conv (tbC C)).2.2.2.1 (conv (tbC C)).2.2.2.2.1 ((runS C).extract 0 (preS (runS C))) (dat C))
              (if verT (tbC C) (dat C) = 0 then (if fxC C = 0 ∧ restC C ≠ [] then (if (restC C).drop 1 = [] then ([], 9) else fcR n ((restC C).drop 1) (acc ++ [elC C])) else fcR n (restC C) (acc ++ [elC C])) else ([], verT (tbC C) (dat C))) := by
            refine gj2 hver (by rw [has]; omega) hC (fun hv => if_neg hv) (fun hv => ?_)
            rw [if_pos hv, has]
            have eR : C.drop (preS (runS C) + (dat C).size) = restC C := rfl
            rw [eR]
            have hl2 : ((restC C).drop 1).length ≤ (restC C).length := by rw [List.length_drop]; omega
            have hla : (acc ++ [elC C]).length = acc.length + 1 := by rw [List.length_append]; rfl
            by_cases hx : fxC C = 0 ∧ restC C ≠ []
            · rw [if_pos hx]
              refine gj3 (by omega) (fun _ => hx.2) (fun _ h5 => if_pos h5) (fun _ h5 => ?_) (fun h => ?_)
              · rw [if_neg h5]
                exact ih _ (acc ++ [elC C]) (by omega) (by omega) (by omega)
              · rw [decide_eq_true (show (conv (tbC C)).1 = 0 from hx.1), decide_eq_true hx.2] at h
                cases h
            · rw [if_neg hx]
              have no : (decide ((conv (tbC C)).1 = 0) && decide (restC C ≠ [])) = true → False := by
                intro h
                rw [Bool.and_eq_true, decide_eq_true_iff, decide_eq_true_iff] at h
                exact hx h
              refine gj3 (by omega) (fun h => (no h).elim) (fun h => (no h).elim) (fun h => (no h).elim) (fun _ => ?_)
              exact ih _ (acc ++ [elC C]) (by omega) (by omega) (by omega)
          have e0 : (runS C).extract (preS (runS C)) (runS C).size = dat0 C := rfl
          rw [e0]
          by_cases h3 : fxC C > 0
          · have hdd : dat C = (dat0 C).extract 0 (fxC C).toNat := by unfold dat; rw [if_pos h3]
            refine Ev.pos h3 ?_
            by_cases h4 : ((dat0 C).size : Int) < fxC C
            · rw [if_pos ⟨h3, h4⟩]
              exact Ev.pos h4 (Ev.const rfl)
            · rw [if_neg (fun h => h4 h.2)]
              refine Ev.neg h4 (Ev.pos (Int.le_of_lt h3) (Ev.pos (Int.not_lt.1 h4) ?_))
              rw [hdd] at fin ⊢
              exact fin
          · have hdd : dat C = dat0 C := by unfold dat; rw [if_neg h3]
            rw [if_neg (fun h => h3 h.1)]
            refine Ev.neg h3 ?_
            rw [hdd] at fin ⊢
            exact fin
theorem before_nil {D : List Int} (h : D ≠ []) : (before D = [] ↔ rd D 0 = 256) := by
  match D, h with
  | c :: r, _ =>
    have e : rd (c :: r) 0 = c := rfl
    rw [e]
    unfold before
    by_cases hc : c = 256
    · rw [List.takeWhile_cons_of_neg (by simpa using hc)]
      exact ⟨fun _ => hc, fun _ => rfl⟩
    · rw [List.takeWhile_cons_of_pos (by simpa using hc)]
      exact ⟨fun h => absurd h (by simp), fun h => absurd h hc⟩
theorem rl2 {C : List Int} {acc : List El} {p : Nat} {r : List El × Int} (hC : C.length ≤ 4096) (n : Nat) : ∀ q : Nat, q + n = C.length →
    Ev (fun k => barscanref14_FromChars.j4 k C acc p ((q + (before (C.drop q)).length : Nat) : Int)) r → Ev (fun k => barscanref14_FromChars.l2 k C acc p q) r := by
  induction n with
  | zero =>
    intro q h hj
    refine Ev.succ ?_
    simp only [barscanref14_FromChars.l2]
    rw [List.drop_of_length_le (by omega)] at hj
    exact Ev.neg (by omega) hj
  | succ n ih =>
    intro q h hj
    have hlt : q < C.length := by omega
    have hd : C.drop q = C[q] :: C.drop (q + 1) := List.drop_eq_getElem_cons hlt
    rw [hd] at hj
    refine Ev.succ ?_
    simp only [barscanref14_FromChars.l2]
    refine Ev.pos (by omega) (Ev.pos (by omega) ?_)
    rw [rd_nat C q hlt]
    unfold before at hj
    by_cases hc : C[q] = 256
    · rw [List.takeWhile_cons_of_neg (by simpa using hc)] at hj
      exact Ev.pos hc hj
    · rw [List.takeWhile_cons_of_pos (by simpa using hc), List.length_cons] at hj
      refine Ev.neg hc ?_
      rw [wrap_up q (by omega)]
      refine ih (q + 1) (by omega) ?_
      rw [show q + 1 + (before (C.drop (q + 1))).length = q + ((before (C.drop (q + 1))).length + 1) by omega]
      exact hj
theorem rj7 {C : List Int} {acc : List El} {q : Nat} {x : Bool} {r : List El × Int} (hC : C.length ≤ 4096) (hq : q ≤ 8192) (a1 : x = true → q + 1 = C.length → r = ([], 9))
    (a2 : x = true → q + 1 ≠ C.length → Ev (fun k => barscanref14_FromChars.l1 k C acc ((q + 1 : Nat) : Int)) r) (a3 : x = false → Ev (fun k => barscanref14_FromChars.l1 k C acc q) r) : Ev (fun k => barscanref14_FromChars.j7 k C acc q x) r := by
  refine Ev.succ ?_
  simp only [barscanref14_FromChars.j7]
  rw [wrap_up q (by omega)]
  cases x with
  | true =>
    refine Ev.pos rfl ?_
    by_cases h : q + 1 = C.length
    · rw [a1 rfl h]
      exact Ev.pos (by omega) (Ev.const rfl)
    · exact Ev.neg (by omega) (a2 rfl h)
  | false => exact Ev.neg (by simp) (a3 rfl)
theorem rj6 {C : List Int} {acc : List El} {p : Nat} {ai d : ByteArray} {fx v : Int} {r : List El × Int} (hver : Ev (fun k => barscanref14_Verify.f k ai d) v) (hacc : acc.length < 4398046511104) (hC : C.length ≤ 4096) (hp : p ≤ 4096) (ha : ai.size ≤ 4) (hd : d.size ≤ 4096)
    (b1 : v ≠ 0 → r = ([], v)) (b2 : v = 0 → Ev (fun k => barscanref14_FromChars.j7 k C (acc ++ [⟨ai, d⟩]) ((p + ai.size + d.size : Nat) : Int) (decide (fx = 0) && decide (p + ai.size + d.size < C.length))) r) : Ev (fun k => barscanref14_FromChars.j6 k C acc p ai fx d) r := by
  refine Ev.succ ?_
  simp only [barscanref14_FromChars.j6]
  refine Ev.bind hver ?_
  by_cases hv : v = 0
  · refine Ev.pos hv (Ev.pos hacc ?_)
    simp only [Option.bind_some]
    have hw : wrap64 (wrap64 ((p : Int) + (ai.size : Int)) + (d.size : Int)) = ((p + ai.size + d.size : Nat) : Int) := by
      rw [wrap_id ((p : Int) + (ai.size : Int)) (by omega) (by omega), wrap_id _ (by omega) (by omega)]; omega
    rw [hw]
    have b := b2 hv
    by_cases h6 : fx = 0
    · refine Ev.pos h6 ?_
      rw [decide_eq_true h6, Bool.true_and] at b
      have e : decide (((p + ai.size + d.size : Nat) : Int) < (C.length : Int)) = decide (p + ai.size + d.size < C.length) := by
        by_cases h7 : p + ai.size + d.size < C.length
        · rw [decide_eq_true h7, decide_eq_true (by omega)]
        · rw [decide_eq_false h7, decide_eq_false (by omega)]
      rw [e]
      exact b
    · refine Ev.neg h6 ?_
      rw [decide_eq_false h6, Bool.false_and] at b
      exact b
  · rw [b1 hv]
    exact Ev.neg hv (Ev.const rfl)
theorem rfc_l (C : List Int) (hC : C.length ≤ 4096) (n : Nat) : ∀ (p : Nat) (acc : List El), p ≤ C.length → C.length - p < n → acc.length + (C.length - p) ≤ 4096 → Ev (fun k => barscanref14_FromChars.l1 k C acc p) (fcR n (C.drop p) acc) := by
  induction n with
  | zero => intro p acc hp h; omega
  | succ n ih =>
    intro p acc hp h ha
    refine Ev.succ ?_
    simp only [barscanref14_FromChars.l1]
    unfold fcR
    by_cases h0 : p = C.length
    · rw [if_pos (List.drop_of_length_le (by omega))]
      exact Ev.neg (by omega) (Ev.const rfl)
    · obtain ⟨D, hD⟩ : ∃ D, C.drop p = D := ⟨_, rfl⟩
      have hDl : D.length = C.length - p := by rw [← hD, List.length_drop]
      have hne : D ≠ [] := fun e => by rw [e] at hDl; simp at hDl; omega
      rw [hD, if_neg hne]
      refine Ev.pos (by omega) (rl2 hC (C.length - p) p (by omega) ?_)
      rw [hD]
      have hbl := before_le D
      have hrs := runS_size D
      have hbn := before_nil hne
      refine Ev.succ ?_
      simp only [barscanref14_FromChars.j4]
      by_cases h1 : rd D 0 = 256
      · rw [if_pos h1]
        exact Ev.pos (by rw [hbn.2 h1]; simp) (Ev.const rfl)
      · rw [if_neg h1]
        have hb1 : 0 < (before D).length := List.length_pos_iff.2 (fun e => h1 (hbn.1 e))
        refine Ev.neg (by omega) (Ev.pos (by omega) (Ev.pos (by omega) (Ev.pos (by omega) ?_)))
        have ht : (C.take ((p + (before D).length : Nat) : Int).toNat).drop ((p : Nat) : Int).toNat = before D := by
          rw [Int.toNat_natCast, Int.toNat_natCast, List.drop_take, hD, show p + (before D).length - p = (before D).length by omega, ← before_take]
        rw [ht]
        refine Ev.bind (a := runS D) (text_ev (before D) (by omega)) (Ev.bind (a := preA (runS D)) ⟨40, fun k hk => first_at _ k hk⟩ ?_)
        have hp' := preS_le (runS D)
        unfold preA
        by_cases h2 : preS (runS D) = 0
        · rw [if_pos h2, if_pos h2]
          exact Ev.pos (by rw [bs_toList]; rfl) (Ev.const rfl)
        · rw [if_neg h2, if_neg h2]
          have hple := hp'.1
          have hp4 := hp'.2.1
          have hp2a := (hp'.2.2 h2).1
          have htn : (tbC D).1 ≠ 0 := (hp'.2.2 h2).2
          clear hp'
          obtain ⟨ai, hai⟩ : ∃ ai, (runS D).extract 0 (preS (runS D)) = ai := ⟨_, rfl⟩
          have hbs : bs ai = (bs (runS D)).take (preS (runS D)) := by rw [← hai, bs_extract, List.drop_zero, Nat.sub_zero]
          have hel : elC D = ⟨ai, dat D⟩ := by unfold elC; rw [hai]
          have has : ai.size = preS (runS D) := by clear htn; rw [← hai, ByteArray.size_extract]; omega
          have hd0 := dat0_size D
          have hds := dat_size D
          have hrl : (restC D).length = D.length - (preS (runS D) + (dat D).size) := by clear htn; unfold restC; rw [List.length_drop]
          have hdb : (dat D).size < 1073741824 := by clear htn; omega
          have hab : ai.size < 1073741824 := by clear htn; omega
          have hfx : (fixedS (bs ai)).1 = fxC D := by
            have h3 := fixE_fixedS ⟨ai, ai⟩
            unfold fixE at h3
            rw [← h3]
            unfold fxC tbC
            rw [← hbs]
          have hver : Ev (fun k => barscanref14_Verify.f k ai (dat D)) (verT (tbC D) (dat D)) := by
            have h3 := rver_ev ai (dat D) hab hdb
            unfold verS at h3
            rw [hbs] at h3
            rw [if_neg (show ¬ (tableS ((bs (runS D)).take (preS (runS D)))).1 = 0 from htn)] at h3
            exact h3
          have hfe : Ev (fun k => barscanref14_Fixed.f k ai) (fixedS (bs ai)) := ⟨ai.size + 20, fun k hk => ref_fixed_ev ai (by clear htn; omega) k hk⟩
          clear htn
          rw [hai]
          refine Ev.neg (fun e => by rw [bs_toList] at e; have := congrArg List.length e; rw [bs_len, List.length_nil] at this; omega) (Ev.bind hfe (Ev.pos (by omega) (Ev.pos (by omega) ?_)))
          rw [hfx]
          have e0 : (runS D).extract ((ai.size : Nat) : Int).toNat (runS D).size = dat0 D := by rw [Int.toNat_natCast, has]; rfl
          rw [e0]
          have hrd : C.drop (p + ai.size + (dat D).size) = restC D := by
            unfold restC
            rw [← hD, List.drop_drop, has, hD]
            congr 1
            omega
          have hrd1 : C.drop (p + ai.size + (dat D).size + 1) = (restC D).drop 1 := by rw [← hrd, List.drop_drop]
          have fin : Ev (fun k => barscanref14_FromChars.j6 k C acc p ai (fxC D) (dat D))
              (if verT (tbC D) (dat D) = 0 then (if fxC D = 0 ∧ restC D ≠ [] then (if (restC D).drop 1 = [] then ([], 9) else fcR n ((restC D).drop 1) (acc ++ [elC D])) else fcR n (restC D) (acc ++ [elC D])) else ([], verT (tbC D) (dat D))) := by
            refine rj6 hver (by omega) hC (by omega) (by omega) (by omega) (fun hv => if_neg hv) (fun hv => ?_)
            rw [if_pos hv]
            have hla : (acc ++ [elC D]).length = acc.length + 1 := by rw [List.length_append]; rfl
            have hne2 : (restC D ≠ []) ↔ p + ai.size + (dat D).size < C.length := by
              constructor
              · intro h5; have := List.length_pos_iff.2 h5; omega
              · intro h5 h6; rw [h6] at hrl; simp at hrl; omega
            rw [hel] at hla ⊢
            by_cases hx : fxC D = 0 ∧ restC D ≠ []
            · rw [if_pos hx]
              have hl := hne2.1 hx.2
              refine rj7 hC (by omega) (fun _ h5 => if_pos (by rw [← hrd1]; exact List.drop_of_length_le (by omega))) (fun _ h5 => ?_) (fun h => ?_)
              · rw [if_neg (fun h6 => by rw [← hrd1] at h6; have := congrArg List.length h6; rw [List.length_drop] at this; simp at this; omega), ← hrd1]
                have hpl : p + ai.size + (dat D).size + 1 ≤ C.length := hl
                have hlt2 : C.length - (p + ai.size + (dat D).size + 1) < n := by have hh := h; omega
                exact ih (p + ai.size + (dat D).size + 1) (acc ++ [⟨ai, dat D⟩]) hpl hlt2 (by rw [hla]; omega)
              · rw [decide_eq_true hx.1, decide_eq_true hl] at h
                cases h
            · rw [if_neg hx]
              have no : (decide (fxC D = 0) && decide (p + ai.size + (dat D).size < C.length)) = true → False := by
                intro h
                rw [Bool.and_eq_true, decide_eq_true_iff, decide_eq_true_iff] at h
                exact hx ⟨h.1, hne2.2 h.2⟩
              refine rj7 hC (by omega) (fun h => (no h).elim) (fun h => (no h).elim) (fun _ => ?_)
              rw [← hrd]
              exact ih (p + ai.size + (dat D).size) (acc ++ [⟨ai, dat D⟩]) (by omega) (by have hh := h; omega) (by rw [hla]; omega)
          by_cases h3 : fxC D > 0
          · have hdd : dat D = (dat0 D).extract 0 (fxC D).toNat := by unfold dat; rw [if_pos h3]
            refine Ev.pos h3 (Ev.succ ?_)
            simp only [barscanref14_FromChars.j5]
            by_cases h4 : ((dat0 D).size : Int) < fxC D
            · rw [if_pos ⟨h3, h4⟩]
              exact Ev.pos (decide_eq_true h4) (Ev.const rfl)
            · rw [if_neg (fun h => h4 h.2)]
              refine Ev.neg (by simpa using h4) (Ev.pos h3 (Ev.pos (Int.le_of_lt h3) (Ev.pos (Int.not_lt.1 h4) ?_)))
              rw [← hdd]
              exact fin
          · have hdd : dat D = dat0 D := by unfold dat; rw [if_neg h3]
            rw [if_neg (fun h => h3 h.1)]
            refine Ev.neg h3 (Ev.succ ?_)
            simp only [barscanref14_FromChars.j5]
            refine Ev.neg (by simp) (Ev.neg h3 ?_)
            rw [← hdd]
            exact fin
def fcT (C : List Int) : List El × Int := if C.length = 0 then ([], 9) else if rd C 0 ≠ 256 then ([], 9) else if C.length = 1 then ([], 5) else fcR 5000 (C.drop 1) []
def fcS (C : List Int) : List El × Int := if (C.length : Int) > 4096 then ([], 4) else if C.any badChar = true then ([], 6) else fcT C
theorem gj0 (C : List Int) (hC : C.length ≤ 4096) : ∀ x : Bool, (x = true ↔ (C.length = 0 ∨ rd C 0 ≠ 256)) → Ev (fun k => gs1_FromChars.j0 k C x) (fcT C) := by
  intro x hx
  refine Ev.succ ?_
  simp only [gs1_FromChars.j0]
  unfold fcT
  cases x with
  | true =>
    have h := hx.1 rfl
    refine Ev.pos rfl (Ev.const ?_)
    by_cases h0 : C.length = 0
    · rw [if_pos h0]
    · rw [if_neg h0, if_pos (h.resolve_left h0)]
  | false =>
    have h0 : ¬ C.length = 0 := fun h => absurd (hx.2 (Or.inl h)) (by simp)
    have h1 : ¬ rd C 0 ≠ 256 := fun h => absurd (hx.2 (Or.inr h)) (by simp)
    rw [if_neg h0, if_neg h1]
    refine Ev.neg (by simp) ?_
    by_cases h2 : C.length = 1
    · rw [if_pos h2]
      exact Ev.pos (by omega) (Ev.const rfl)
    · rw [if_neg h2]
      have hd : (C.drop 1).length = C.length - 1 := List.length_drop
      exact Ev.neg (by omega) (Ev.pos (by omega) (gfc_l 5000 (C.drop 1) [] (by omega) (by omega) (by show 0 + _ ≤ 4096; omega)))
theorem gfc_ev (C : List Int) : Ev (fun k => gs1_FromChars.f k C) (fcS C) := by
  unfold gs1_FromChars.f fcS slices_ContainsFunc_int.f
  by_cases h : (C.length : Int) > 4096
  · rw [if_pos h]; exact Ev.pos h (Ev.const rfl)
  · rw [if_neg h]
    refine Ev.neg h ?_
    simp only [Option.bind_some]
    by_cases hb : C.any badChar = true
    · rw [if_pos hb]; exact Ev.pos hb (Ev.const rfl)
    · rw [if_neg hb]
      refine Ev.neg hb ?_
      by_cases h0 : C.length = 0
      · exact Ev.pos (by omega) (gj0 C (by omega) true ⟨fun _ => Or.inl h0, fun _ => rfl⟩)
      · exact Ev.neg (by omega) (Ev.pos (by omega) (gj0 C (by omega) _ ⟨fun hh => Or.inr (bne_iff_ne.1 hh), fun hh => bne_iff_ne.2 (hh.resolve_left h0)⟩))
theorem rj1 (C : List Int) (hC : C.length ≤ 4096) : ∀ x : Bool, (x = true ↔ (C.length = 0 ∨ rd C 0 ≠ 256)) → Ev (fun k => barscanref14_FromChars.j1 k C x) (fcT C) := by
  intro x hx
  refine Ev.succ ?_
  simp only [barscanref14_FromChars.j1]
  unfold fcT
  cases x with
  | true =>
    have h := hx.1 rfl
    refine Ev.pos rfl (Ev.const ?_)
    by_cases h0 : C.length = 0
    · rw [if_pos h0]
    · rw [if_neg h0, if_pos (h.resolve_left h0)]
  | false =>
    have h0 : ¬ C.length = 0 := fun h => absurd (hx.2 (Or.inl h)) (by simp)
    have h1 : ¬ rd C 0 ≠ 256 := fun h => absurd (hx.2 (Or.inr h)) (by simp)
    rw [if_neg h0, if_neg h1]
    refine Ev.neg (by simp) ?_
    by_cases h2 : C.length = 1
    · rw [if_pos h2]
      exact Ev.pos (by omega) (Ev.const rfl)
    · rw [if_neg h2]
      exact Ev.neg (by omega) (rfc_l C hC 5000 1 [] (by omega) (by omega) (by show 0 + _ ≤ 4096; omega))
theorem rl0 (C : List Int) (hC : C.length ≤ 4096) (n : Nat) : ∀ i : Nat, i + n = C.length → Ev (fun k => barscanref14_FromChars.l0 k C i) (if (C.drop i).any badChar = true then ([], 6) else fcT C) := by
  induction n with
  | zero =>
    intro i h
    refine Ev.succ ?_
    simp only [barscanref14_FromChars.l0]
    rw [List.drop_of_length_le (by omega)]
    refine Ev.neg (by omega) ?_
    show Ev _ (fcT C)
    by_cases h0 : C.length = 0
    · exact Ev.pos (by omega) (rj1 C hC true ⟨fun _ => Or.inl h0, fun _ => rfl⟩)
    · exact Ev.neg (by omega) (Ev.pos (by omega) (rj1 C hC _ ⟨fun hh => Or.inr (bne_iff_ne.1 hh), fun hh => bne_iff_ne.2 (hh.resolve_left h0)⟩))
  | succ n ih =>
    intro i h
    have hlt : i < C.length := by omega
    have hd : C.drop i = C[i] :: C.drop (i + 1) := List.drop_eq_getElem_cons hlt
    refine Ev.succ ?_
    simp only [barscanref14_FromChars.l0]
    rw [rd_nat C i hlt, hd, List.any_cons, wrap_up i (by omega)]
    have hi := ih (i + 1) (by omega)
    refine Ev.pos (by omega) (Ev.pos (by omega) ?_)
    by_cases h1 : C[i] = 256
    · have e : badChar C[i] = false := by rw [h1]; rfl
      rw [e, Bool.false_or]
      exact Ev.pos h1 hi
    · refine Ev.neg h1 ?_
      by_cases h2 : C[i] < 0
      · have e : badChar C[i] = true := by unfold badChar; simp [h1, h2]
        rw [e, Bool.true_or, if_pos rfl]
        exact Ev.pos h2 (Ev.const rfl)
      · refine Ev.neg h2 ?_
        by_cases h3 : C[i] > 127
        · have e : badChar C[i] = true := by unfold badChar; simp [h1]; omega
          rw [e, Bool.true_or, if_pos rfl]
          exact Ev.pos h3 (Ev.const rfl)
        · have e : badChar C[i] = false := by unfold badChar; simp [h1]; omega
          rw [e, Bool.false_or]
          exact Ev.neg h3 hi
theorem rfc_ev (C : List Int) : Ev (fun k => barscanref14_FromChars.f k C) (fcS C) := by
  unfold barscanref14_FromChars.f fcS
  by_cases h : (C.length : Int) > 4096
  · rw [if_pos h]; exact Ev.pos h (Ev.const rfl)
  · rw [if_neg h]
    have := rl0 C (by omega) C.length 0 (by omega)
    exact Ev.neg h (by simpa using this)
theorem fcR_len (n : Nat) : ∀ (C : List Int) (acc : List El), (fcR n C acc).1.length ≤ acc.length + n := by
  induction n with
  | zero => intro C acc; exact Nat.le_refl _
  | succ n ih =>
    intro C acc
    unfold fcR
    have h1 : ∀ D, (fcR n D (acc ++ [elC C])).1.length ≤ acc.length + (n + 1) := fun D => by
      have := ih D (acc ++ [elC C])
      rw [List.length_append] at this
      exact Nat.le_trans this (by show acc.length + 1 + n ≤ _; omega)
    repeat' split
    all_goals first | exact h1 _ | (show acc.length ≤ _; omega) | (show 0 ≤ _; omega)
theorem fcS_len (C : List Int) : (fcS C).1.length ≤ 5000 := by
  unfold fcS fcT
  repeat' split
  all_goals first | (show 0 ≤ _; omega) | (have := fcR_len 5000 (C.drop 1) []; simpa using this)
end Go.Proofs.YtghlbdemlmbijaaGreatDoor.Q

namespace Go.Proofs.YtghlbdemlmbijaaGreatDoor.Q
open Go.RowKit Go.Proofs.YtghlbdemlmbijaaGreatDoorW.PrintWords Go.Proofs.YtghlbdemlmbijaaGreatDoorW.PrintLast Go.Proofs.YtghlbdemlmbijaaGreatDoorW.PrintMore

set_option linter.unusedVariables false
set_option linter.unusedSimpArgs false

/-! ### barscanlaw14_Gs1Reads: function 6 -/
def barscanlaw14_Gs1Reads.f (k : Nat) (l0 : List Int) : Option (Bool) := (gs1_FromChars.f k l0).bind fun bt340 => ((barscanref14_FromChars.f k l0).bind fun bt344 => ((barscanlaw14_same.f k bt340.1 bt344.1).bind fun t348 => (if t348 = true then (if bt340.2 = bt344.2 then ((barscanlaw14_examples.f k).bind fun t349 => (some t349)) else (some false)) else (some false))))
theorem barscanlaw14_Gs1Reads.mono : ∀ a0 k, LeO (barscanlaw14_Gs1Reads.f k a0) (barscanlaw14_Gs1Reads.f (k + 1) a0) := by
 intro a0 k
 unfold barscanlaw14_Gs1Reads.f
 repeat' first
   | (with_reducible exact barscanlaw14_examples.mono _)
   | (with_reducible exact barscanlaw14_same.mono _ _ _)
   | (with_reducible exact barscanref14_FromChars.mono _ _)
   | (with_reducible exact gs1_FromChars.mono _ _)
   | (with_reducible exact LeO.refl _)
   | (with_reducible exact LeO.none _)
   | (with_reducible refine LeO.ite ?_ ?_)
   | (with_reducible refine LeO.bind ?_ (fun _ => ?_))
   | exact barscanlaw14_examples.mono _
   | exact barscanlaw14_same.mono _ _ _
   | exact barscanref14_FromChars.mono _ _
   | exact gs1_FromChars.mono _ _
   | exact LeO.none _
   | refine LeO.ite ?_ ?_
   | refine LeO.bind ?_ (fun _ => ?_)
set_option maxHeartbeats 8000000 in
set_option maxRecDepth 100000 in
theorem barscanlaw14_Gs1Reads.calls (k : Nat) (A0 : Option Addr) (c0 : Nat) (l0 : List Int) (r : Bool) (w : World) (hT : Tabs w) (hr0 : Kd.C (Kd.int .i64) w A0 l0.length l0) (hc0 : l0.length ≤ c0) (h : barscanlaw14_Gs1Reads.f k l0 = some r) :
  Calls Tryz.prog 6 #[.slice A0 l0.length c0] w fun e w' => e = .returned (.bool r) ∧ Below w.heap.size w w' := by
 have HR0 := Aside0.mk hr0
 have HC0 := Aside0.mk hc0
 clear hr0 hc0
 have HT := Aside0.mk hT
 clear hT
 have HB := Aside0.mk (Below.refl w.heap.size w)
 have H : ((gs1_FromChars.f k l0).bind fun bt340 => ((barscanref14_FromChars.f k l0).bind fun bt344 => ((barscanlaw14_same.f k bt340.1 bt344.1).bind fun t348 => (if t348 = true then (if bt340.2 = bt344.2 then ((barscanlaw14_examples.f k).bind fun t349 => (some t349)) else (some false)) else (some false))))) = some r := h
 clear h
 replace H := Option.bind_eq_some_iff.mp H
 obtain ⟨⟨t340, t343⟩, A20, H⟩ := H
 replace H : ((barscanref14_FromChars.f k l0).bind fun bt344 => ((barscanlaw14_same.f k t340 bt344.1).bind fun t348 => (if t348 = true then (if t343 = bt344.2 then ((barscanlaw14_examples.f k).bind fun t349 => (some t349)) else (some false)) else (some false)))) = some r := H
 have A2 := Aside0.mk A20
 clear A20
 replace H := Option.bind_eq_some_iff.mp H
 obtain ⟨⟨t344, t345⟩, A30, H⟩ := H
 replace H : ((barscanlaw14_same.f k t340 t344).bind fun t348 => (if t348 = true then (if t343 = t345 then ((barscanlaw14_examples.f k).bind fun t349 => (some t349)) else (some false)) else (some false))) = some r := H
 have A3 := Aside0.mk A30
 clear A30
 replace H := Option.bind_eq_some_iff.mp H
 obtain ⟨t348, A40, H⟩ := H
 replace H : (if t348 = true then (if t343 = t345 then ((barscanlaw14_examples.f k).bind fun t349 => (some t349)) else (some false)) else (some false)) = some r := H
 have A4 := Aside0.mk A40
 clear A40
 by_cases c5 : t348 = true
 ·subst c5
  have H1 : (if t343 = t345 then ((barscanlaw14_examples.f k).bind fun t349 => (some t349)) else (some false)) = some r := by rw [if_pos rfl] at H; exact H
  clear H
  have H := H1
  clear H1
  by_cases c6 : t343 = t345
  ·rw [if_pos c6] at H
   have c6b0 : (t343 == t345) = true := beq_iff_eq.mpr c6
   have c6b1 : (t343 != t345) = false := bne_eq_false_iff_eq.mpr c6
   clear c6
   replace H := Option.bind_eq_some_iff.mp H
   obtain ⟨t349, A70, H⟩ := H
   replace H : (some t349) = some r := H
   have A7 := Aside0.mk A70
   clear A70
   obtain rfl := Option.some.inj H
   go_enter Tryz.func6, Tryz.ntmps6
   go_wp2_with (first | ((with_reducible refine gate_callee (f := 20) rfl ?_); refine goesL_ (some 9) rfl rfl Tryz.func20 (by kernel_rfl) rfl #[.slice A0 l0.length c0] rfl (by (try simp only [List.map_toArray, List.map_cons, List.map_nil]); first | done | rfl | (simp only [List.length_drop, List.length_take]; rfl)) ?_; (with_reducible refine (gs1_FromChars.calls k (fun k_ => k_ < w.heap.size) _ _ l0 t340 t343 _ ?side2 ?side1 A2.out).mono ?_); (case side1 => exact Kd.V_mk HC0.out (Kd.F_below (Kd.C_F (Kd.heap_int .i64) HR0.out) (by repeat (first | (with_reducible first | exact HB.out | apply below_alloc | apply pw_below_drewN | apply below_drew1) | exact HB.out)))); (case side2 => exact Tabs.below HT.out (by repeat (first | (with_reducible first | exact HB.out | apply below_alloc | apply pw_below_drewN | apply below_drew1) | exact HB.out))); rintro e w8 ⟨v341, rfl, ho0, hb⟩; refine ⟨_, rfl, ?_⟩; have n0_ := Aside0.mk (Kd.R_lower (Kd.R_mono (ok' := fun k_ => True) ho0 (fun _ hk_ => trivial)) (below_size (by repeat (first | (with_reducible first | exact HB.out | apply below_alloc | apply pw_below_drewN | apply below_drew1) | exact HB.out)))); have n1_ := Aside0.mk (below_step (by repeat (first | (with_reducible first | exact HB.out | apply below_alloc | apply pw_below_drewN | apply below_drew1) | exact HB.out)) hb); clear HB; have HO342 := n0_; have HB := n1_; clear n0_ n1_; (try clear hb); (try clear hb2); (try clear hk); (try clear hi); (try clear ho0)) | ((with_reducible refine gate_callee (f := 21) rfl ?_); refine goesL_ (some 14) rfl rfl Tryz.func21 (by kernel_rfl) rfl #[.slice A0 l0.length c0] rfl (by (try simp only [List.map_toArray, List.map_cons, List.map_nil]); first | done | rfl | (simp only [List.length_drop, List.length_take]; rfl)) ?_; (with_reducible refine (barscanref14_FromChars.calls k _ _ l0 t344 t345 _ ?side1 ?side2 A3.out).mono ?_); (case side1 => repeat (first | exact (Kd.C_below HR0.out HB.out) | (with_reducible refine Kd.C_alloc ?_ _) | (with_reducible refine Kd.C_drewN ?_ _) | (with_reducible refine Kd.C_drew ?_))); (case side2 => exact HC0.out); rintro e w9 ⟨v346, rfl, ho0, hb⟩; refine ⟨_, rfl, ?_⟩; have n0_ := Aside0.mk (Kd.R_elder' (by (with_reducible repeat (first | apply Kd.R_alloc | apply Kd.R_drewN | apply Kd.R_drew)); exact HO342.out) (Kd.R_base ho0) hb); have n1_ := Aside0.mk (Kd.R_lower (Kd.R_new' ho0 (Kd.R_lt (by (with_reducible repeat (first | apply Kd.R_alloc | apply Kd.R_drewN | apply Kd.R_drew)); exact HO342.out))) (below_size (by repeat (first | (with_reducible first | exact HB.out | apply below_alloc | apply pw_below_drewN | apply below_drew1) | exact HB.out)))); have n2_ := Aside0.mk (below_step (by repeat (first | (with_reducible first | exact HB.out | apply below_alloc | apply pw_below_drewN | apply below_drew1) | exact HB.out)) hb); clear HO342; clear HB; have HO342 := n0_; have HO347 := n1_; have HB := n2_; clear n0_ n1_ n2_; (try clear hb); (try clear hb2); (try clear hk); (try clear hi); (try clear ho0); obtain ⟨Ao10, co10, eo10⟩ := Kd.R_slice HO342.out; subst eo10; obtain ⟨Ao11, co11, eo11⟩ := Kd.R_slice HO347.out; subst eo11) | ((with_reducible refine gate_callee (f := 16) rfl ?_); refine goesL_ (some 19) rfl rfl Tryz.func16 (by kernel_rfl) rfl #[.slice Ao10 t340.length co10, .slice Ao11 t344.length co11] rfl (by (try simp only [List.map_toArray, List.map_cons, List.map_nil]); first | done | rfl | (simp only [List.length_drop, List.length_take]; rfl)) ?_; (with_reducible refine (barscanlaw14_same.calls k _ _ t340 _ _ t344 true _ ?side1 ?side2 ?side3 ?side4 A4.out).mono ?_); (case side1 => repeat (first | exact (Kd.R_reads' HO342.out).2.2 | (with_reducible refine Kd.C_alloc ?_ _) | (with_reducible refine Kd.C_drewN ?_ _) | (with_reducible refine Kd.C_drew ?_))); (case side2 => exact (Kd.R_reads' HO342.out).2.1); (case side3 => repeat (first | exact (Kd.R_reads' HO347.out).2.2 | (with_reducible refine Kd.C_alloc ?_ _) | (with_reducible refine Kd.C_drewN ?_ _) | (with_reducible refine Kd.C_drew ?_))); (case side4 => exact (Kd.R_reads' HO347.out).2.1); rintro e w' ⟨rfl, ⟨nd, rfl⟩⟩; refine ⟨_, rfl, ?_⟩) | (go_at_call 11; (with_reducible refine (barscanlaw14_examples.calls k  t349 _ ?side1 A7.out).mono ?_); (case side1 => exact Tabs.below HT.out (by repeat (first | (with_reducible first | exact HB.out | apply below_alloc | apply pw_below_drewN | apply below_drew1) | exact HB.out))); rintro e w12 ⟨rfl, hb⟩; have n0_ := Aside0.mk (Kd.R_below (by (with_reducible repeat (first | apply Kd.R_alloc | apply Kd.R_drewN | apply Kd.R_drew)); exact HO342.out) hb); have n1_ := Aside0.mk (Kd.R_below (by (with_reducible repeat (first | apply Kd.R_alloc | apply Kd.R_drewN | apply Kd.R_drew)); exact HO347.out) hb); have n2_ := Aside0.mk (below_step (by repeat (first | (with_reducible first | exact HB.out | apply below_alloc | apply pw_below_drewN | apply below_drew1) | exact HB.out)) hb); clear HO342; clear HO347; clear HB; have HO342 := n0_; have HO347 := n1_; have HB := n2_; clear n0_ n1_ n2_; (try clear hb); (try clear hb2); (try clear hk); (try clear hi)))
   go_ret
   exact ⟨by first | rfl | (simp [errW_none, errW_some] <;> rfl) | (simp [*, errW_none, errW_some] <;> rfl), by repeat (first | (with_reducible first | exact HB.out | apply below_alloc | apply pw_below_drewN | apply below_drew1) | exact HB.out)⟩
  ·rw [if_neg c6] at H
   have c6b0 : (t343 == t345) = false := beq_eq_false_iff_ne.mpr c6
   have c6b1 : (t343 != t345) = true := bne_iff_ne.mpr c6
   obtain rfl := Option.some.inj H
   go_enter Tryz.func6, Tryz.ntmps6
   go_wp2_with (first | ((with_reducible refine gate_callee (f := 20) rfl ?_); refine goesL_ (some 9) rfl rfl Tryz.func20 (by kernel_rfl) rfl #[.slice A0 l0.length c0] rfl (by (try simp only [List.map_toArray, List.map_cons, List.map_nil]); first | done | rfl | (simp only [List.length_drop, List.length_take]; rfl)) ?_; (with_reducible refine (gs1_FromChars.calls k (fun k_ => k_ < w.heap.size) _ _ l0 t340 t343 _ ?side2 ?side1 A2.out).mono ?_); (case side1 => exact Kd.V_mk HC0.out (Kd.F_below (Kd.C_F (Kd.heap_int .i64) HR0.out) (by repeat (first | (with_reducible first | exact HB.out | apply below_alloc | apply pw_below_drewN | apply below_drew1) | exact HB.out)))); (case side2 => exact Tabs.below HT.out (by repeat (first | (with_reducible first | exact HB.out | apply below_alloc | apply pw_below_drewN | apply below_drew1) | exact HB.out))); rintro e w13 ⟨v341, rfl, ho0, hb⟩; refine ⟨_, rfl, ?_⟩; have n0_ := Aside0.mk (Kd.R_lower (Kd.R_mono (ok' := fun k_ => True) ho0 (fun _ hk_ => trivial)) (below_size (by repeat (first | (with_reducible first | exact HB.out | apply below_alloc | apply pw_below_drewN | apply below_drew1) | exact HB.out)))); have n1_ := Aside0.mk (below_step (by repeat (first | (with_reducible first | exact HB.out | apply below_alloc | apply pw_below_drewN | apply below_drew1) | exact HB.out)) hb); clear HB; have HO342 := n0_; have HB := n1_; clear n0_ n1_; (try clear hb); (try clear hb2); (try clear hk); (try clear hi); (try clear ho0)) | ((with_reducible refine gate_callee (f := 21) rfl ?_); refine goesL_ (some 14) rfl rfl Tryz.func21 (by kernel_rfl) rfl #[.slice A0 l0.length c0] rfl (by (try simp only [List.map_toArray, List.map_cons, List.map_nil]); first | done | rfl | (simp only [List.length_drop, List.length_take]; rfl)) ?_; (with_reducible refine (barscanref14_FromChars.calls k _ _ l0 t344 t345 _ ?side1 ?side2 A3.out).mono ?_); (case side1 => repeat (first | exact (Kd.C_below HR0.out HB.out) | (with_reducible refine Kd.C_alloc ?_ _) | (with_reducible refine Kd.C_drewN ?_ _) | (with_reducible refine Kd.C_drew ?_))); (case side2 => exact HC0.out); rintro e w14 ⟨v346, rfl, ho0, hb⟩; refine ⟨_, rfl, ?_⟩; have n0_ := Aside0.mk (Kd.R_elder' (by (with_reducible repeat (first | apply Kd.R_alloc | apply Kd.R_drewN | apply Kd.R_drew)); exact HO342.out) (Kd.R_base ho0) hb); have n1_ := Aside0.mk (Kd.R_lower (Kd.R_new' ho0 (Kd.R_lt (by (with_reducible repeat (first | apply Kd.R_alloc | apply Kd.R_drewN | apply Kd.R_drew)); exact HO342.out))) (below_size (by repeat (first | (with_reducible first | exact HB.out | apply below_alloc | apply pw_below_drewN | apply below_drew1) | exact HB.out)))); have n2_ := Aside0.mk (below_step (by repeat (first | (with_reducible first | exact HB.out | apply below_alloc | apply pw_below_drewN | apply below_drew1) | exact HB.out)) hb); clear HO342; clear HB; have HO342 := n0_; have HO347 := n1_; have HB := n2_; clear n0_ n1_ n2_; (try clear hb); (try clear hb2); (try clear hk); (try clear hi); (try clear ho0); obtain ⟨Ao15, co15, eo15⟩ := Kd.R_slice HO342.out; subst eo15; obtain ⟨Ao16, co16, eo16⟩ := Kd.R_slice HO347.out; subst eo16) | ((with_reducible refine gate_callee (f := 16) rfl ?_); refine goesL_ (some 19) rfl rfl Tryz.func16 (by kernel_rfl) rfl #[.slice Ao15 t340.length co15, .slice Ao16 t344.length co16] rfl (by (try simp only [List.map_toArray, List.map_cons, List.map_nil]); first | done | rfl | (simp only [List.length_drop, List.length_take]; rfl)) ?_; (with_reducible refine (barscanlaw14_same.calls k _ _ t340 _ _ t344 true _ ?side1 ?side2 ?side3 ?side4 A4.out).mono ?_); (case side1 => repeat (first | exact (Kd.R_reads' HO342.out).2.2 | (with_reducible refine Kd.C_alloc ?_ _) | (with_reducible refine Kd.C_drewN ?_ _) | (with_reducible refine Kd.C_drew ?_))); (case side2 => exact (Kd.R_reads' HO342.out).2.1); (case side3 => repeat (first | exact (Kd.R_reads' HO347.out).2.2 | (with_reducible refine Kd.C_alloc ?_ _) | (with_reducible refine Kd.C_drewN ?_ _) | (with_reducible refine Kd.C_drew ?_))); (case side4 => exact (Kd.R_reads' HO347.out).2.1); rintro e w' ⟨rfl, ⟨nd, rfl⟩⟩; refine ⟨_, rfl, ?_⟩))
   go_ret
   exact ⟨by first | rfl | (simp [errW_none, errW_some] <;> rfl) | (simp [*, errW_none, errW_some] <;> rfl), by repeat (first | (with_reducible first | exact HB.out | apply below_alloc | apply pw_below_drewN | apply below_drew1) | exact HB.out)⟩
 ·replace c5 := Bool.eq_false_iff.mpr c5
  subst c5
  have H1 : (some false) = some r := by rw [if_neg (show ¬ (false = true) by decide)] at H; exact H
  clear H
  have H := H1
  clear H1
  obtain rfl := Option.some.inj H
  go_enter Tryz.func6, Tryz.ntmps6
  go_wp2_with (first | ((with_reducible refine gate_callee (f := 20) rfl ?_); refine goesL_ (some 9) rfl rfl Tryz.func20 (by kernel_rfl) rfl #[.slice A0 l0.length c0] rfl (by (try simp only [List.map_toArray, List.map_cons, List.map_nil]); first | done | rfl | (simp only [List.length_drop, List.length_take]; rfl)) ?_; (with_reducible refine (gs1_FromChars.calls k (fun k_ => k_ < w.heap.size) _ _ l0 t340 t343 _ ?side2 ?side1 A2.out).mono ?_); (case side1 => exact Kd.V_mk HC0.out (Kd.F_below (Kd.C_F (Kd.heap_int .i64) HR0.out) (by repeat (first | (with_reducible first | exact HB.out | apply below_alloc | apply pw_below_drewN | apply below_drew1) | exact HB.out)))); (case side2 => exact Tabs.below HT.out (by repeat (first | (with_reducible first | exact HB.out | apply below_alloc | apply pw_below_drewN | apply below_drew1) | exact HB.out))); rintro e w17 ⟨v341, rfl, ho0, hb⟩; refine ⟨_, rfl, ?_⟩; have n0_ := Aside0.mk (Kd.R_lower (Kd.R_mono (ok' := fun k_ => True) ho0 (fun _ hk_ => trivial)) (below_size (by repeat (first | (with_reducible first | exact HB.out | apply below_alloc | apply pw_below_drewN | apply below_drew1) | exact HB.out)))); have n1_ := Aside0.mk (below_step (by repeat (first | (with_reducible first | exact HB.out | apply below_alloc | apply pw_below_drewN | apply below_drew1) | exact HB.out)) hb); clear HB; have HO342 := n0_; have HB := n1_; clear n0_ n1_; (try clear hb); (try clear hb2); (try clear hk); (try clear hi); (try clear ho0)) | ((with_reducible refine gate_callee (f := 21) rfl ?_); refine goesL_ (some 14) rfl rfl Tryz.func21 (by kernel_rfl) rfl #[.slice A0 l0.length c0] rfl (by (try simp only [List.map_toArray, List.map_cons, List.map_nil]); first | done | rfl | (simp only [List.length_drop, List.length_take]; rfl)) ?_; (with_reducible refine (barscanref14_FromChars.calls k _ _ l0 t344 t345 _ ?side1 ?side2 A3.out).mono ?_); (case side1 => repeat (first | exact (Kd.C_below HR0.out HB.out) | (with_reducible refine Kd.C_alloc ?_ _) | (with_reducible refine Kd.C_drewN ?_ _) | (with_reducible refine Kd.C_drew ?_))); (case side2 => exact HC0.out); rintro e w18 ⟨v346, rfl, ho0, hb⟩; refine ⟨_, rfl, ?_⟩; have n0_ := Aside0.mk (Kd.R_elder' (by (with_reducible repeat (first | apply Kd.R_alloc | apply Kd.R_drewN | apply Kd.R_drew)); exact HO342.out) (Kd.R_base ho0) hb); have n1_ := Aside0.mk (Kd.R_lower (Kd.R_new' ho0 (Kd.R_lt (by (with_reducible repeat (first | apply Kd.R_alloc | apply Kd.R_drewN | apply Kd.R_drew)); exact HO342.out))) (below_size (by repeat (first | (with_reducible first | exact HB.out | apply below_alloc | apply pw_below_drewN | apply below_drew1) | exact HB.out)))); have n2_ := Aside0.mk (below_step (by repeat (first | (with_reducible first | exact HB.out | apply below_alloc | apply pw_below_drewN | apply below_drew1) | exact HB.out)) hb); clear HO342; clear HB; have HO342 := n0_; have HO347 := n1_; have HB := n2_; clear n0_ n1_ n2_; (try clear hb); (try clear hb2); (try clear hk); (try clear hi); (try clear ho0); obtain ⟨Ao19, co19, eo19⟩ := Kd.R_slice HO342.out; subst eo19; obtain ⟨Ao20, co20, eo20⟩ := Kd.R_slice HO347.out; subst eo20) | ((with_reducible refine gate_callee (f := 16) rfl ?_); refine goesL_ (some 19) rfl rfl Tryz.func16 (by kernel_rfl) rfl #[.slice Ao19 t340.length co19, .slice Ao20 t344.length co20] rfl (by (try simp only [List.map_toArray, List.map_cons, List.map_nil]); first | done | rfl | (simp only [List.length_drop, List.length_take]; rfl)) ?_; (with_reducible refine (barscanlaw14_same.calls k _ _ t340 _ _ t344 false _ ?side1 ?side2 ?side3 ?side4 A4.out).mono ?_); (case side1 => repeat (first | exact (Kd.R_reads' HO342.out).2.2 | (with_reducible refine Kd.C_alloc ?_ _) | (with_reducible refine Kd.C_drewN ?_ _) | (with_reducible refine Kd.C_drew ?_))); (case side2 => exact (Kd.R_reads' HO342.out).2.1); (case side3 => repeat (first | exact (Kd.R_reads' HO347.out).2.2 | (with_reducible refine Kd.C_alloc ?_ _) | (with_reducible refine Kd.C_drewN ?_ _) | (with_reducible refine Kd.C_drew ?_))); (case side4 => exact (Kd.R_reads' HO347.out).2.1); rintro e w' ⟨rfl, ⟨nd, rfl⟩⟩; refine ⟨_, rfl, ?_⟩))
  go_ret
  exact ⟨by first | rfl | (simp [errW_none, errW_some] <;> rfl) | (simp [*, errW_none, errW_some] <;> rfl), by repeat (first | (with_reducible first | exact HB.out | apply below_alloc | apply pw_below_drewN | apply below_drew1) | exact HB.out)⟩

end Go.Proofs.YtghlbdemlmbijaaGreatDoor.Q

/- The plain law Gs1Reads. -/
namespace Go.Proofs.YtghlbdemlmbijaaGreatDoor.Q
open Go.RowKit Go.Proofs.YtghlbdemlmbijaaGreatDoorW.PrintWords Go.Proofs.YtghlbdemlmbijaaGreatDoorW.PrintLast Go.Proofs.YtghlbdemlmbijaaGreatDoorW.PrintMore
theorem reads_ev (C : List Int) : ∃ K, barscanlaw14_Gs1Reads.f K C = some true := by
  have h : Ev (fun k => barscanlaw14_Gs1Reads.f k C) true := by
    unfold barscanlaw14_Gs1Reads.f
    refine Ev.bind (gfc_ev C) (Ev.bind (rfc_ev C) (Ev.bind (a := true) ?_ (Ev.pos rfl (Ev.pos rfl (Ev.bind ⟨60, examples_at⟩ (Ev.const rfl))))))
    unfold barscanlaw14_same.f
    have := fcS_len C
    exact Ev.bind (same_ev _ (by omega)) (Ev.const rfl)
  exact h.get
end Go.Proofs.YtghlbdemlmbijaaGreatDoor.Q

/- The law Gs1Reads: its row and its card, where what it reads is of bulk at most 1048576. -/
namespace Go.Proofs.YtghlbdemlmbijaaGreatDoor.gs1Reads
open Go.ChangeShapes Go.WideShapes Go.ChangeAt Go.RowKit
open Go.ChangeMaps (open_string shut_string)
set_option linter.unusedVariables false
set_option maxRecDepth 2000000 in
/-- WHAT THE WALK GIVES. -/
theorem contract (H : Type) (enc : TypeId × Value → H) (W : World) (base : Nat) (args : Array Value) (ds gs : List (DataW H)) (before : List MemPlace)
    (hval : ∀ (j : Nat) t v, Tryz.f6.params[j]? = some t → args[j]? = some v → Value.okWide Tryz.prog W .any base t v)
    (hW : DataW.Whole enc Tryz.prog Tryz.f6.params.toList Rows.gs1ReadsSpec.vars false W args.toList ds gs before) (hk : Rows.uptoSmall H (ds ++ gs) = true) (hL : laidMetH Tryz.prog Rows.gs1ReadsRow.laid W) :
    Calls Tryz.prog 6 args W fun e W' => ∃ v, e = .returned v ∧ Rows.gs1ReadsSpec.post enc Tryz.prog Tryz.f6 false true false false W args v W' := by
  have hW' := hW
  obtain ⟨p, q, hA0, hV, rfl, hfz, hnd⟩ := hW
  have hA : DataW.TrodAll enc Tryz.prog W 0 (fun _ => true) true Tryz.f6.params.toList args.toList ds p := hA0
  rw [Tryz.params6] at hA hval
  obtain ⟨v0, vs0, d0, ds0, p0, q0, hargs, rfl, rfl, h0, r0⟩ := trodAll_cons hA
  obtain ⟨rfl, rfl, rfl⟩ := trodAll_nil r0
  obtain rfl : args = #[v0] := by cases args; simp_all
  obtain ⟨rfl, rfl⟩ := trodVars_none hV
  have k0 := h0
  obtain ⟨u0, len0, cap0, rfl⟩ := okWide_slice Tryz.underlying37 (hval 0 37 v0 rfl rfl)
  have lt0 : ∀ x ∈ p0, x.block < W.heap.size := by obtain ⟨m, hm⟩ := k0; exact DataW.trod_lt m _ _ _ hm
  obtain ⟨fuel, hf⟩ := h0
  obtain ⟨A, l, c, hv, hlc, hC⟩ : ∃ (A : Option Addr) (l : List Int) (c : Nat), Value.slice u0 len0 cap0 = .slice A l.length c ∧ l.length ≤ c ∧ Go.Proofs.YtghlbdemlmbijaaGreatDoorW.PrintWords.Kd.C (Go.Proofs.YtghlbdemlmbijaaGreatDoorW.PrintWords.Kd.int .i64) W A l.length l := by
    rcases open_ints Tryz.underlying37 Tryz.underlying3 (by kernel_rfl) hf with ⟨hcs, _⟩ | ⟨a, len, cap, zs, hcs, _, hl, hm, hz, _, hcell, _⟩
    · have e : Value.slice u0 len0 cap0 = .slice none 0 0 := (List.cons.inj (show [Value.slice u0 len0 cap0] = [Value.slice none 0 0] from hcs)).1
      exact ⟨none, [], 0, e, Nat.le_refl _, rfl, by simp, fun h => absurd h (Nat.lt_irrefl 0)⟩
    · have e : Value.slice u0 len0 cap0 = .slice (some a) len cap := (List.cons.inj (show [Value.slice u0 len0 cap0] = [Value.slice (some a) len cap] from hcs)).1
      have hzl : len ≤ zs.length := by rw [hz]; split <;> omega
      have hlen : (zs.take len).length = len := by rw [List.length_take]; omega
      refine ⟨some a, zs.take len, cap, by rw [hlen]; exact e, by rw [hlen]; exact hl, rfl, by rw [hlen]; exact Nat.le_trans hl hm, fun _ => ⟨a, rfl, fun j p hp => ⟨[.int .i64 p], rfl, rfl, fun i u hu => ?_⟩⟩⟩
      have hj : j < len := by have := (List.getElem?_eq_some_iff.1 hp).1; omega
      rw [List.getElem?_take_of_lt hj] at hp
      match i, hu with
      | 0, hu =>
        obtain rfl := Option.some.inj hu
        have h3 := hcell j (by omega)
        rw [List.getD_eq_getElem?_getD, hp] at h3
        show W.cell? (a.add (j * 1 + 0)) = _
        rw [Nat.mul_one, Nat.add_zero]
        exact h3
  clear hA0
  obtain ⟨K, hK⟩ := Q.reads_ev l
  have walk := Q.barscanlaw14_Gs1Reads.calls K A c l true W (Wit.tabs hL) hC hlc hK
  rw [← hv] at walk
  refine walk.mono fun e W' ⟨he, hg⟩ => ?_
  subst he
  exact ⟨_, rfl, _, _, _, [], _, [], hW', trodAll_mk1 (shut_bool Tryz.underlying4 _), (trodAll_cons_mk (Below.trod Els.laidOut (by kernel_rfl) (of_decide_eq_true (by kernel_rfl)) k0 hg lt0) trodAll_mk0), rfl, hg.frame _, fun h => by cases h⟩
theorem reads (os : Os) {H : Type} (enc : TypeId × Value → H) : ∃ places, DataW.whole enc Tryz.prog ((Wit.laidWorld os).forCall (fun _ _ => 0) ⟨#[], #[.slice none 0 0], []⟩).memory Tryz.f6.params.toList Rows.gs1ReadsSpec.vars false #[Value.slice none 0 0].toList 8 = some ([.nil], [], places) :=
  ⟨[], by kernel_rfl⟩
set_option maxRecDepth 100000 in
theorem liftedUpto (os : Os) (started : os.Started) (H : Type) (enc : TypeId × Value → H) (F : Stop.Interp) :
    ReturnsInHanded {} Tryz.checked os 6 .any ((Rows.OpenSpec.upto Rows.gs1ReadsSpec).preRow enc Tryz.prog Tryz.f6 Rows.gs1ReadsUptoRow.domain false Rows.gs1ReadsUptoRow.laid) (((Rows.OpenSpec.upto Rows.gs1ReadsSpec).at F).post enc Tryz.prog Tryz.f6 false true false false) := by
  obtain ⟨places, hx⟩ := reads os enc
  refine returnsInHanded_of_row (C := Tryz.checked) (s := Rows.OpenSpec.upto Rows.gs1ReadsSpec) Wit.own started (by kernel_rfl) Tryz.func6
    (witness_row_atRef (enc := enc) (C := Tryz.checked) false (Wit.laidWorld os) #[.slice none 0 0] rfl (by kernel_rfl) (by kernel_rfl) (by kernel_rfl)
      (OpenSpec.preRow_of_cond 8 hx (by kernel_rfl) (fun k hk => by cases hk; kernel_rfl) (by kernel_rfl) (Wit.laid_met os _))) ?_
  intro W base args ds gs before hval hW _ hcond _ hL _ _
  exact contract H enc W base args ds gs before hval hW (hcond _ rfl) hL
theorem saidUpto : Rows.Gs1ReadsUptoSaid :=
  OpenClaim.holds_of_cond 6 Tryz.f6 rfl rfl rfl rfl rfl rfl rfl ⟨rfl, rfl, rfl, rfl, rfl⟩ rfl rfl rfl rfl rfl (by kernel_rfl) Tryz.func6 (by kernel_rfl)
    (of_decide_eq_true (by kernel_rfl)) (by unfold Func.isWrapper; first | (rw [if_pos (by decide +kernel)]; kernel_rfl) | (rw [if_neg (by decide +kernel)]; exact ⟨rfl, rfl⟩))
    (fun os started H enc _ F => by rw [OpenClaim.pre_eq_preRow]; exact liftedUpto os started H enc F)
theorem plain (f : FuncId) (fn : Func) (hf : Tryz.pinned.checked.prog.funcNamed "barscan/barscanlaw14.Gs1Reads" = some f) (hfn : Tryz.pinned.checked.prog.funcs[f]? = some fn) :
    false = Tryz.pinned.checked.prog.looks [] ∧ ∀ (j : Nat) t, fn.params[j]? = some t → Tryz.pinned.checked.prog.wantsStandIn t = false := by
  obtain rfl : f = 6 := Option.some.inj ((show Tryz.prog.funcNamed "barscan/barscanlaw14.Gs1Reads" = some 6 by kernel_rfl).symm.trans hf) |>.symm
  obtain rfl : fn = Tryz.f6 := (Option.some.inj (Tryz.func6.symm.trans hfn)).symm
  refine ⟨by kernel_rfl, fun j t ht => ?_⟩
  rw [Tryz.params6] at ht
  obtain rfl : t = 37 := by simpa using Array.mem_of_getElem? ht
  exact (show Tryz.prog.wantsStandIn 37 = false by kernel_rfl)
/-- THE CARD. -/
theorem cardUpto : Rows.Gs1ReadsUptoCardSaid :=
  Claim7.holds_tied_plain_at .later [] _ _ _ _ saidUpto (fun _ h => by cases h) (by kernel_rfl) (fun _ h => by cases h) gs1ReadsUpto_row_tie rfl ⟨rfl, rfl⟩ (by kernel_rfl) rfl plain (by kernel_rfl)
end Go.Proofs.YtghlbdemlmbijaaGreatDoor.gs1Reads
