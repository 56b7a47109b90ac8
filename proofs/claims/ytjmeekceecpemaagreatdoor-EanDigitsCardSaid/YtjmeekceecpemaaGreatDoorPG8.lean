/- Joined by a program of this work (pack.py) out of the texts Qbarscanref11modules, Qbarscanref11table, Qbarscanref11Digits, Qbarscanlaw11EanDigits, LawsG of this seat, in build order. -/
import Derived.Test.YtjmeekceecpemaaGreatDoorPG7
namespace Go.Proofs.YtjmeekceecpemaaGreatDoor.Q
open Go.RowKit Go.Proofs.YtjmeekceecpemaaGreatDoorW.PrintWords Go.Proofs.YtjmeekceecpemaaGreatDoorW.PrintLast Go.Proofs.YtjmeekceecpemaaGreatDoorW.PrintMore

set_option linter.unusedVariables false
set_option linter.unusedSimpArgs false

/-! ### barscanref11_modules: function 67 -/
def barscanref11_modules.l0 : Nat → ByteArray → List Bool → Int → Option (List Bool)
  | 0, _, _, _ => none
  | k + 1, x0, x3, x4 => if x4 < (x0.size : Int) then (if 0 ≤ x4 then (if x3.length < 140737488355328 then (barscanref11_modules.l0 k x0 (x3 ++ [((bt x0 x4) == 49)]) (wrap64 (x4 + 1))) else (none)) else (none)) else (some x3)
def barscanref11_modules.f (k : Nat) (a0 : ByteArray) : Option (List Bool) := barscanref11_modules.l0 k a0 ([] : List Bool) 0
theorem barscanref11_modules.mono_l : ∀ k, (∀ y0 y1 y2, LeO (barscanref11_modules.l0 k y0 y1 y2) (barscanref11_modules.l0 (k + 1) y0 y1 y2))
  | 0 => fun _ _ _ r h => by simp [barscanref11_modules.l0] at h
  | k + 1 => by
    have ih0 := barscanref11_modules.mono_l k
    · intro y0 y1 y2
      unfold barscanref11_modules.l0
      repeat' first
      | (with_reducible exact ih0 _ _ _)
      | (with_reducible exact LeO.refl _)
      | (with_reducible exact LeO.none _)
      | (with_reducible refine LeO.ite ?_ ?_)
      | (with_reducible refine LeO.bind ?_ (fun _ => ?_))
      | exact ih0 _ _ _
      | exact LeO.none _
      | refine LeO.ite ?_ ?_
      | refine LeO.bind ?_ (fun _ => ?_)
theorem barscanref11_modules.mono : ∀ a0 k, LeO (barscanref11_modules.f k a0) (barscanref11_modules.f (k + 1) a0) := by
  intro a0 k
  have ih0 := barscanref11_modules.mono_l k
  unfold barscanref11_modules.f
  repeat' first
      | (with_reducible exact ih0 _ _ _)
      | (with_reducible exact LeO.refl _)
      | (with_reducible exact LeO.none _)
      | (with_reducible refine LeO.ite ?_ ?_)
      | (with_reducible refine LeO.bind ?_ (fun _ => ?_))
      | exact ih0 _ _ _
      | exact LeO.none _
      | refine LeO.ite ?_ ?_
      | refine LeO.bind ?_ (fun _ => ?_)
set_option maxHeartbeats 8000000 in
set_option maxRecDepth 100000 in
theorem barscanref11_modules.calls (k : Nat) (a0 : ByteArray) (r : List Bool) (w : World) (h : barscanref11_modules.f k a0 = some r) :
    Calls Tryz.prog 67 #[.string a0] w fun e w' => ∃ v0_ : Value, e = .returned (v0_) ∧ Kd.R Kd.bool 4 w' w.heap.size (fun _ => True) v0_ r ∧ Below w.heap.size w w' := by
  have HB := Aside0.mk (Below.refl w.heap.size w)
  have H : (barscanref11_modules.l0 k a0 ([] : List Bool) 0) = some r := h
  clear h
  have H' := Aside0.mk H
  clear H
  go_enter Tryz.func67, Tryz.ntmps67
  go_wp2
  go_loopg [3, 4] k (fun kq v3 v4 w' => ∃ (x3_1 : List Bool) (x4_1 : Int), v4 = .int .i64 x4_1 ∧ Aside0 (barscanref11_modules.l0 kq a0 x3_1 x4_1 = some r) ∧ Aside0 (kq ≤ k) ∧ Aside0 (Kd.R Kd.bool 4 w' w.heap.size (fun _ => True) v3 x3_1) ∧ Aside0 (Below w.heap.size w w'))
  case atStart => exact ⟨(([] : List Bool)), (0), (by first | rfl | (simp; done) | (simp [*]; done)), H', ⟨Nat.le_refl _⟩, ⟨by first | exact Kd.R_nil _ _ _ _ _ | exact Kd.N_nil _ _ _ _ _ | exact Kd.V_nil _ _ _ _ _ | exact Kd.Q_nil _ _ _ _ _ | exact Kd.S_nil _ _ _ _ _⟩, ⟨by repeat (first | (with_reducible first | exact HB.out | apply below_alloc | apply pw_below_drewN | apply below_drew1) | exact HB.out)⟩⟩
  case round =>
    clear H'
    obtain ⟨x3_1, x4_1, rfl, HA, HK1, HO_3, HB⟩ := hrel
    cases gk with
    | zero => exact absurd HA.out (by simp [barscanref11_modules.l0])
    | succ k1 =>
      have H := HA.out
      clear HA
      simp only [barscanref11_modules.l0] at H
      by_cases c2 : x4_1 < (a0.size : Int)
      · rw [if_pos c2] at H
        have c2b0 : decide (x4_1 < (a0.size : Int)) = true := decide_eq_true c2
        clear c2
        by_cases c3 : 0 ≤ x4_1
        · rw [if_pos c3] at H
          have c3b0 : decide (0 ≤ x4_1) = true := decide_eq_true c3
          clear c3
          by_cases c5 : x3_1.length < 140737488355328
          · rw [if_pos c5] at H
            have LMc5 := Aside0.mk c5
            clear c5
            obtain ⟨y206, hy206⟩ : ∃ y_ : List Bool, y_ = (x3_1 ++ [((bt a0 x4_1) == 49)]) := ⟨_, rfl⟩
            replace H : (barscanref11_modules.l0 k1 a0 y206 (wrap64 (x4_1 + 1))) = some r := by first | (rw [hy206]; with_reducible exact H) | (have H2_ := (Option.bind_some _ _).symm.trans H; rw [hy206]; with_reducible exact H2_) | (have H2_ := (Option.bind_some _ _).symm.trans H; with_reducible exact H2_) | with_reducible exact H | (rw [hy206]; exact H) | exact H
            have Ny206 := Aside0.mk hy206
            clear hy206
            have H' := Aside0.mk H
            clear H
            have p4 : 0 ≤ (x4_1 : Int) := of_decide_eq_true (by first | (with_reducible assumption) | assumption)
            have q4 : x4_1 < (a0.size : Int) := of_decide_eq_true (by first | (with_reducible assumption) | assumption)
            have hx4 := bt_at a0 x4_1
            replace p4 := eq_true p4
            replace q4 := eq_true q4
            (try (have h_ := of_eq_true q4; simp only [ByteArray.size_append, ByteArray.size_extract, Nat.min_self, Int.toNat_natCast, Nat.sub_zero, Int.natCast_add, size_lit, List.length_cons, List.length_nil, Nat.zero_add, Nat.reduceAdd, Int.natCast_one, Int.cast_ofNat_Int] at h_; have q4s := eq_true h_; clear h_))
            go_wp2_with (first | ((with_reducible refine gate_builtin (b := .append) (xs := #[.tmp 11, .tmp 16]) rfl ?_); at_builtin; refine Kd.R_append Kd.bool (w0 := w) w.heap.size rfl (.tmp 11) (.tmp 16) 23 4 (.bool false) 1 rfl Tryz.underlying23 info4 rfl (by decide) (by omega) u3 x3_1 ((bt a0 x4_1) == 49) [.bool ((bt a0 x4_1) == 49)] (fun _ => True) (fun _ => False) rfl rfl ?aP (fun _ hk => hk.elim) ?aF ?aO ?aB ?aS ?aL ?_; (case aP => exact rfl); (case aB => exact (by repeat (first | (with_reducible first | exact HB.out | apply below_alloc | apply pw_below_drewN | apply below_drew1) | exact HB.out))); (case aF => exact (fun _ _ => trivial)); (case aO => exact (by (with_reducible repeat (first | apply Kd.R_alloc | apply Kd.R_drewN | apply Kd.R_drew)); exact HO_3.out)); (case aS => exact (below_size (by repeat (first | (with_reducible first | exact HB.out | apply below_alloc | apply pw_below_drewN | apply below_drew1) | exact HB.out)))); (case aL => have := LMc5.out; omega); intro v207 w6 ho hb hg hat; rw [← Ny206.out] at ho; have n0_ := Aside0.mk (hb); have n1_ := Aside0.mk (ho); clear HB; clear HO_3; have HB := n0_; have HO208 := n1_; clear n0_ n1_; clear ho hb hg hat))
            go_roundg k1
            case measure => have := HK1.out; omega
            case rel => exact ⟨(y206), (wrap64 (x4_1 + 1)), (by first | rfl | (simp; done) | (simp [*]; done)), H', ⟨by have := HK1.out; omega⟩, ⟨by (with_reducible repeat (first | apply Kd.R_alloc | apply Kd.R_drewN | apply Kd.R_drew)); exact HO208.out⟩, ⟨by repeat (first | (with_reducible first | exact HB.out | apply below_alloc | apply pw_below_drewN | apply below_drew1) | exact HB.out)⟩⟩
          · rw [if_neg c5] at H
            exact absurd H (by simp)
        · rw [if_neg c3] at H
          exact absurd H (by simp)
      · rw [if_neg c2] at H
        have c2b0 : decide (x4_1 < (a0.size : Int)) = false := decide_eq_false c2
        clear c2
        obtain rfl := Option.some.inj H
        go_wp2
        go_ret
        exact ⟨_, by first | rfl | (simp [errW_none, errW_some] <;> rfl) | (simp [*, errW_none, errW_some] <;> rfl), by (with_reducible repeat (first | apply Kd.R_alloc | apply Kd.R_drewN | apply Kd.R_drew)); exact HO_3.out, by repeat (first | (with_reducible first | exact HB.out | apply below_alloc | apply pw_below_drewN | apply below_drew1) | exact HB.out)⟩

end Go.Proofs.YtjmeekceecpemaaGreatDoor.Q

namespace Go.Proofs.YtjmeekceecpemaaGreatDoor.Q
open Go.RowKit Go.Proofs.YtjmeekceecpemaaGreatDoorW.PrintWords Go.Proofs.YtjmeekceecpemaaGreatDoorW.PrintLast Go.Proofs.YtjmeekceecpemaaGreatDoorW.PrintMore

set_option linter.unusedVariables false
set_option linter.unusedSimpArgs false

/-! ### barscanref11_table: function 54 -/
def barscanref11_table.l0 : Nat → Int → List Bool → List Bool → Int → Option (List Bool)
 | 0, _, _, _, _ => none
 | k + 1, x1, x5, x6, x7 => if x7 < 7 then (if x1 = 2 then (if 0 ≤ x7 then (if x7 < (x5.length : Int) then (if x7 < (x6.length : Int) then (barscanref11_table.l0 k x1 x5 (x6.set (x7 : Int).toNat (!(rdOf false x5 x7))) (wrap64 (x7 + 1))) else (none)) else (none)) else (none)) else (if 0 ≤ (wrap64 (6 - x7)) then (if (wrap64 (6 - x7)) < (x5.length : Int) then (if 0 ≤ x7 then (if x7 < (x6.length : Int) then (barscanref11_table.l0 k x1 x5 (x6.set (x7 : Int).toNat (!(rdOf false x5 (wrap64 (6 - x7))))) (wrap64 (x7 + 1))) else (none)) else (none)) else (none)) else (none))) else (some x6)
def barscanref11_table.f (k : Nat) (a0 : Int) (a1 : Int) : Option (List Bool) := (some (([(⟨#[48, 48, 48, 49, 49, 48, 49]⟩ : ByteArray), (⟨#[48, 48, 49, 49, 48, 48, 49]⟩ : ByteArray), (⟨#[48, 48, 49, 48, 48, 49, 49]⟩ : ByteArray), (⟨#[48, 49, 49, 49, 49, 48, 49]⟩ : ByteArray), (⟨#[48, 49, 48, 48, 48, 49, 49]⟩ : ByteArray), (⟨#[48, 49, 49, 48, 48, 48, 49]⟩ : ByteArray), (⟨#[48, 49, 48, 49, 49, 49, 49]⟩ : ByteArray), (⟨#[48, 49, 49, 49, 48, 49, 49]⟩ : ByteArray), (⟨#[48, 49, 49, 48, 49, 49, 49]⟩ : ByteArray), (⟨#[48, 48, 48, 49, 48, 49, 49]⟩ : ByteArray)] : List ByteArray) : List ByteArray)).bind fun y209 => (if 0 ≤ a0 then (if a0 < (y209.length : Int) then ((barscanref11_modules.f k (rdOf ByteArray.empty y209 a0)).bind fun t213 => (if a1 = 0 then (some t213) else (if 7 ≤ 281474976710656 then (barscanref11_table.l0 k a1 t213 (List.replicate 7 false) 0) else (none)))) else (none)) else (none))
theorem barscanref11_table.mono_l : ∀ k, (∀ y0 y1 y2 y3, LeO (barscanref11_table.l0 k y0 y1 y2 y3) (barscanref11_table.l0 (k + 1) y0 y1 y2 y3))
 | 0 => fun _ _ _ _ r h => by simp [barscanref11_table.l0] at h
 | k + 1 => by
  have ih0 := barscanref11_table.mono_l k
  ·intro y0 y1 y2 y3
   unfold barscanref11_table.l0
   repeat' first
   | (with_reducible exact ih0 _ _ _ _)
   | (with_reducible exact barscanref11_modules.mono _ _)
   | (with_reducible exact LeO.refl _)
   | (with_reducible exact LeO.none _)
   | (with_reducible refine LeO.ite ?_ ?_)
   | (with_reducible refine LeO.bind ?_ (fun _ => ?_))
   | exact ih0 _ _ _ _
   | exact barscanref11_modules.mono _ _
   | exact LeO.none _
   | refine LeO.ite ?_ ?_
   | refine LeO.bind ?_ (fun _ => ?_)
theorem barscanref11_table.mono : ∀ a0 a1 k, LeO (barscanref11_table.f k a0 a1) (barscanref11_table.f (k + 1) a0 a1) := by
 intro a0 a1 k
 have ih0 := barscanref11_table.mono_l k
 unfold barscanref11_table.f
 repeat' first
   | (with_reducible exact ih0 _ _ _ _)
   | (with_reducible exact barscanref11_modules.mono _ _)
   | (with_reducible exact LeO.refl _)
   | (with_reducible exact LeO.none _)
   | (with_reducible refine LeO.ite ?_ ?_)
   | (with_reducible refine LeO.bind ?_ (fun _ => ?_))
   | exact ih0 _ _ _ _
   | exact barscanref11_modules.mono _ _
   | exact LeO.none _
   | refine LeO.ite ?_ ?_
   | refine LeO.bind ?_ (fun _ => ?_)
set_option maxHeartbeats 8000000 in
set_option maxRecDepth 100000 in
theorem barscanref11_table.calls (k : Nat) (a0 : Int) (a1 : Int) (r : List Bool) (w : World) (h : barscanref11_table.f k a0 a1 = some r) :
  Calls Tryz.prog 54 #[.int .i64 a0, .int .i64 a1] w fun e w' => ∃ v0_ : Value, e = .returned (v0_) ∧ Kd.R Kd.bool 4 w' w.heap.size (fun _ => True) v0_ r ∧ Below w.heap.size w w' := by
 have HB := Aside0.mk (Below.refl w.heap.size w)
 have H : ((some (([(⟨#[48, 48, 48, 49, 49, 48, 49]⟩ : ByteArray), (⟨#[48, 48, 49, 49, 48, 48, 49]⟩ : ByteArray), (⟨#[48, 48, 49, 48, 48, 49, 49]⟩ : ByteArray), (⟨#[48, 49, 49, 49, 49, 48, 49]⟩ : ByteArray), (⟨#[48, 49, 48, 48, 48, 49, 49]⟩ : ByteArray), (⟨#[48, 49, 49, 48, 48, 48, 49]⟩ : ByteArray), (⟨#[48, 49, 48, 49, 49, 49, 49]⟩ : ByteArray), (⟨#[48, 49, 49, 49, 48, 49, 49]⟩ : ByteArray), (⟨#[48, 49, 49, 48, 49, 49, 49]⟩ : ByteArray), (⟨#[48, 48, 48, 49, 48, 49, 49]⟩ : ByteArray)] : List ByteArray) : List ByteArray)).bind fun y209 => (if 0 ≤ a0 then (if a0 < (y209.length : Int) then ((barscanref11_modules.f k (rdOf ByteArray.empty y209 a0)).bind fun t213 => (if a1 = 0 then (some t213) else (if 7 ≤ 281474976710656 then (barscanref11_table.l0 k a1 t213 (List.replicate 7 false) 0) else (none)))) else (none)) else (none))) = some r := h
 clear h
 obtain ⟨y209, hy209⟩ : ∃ y_ : List ByteArray, y_ = (([(⟨#[48, 48, 48, 49, 49, 48, 49]⟩ : ByteArray), (⟨#[48, 48, 49, 49, 48, 48, 49]⟩ : ByteArray), (⟨#[48, 48, 49, 48, 48, 49, 49]⟩ : ByteArray), (⟨#[48, 49, 49, 49, 49, 48, 49]⟩ : ByteArray), (⟨#[48, 49, 48, 48, 48, 49, 49]⟩ : ByteArray), (⟨#[48, 49, 49, 48, 48, 48, 49]⟩ : ByteArray), (⟨#[48, 49, 48, 49, 49, 49, 49]⟩ : ByteArray), (⟨#[48, 49, 49, 49, 48, 49, 49]⟩ : ByteArray), (⟨#[48, 49, 49, 48, 49, 49, 49]⟩ : ByteArray), (⟨#[48, 48, 48, 49, 48, 49, 49]⟩ : ByteArray)] : List ByteArray)) := ⟨_, rfl⟩
 replace H : (if 0 ≤ a0 then (if a0 < (y209.length : Int) then ((barscanref11_modules.f k (rdOf ByteArray.empty y209 a0)).bind fun t213 => (if a1 = 0 then (some t213) else (if 7 ≤ 281474976710656 then (barscanref11_table.l0 k a1 t213 (List.replicate 7 false) 0) else (none)))) else (none)) else (none)) = some r := by first | (rw [hy209]; with_reducible exact H) | (have H2_ := (Option.bind_some _ _).symm.trans H; rw [hy209]; with_reducible exact H2_) | (have H2_ := (Option.bind_some _ _).symm.trans H; with_reducible exact H2_) | with_reducible exact H | (rw [hy209]; exact H) | exact H
 have Ny209 := Aside0.mk hy209
 clear hy209
 by_cases c3 : 0 ≤ a0
 ·rw [if_pos c3] at H
  have c3b0 : decide (0 ≤ a0) = true := decide_eq_true c3
  clear c3
  by_cases c4 : a0 < (y209.length : Int)
  ·rw [if_pos c4] at H
   have c4b0 : decide (a0 < (y209.length : Int)) = true := decide_eq_true c4
   clear c4
   replace H := Option.bind_eq_some_iff.mp H
   obtain ⟨t213, A50, H⟩ := H
   replace H : (if a1 = 0 then (some t213) else (if 7 ≤ 281474976710656 then (barscanref11_table.l0 k a1 t213 (List.replicate 7 false) 0) else (none))) = some r := H
   have A5 := Aside0.mk A50
   clear A50
   by_cases c6 : a1 = 0
   ·rw [if_pos c6] at H
    have c6b0 : (a1 == 0) = true := beq_iff_eq.mpr c6
    have c6b1 : (a1 != 0) = false := bne_eq_false_iff_eq.mpr c6
    clear c6
    obtain rfl := Option.some.inj H
    go_enter Tryz.func54, Tryz.ntmps54
    go_wp2_with (first | ((with_reducible refine gate_dst (N := 8) rfl ?_); refine Kd.R_lit Kd.string _ 9 ?hg (N := 8) ?hd (xs := ([(⟨#[48, 48, 48, 49, 49, 48, 49]⟩ : ByteArray), (⟨#[48, 48, 49, 49, 48, 48, 49]⟩ : ByteArray), (⟨#[48, 48, 49, 48, 48, 49, 49]⟩ : ByteArray), (⟨#[48, 49, 49, 49, 49, 48, 49]⟩ : ByteArray), (⟨#[48, 49, 48, 48, 48, 49, 49]⟩ : ByteArray), (⟨#[48, 49, 49, 48, 48, 48, 49]⟩ : ByteArray), (⟨#[48, 49, 48, 49, 49, 49, 49]⟩ : ByteArray), (⟨#[48, 49, 49, 49, 48, 49, 49]⟩ : ByteArray), (⟨#[48, 49, 49, 48, 49, 49, 49]⟩ : ByteArray), (⟨#[48, 48, 48, 49, 48, 49, 49]⟩ : ByteArray)] : List ByteArray)) (inner := [.string (⟨#[48, 48, 48, 49, 49, 48, 49]⟩ : ByteArray), .string (⟨#[48, 48, 49, 49, 48, 48, 49]⟩ : ByteArray), .string (⟨#[48, 48, 49, 48, 48, 49, 49]⟩ : ByteArray), .string (⟨#[48, 49, 49, 49, 49, 48, 49]⟩ : ByteArray), .string (⟨#[48, 49, 48, 48, 48, 49, 49]⟩ : ByteArray), .string (⟨#[48, 49, 49, 48, 48, 48, 49]⟩ : ByteArray), .string (⟨#[48, 49, 48, 49, 49, 49, 49]⟩ : ByteArray), .string (⟨#[48, 49, 49, 49, 48, 49, 49]⟩ : ByteArray), .string (⟨#[48, 49, 49, 48, 49, 49, 49]⟩ : ByteArray), .string (⟨#[48, 48, 48, 49, 48, 49, 49]⟩ : ByteArray)]) (ok := fun _ => True) (okp := fun _ => True) ?hr ?hp (fun _ hk => hk) trivial (Below.refl _ _) (Nat.le_refl _) (by simp) ?_; (case hd => rfl); (case hg => rfl); (case hr => first | (go_simp; done) | (go_simp; rfl)); (case hp => exact (Reps.one (show Kd.M Kd.string _ _ _ (⟨#[48, 48, 48, 49, 49, 48, 49]⟩ : ByteArray) [.string (⟨#[48, 48, 48, 49, 49, 48, 49]⟩ : ByteArray)] from rfl) (Reps.one (show Kd.M Kd.string _ _ _ (⟨#[48, 48, 49, 49, 48, 48, 49]⟩ : ByteArray) [.string (⟨#[48, 48, 49, 49, 48, 48, 49]⟩ : ByteArray)] from rfl) (Reps.one (show Kd.M Kd.string _ _ _ (⟨#[48, 48, 49, 48, 48, 49, 49]⟩ : ByteArray) [.string (⟨#[48, 48, 49, 48, 48, 49, 49]⟩ : ByteArray)] from rfl) (Reps.one (show Kd.M Kd.string _ _ _ (⟨#[48, 49, 49, 49, 49, 48, 49]⟩ : ByteArray) [.string (⟨#[48, 49, 49, 49, 49, 48, 49]⟩ : ByteArray)] from rfl) (Reps.one (show Kd.M Kd.string _ _ _ (⟨#[48, 49, 48, 48, 48, 49, 49]⟩ : ByteArray) [.string (⟨#[48, 49, 48, 48, 48, 49, 49]⟩ : ByteArray)] from rfl) (Reps.one (show Kd.M Kd.string _ _ _ (⟨#[48, 49, 49, 48, 48, 48, 49]⟩ : ByteArray) [.string (⟨#[48, 49, 49, 48, 48, 48, 49]⟩ : ByteArray)] from rfl) (Reps.one (show Kd.M Kd.string _ _ _ (⟨#[48, 49, 48, 49, 49, 49, 49]⟩ : ByteArray) [.string (⟨#[48, 49, 48, 49, 49, 49, 49]⟩ : ByteArray)] from rfl) (Reps.one (show Kd.M Kd.string _ _ _ (⟨#[48, 49, 49, 49, 48, 49, 49]⟩ : ByteArray) [.string (⟨#[48, 49, 49, 49, 48, 49, 49]⟩ : ByteArray)] from rfl) (Reps.one (show Kd.M Kd.string _ _ _ (⟨#[48, 49, 49, 48, 49, 49, 49]⟩ : ByteArray) [.string (⟨#[48, 49, 49, 48, 49, 49, 49]⟩ : ByteArray)] from rfl) (Reps.one (show Kd.M Kd.string _ _ _ (⟨#[48, 48, 48, 49, 48, 49, 49]⟩ : ByteArray) [.string (⟨#[48, 48, 48, 49, 48, 49, 49]⟩ : ByteArray)] from rfl) (Reps.none _ _)))))))))))); intro v210 w7 ho8 hb hg_ hnew_; clear hg_ hnew_; (first | rw [← Ny209.out] at ho8 | (simp only [Int.reduceToNat] at ho8; rw [← Ny209.out] at ho8)); have n0_ := Aside0.mk (Kd.R_lower ho8 (below_size (by repeat (first | (with_reducible first | exact HB.out | apply below_alloc | apply pw_below_drewN | apply below_drew1) | exact HB.out)))); have n1_ := Aside0.mk (below_step (by repeat (first | (with_reducible first | exact HB.out | apply below_alloc | apply pw_below_drewN | apply below_drew1) | exact HB.out)) hb); clear HB; have HO211 := n0_; have HB := n1_; clear n0_ n1_; clear hb ho8; obtain ⟨Ao9, co9, eo9⟩ := Kd.R_slice HO211.out; subst eo9; have p212 : 0 ≤ (a0 : Int) := of_decide_eq_true (by first | (with_reducible assumption) | assumption); have q212 : a0 < (y209.length : Int) := of_decide_eq_true (by first | (with_reducible assumption) | assumption); obtain ⟨ad212, e212, hx212_0⟩ := Kd.at_string (Kd.R_reads' HO211.out).2.2 a0 p212 q212; cases e212; replace p212 := eq_true p212; replace q212 := eq_true q212) | ((with_reducible refine gate_callee (f := 67) rfl ?_); refine goesL_ (some 12) rfl rfl Tryz.func67 (by kernel_rfl) rfl #[.string (rdOf ByteArray.empty y209 a0)] rfl (by (try simp only [List.map_toArray, List.map_cons, List.map_nil]); first | done | rfl | (simp only [List.length_drop, List.length_take]; rfl)) ?_; (with_reducible refine (barscanref11_modules.calls k (rdOf ByteArray.empty y209 a0) t213 _ A5.out).mono ?_); rintro e w10 ⟨v214, rfl, ho0, hb⟩; refine ⟨_, rfl, ?_⟩; have n0_ := Aside0.mk (Kd.R_below (by (with_reducible repeat (first | apply Kd.R_alloc | apply Kd.R_drewN | apply Kd.R_drew)); exact HO211.out) hb); have n1_ := Aside0.mk (Kd.R_lower ho0 (below_size (by repeat (first | (with_reducible first | exact HB.out | apply below_alloc | apply pw_below_drewN | apply below_drew1) | exact HB.out)))); have n2_ := Aside0.mk (below_step (by repeat (first | (with_reducible first | exact HB.out | apply below_alloc | apply pw_below_drewN | apply below_drew1) | exact HB.out)) hb); clear HO211; clear HB; have HO211 := n0_; have HO215 := n1_; have HB := n2_; clear n0_ n1_ n2_; (try clear hb); (try clear hb2); (try clear hk); (try clear hi); (try clear ho0)))
    go_ret
    exact ⟨_, by first | rfl | (simp [errW_none, errW_some] <;> rfl) | (simp [*, errW_none, errW_some] <;> rfl), by (with_reducible repeat (first | apply Kd.R_alloc | apply Kd.R_drewN | apply Kd.R_drew)); exact HO215.out, by repeat (first | (with_reducible first | exact HB.out | apply below_alloc | apply pw_below_drewN | apply below_drew1) | exact HB.out)⟩
   ·rw [if_neg c6] at H
    have c6b0 : (a1 == 0) = false := beq_eq_false_iff_ne.mpr c6
    have c6b1 : (a1 != 0) = true := bne_iff_ne.mpr c6
    by_cases c11 : 7 ≤ 281474976710656
    ·rw [if_pos c11] at H
     have c11b0 := eq_true c11
     have c11b1 : decide (7 ≤ 281474976710656) = true := decide_eq_true c11
     clear c11
     obtain ⟨y216, hy216⟩ : ∃ y_ : List Bool, y_ = (List.replicate 7 false) := ⟨_, rfl⟩
     replace H : (barscanref11_table.l0 k a1 t213 y216 0) = some r := by first | (rw [hy216]; with_reducible exact H) | (have H2_ := (Option.bind_some _ _).symm.trans H; rw [hy216]; with_reducible exact H2_) | (have H2_ := (Option.bind_some _ _).symm.trans H; with_reducible exact H2_) | with_reducible exact H | (rw [hy216]; exact H) | exact H
     have Ny216 := Aside0.mk hy216
     clear hy216
     have H' := Aside0.mk H
     clear H
     go_enter Tryz.func54, Tryz.ntmps54
     go_wp2_with (first | ((with_reducible refine gate_dst (N := 8) rfl ?_); refine Kd.R_lit Kd.string _ 9 ?hg (N := 8) ?hd (xs := ([(⟨#[48, 48, 48, 49, 49, 48, 49]⟩ : ByteArray), (⟨#[48, 48, 49, 49, 48, 48, 49]⟩ : ByteArray), (⟨#[48, 48, 49, 48, 48, 49, 49]⟩ : ByteArray), (⟨#[48, 49, 49, 49, 49, 48, 49]⟩ : ByteArray), (⟨#[48, 49, 48, 48, 48, 49, 49]⟩ : ByteArray), (⟨#[48, 49, 49, 48, 48, 48, 49]⟩ : ByteArray), (⟨#[48, 49, 48, 49, 49, 49, 49]⟩ : ByteArray), (⟨#[48, 49, 49, 49, 48, 49, 49]⟩ : ByteArray), (⟨#[48, 49, 49, 48, 49, 49, 49]⟩ : ByteArray), (⟨#[48, 48, 48, 49, 48, 49, 49]⟩ : ByteArray)] : List ByteArray)) (inner := [.string (⟨#[48, 48, 48, 49, 49, 48, 49]⟩ : ByteArray), .string (⟨#[48, 48, 49, 49, 48, 48, 49]⟩ : ByteArray), .string (⟨#[48, 48, 49, 48, 48, 49, 49]⟩ : ByteArray), .string (⟨#[48, 49, 49, 49, 49, 48, 49]⟩ : ByteArray), .string (⟨#[48, 49, 48, 48, 48, 49, 49]⟩ : ByteArray), .string (⟨#[48, 49, 49, 48, 48, 48, 49]⟩ : ByteArray), .string (⟨#[48, 49, 48, 49, 49, 49, 49]⟩ : ByteArray), .string (⟨#[48, 49, 49, 49, 48, 49, 49]⟩ : ByteArray), .string (⟨#[48, 49, 49, 48, 49, 49, 49]⟩ : ByteArray), .string (⟨#[48, 48, 48, 49, 48, 49, 49]⟩ : ByteArray)]) (ok := fun _ => True) (okp := fun _ => True) ?hr ?hp (fun _ hk => hk) trivial (Below.refl _ _) (Nat.le_refl _) (by simp) ?_; (case hd => rfl); (case hg => rfl); (case hr => first | (go_simp; done) | (go_simp; rfl)); (case hp => exact (Reps.one (show Kd.M Kd.string _ _ _ (⟨#[48, 48, 48, 49, 49, 48, 49]⟩ : ByteArray) [.string (⟨#[48, 48, 48, 49, 49, 48, 49]⟩ : ByteArray)] from rfl) (Reps.one (show Kd.M Kd.string _ _ _ (⟨#[48, 48, 49, 49, 48, 48, 49]⟩ : ByteArray) [.string (⟨#[48, 48, 49, 49, 48, 48, 49]⟩ : ByteArray)] from rfl) (Reps.one (show Kd.M Kd.string _ _ _ (⟨#[48, 48, 49, 48, 48, 49, 49]⟩ : ByteArray) [.string (⟨#[48, 48, 49, 48, 48, 49, 49]⟩ : ByteArray)] from rfl) (Reps.one (show Kd.M Kd.string _ _ _ (⟨#[48, 49, 49, 49, 49, 48, 49]⟩ : ByteArray) [.string (⟨#[48, 49, 49, 49, 49, 48, 49]⟩ : ByteArray)] from rfl) (Reps.one (show Kd.M Kd.string _ _ _ (⟨#[48, 49, 48, 48, 48, 49, 49]⟩ : ByteArray) [.string (⟨#[48, 49, 48, 48, 48, 49, 49]⟩ : ByteArray)] from rfl) (Reps.one (show Kd.M Kd.string _ _ _ (⟨#[48, 49, 49, 48, 48, 48, 49]⟩ : ByteArray) [.string (⟨#[48, 49, 49, 48, 48, 48, 49]⟩ : ByteArray)] from rfl) (Reps.one (show Kd.M Kd.string _ _ _ (⟨#[48, 49, 48, 49, 49, 49, 49]⟩ : ByteArray) [.string (⟨#[48, 49, 48, 49, 49, 49, 49]⟩ : ByteArray)] from rfl) (Reps.one (show Kd.M Kd.string _ _ _ (⟨#[48, 49, 49, 49, 48, 49, 49]⟩ : ByteArray) [.string (⟨#[48, 49, 49, 49, 48, 49, 49]⟩ : ByteArray)] from rfl) (Reps.one (show Kd.M Kd.string _ _ _ (⟨#[48, 49, 49, 48, 49, 49, 49]⟩ : ByteArray) [.string (⟨#[48, 49, 49, 48, 49, 49, 49]⟩ : ByteArray)] from rfl) (Reps.one (show Kd.M Kd.string _ _ _ (⟨#[48, 48, 48, 49, 48, 49, 49]⟩ : ByteArray) [.string (⟨#[48, 48, 48, 49, 48, 49, 49]⟩ : ByteArray)] from rfl) (Reps.none _ _)))))))))))); intro v210 w12 ho13 hb hg_ hnew_; clear hg_ hnew_; (first | rw [← Ny209.out] at ho13 | (simp only [Int.reduceToNat] at ho13; rw [← Ny209.out] at ho13)); have n0_ := Aside0.mk (Kd.R_lower ho13 (below_size (by repeat (first | (with_reducible first | exact HB.out | apply below_alloc | apply pw_below_drewN | apply below_drew1) | exact HB.out)))); have n1_ := Aside0.mk (below_step (by repeat (first | (with_reducible first | exact HB.out | apply below_alloc | apply pw_below_drewN | apply below_drew1) | exact HB.out)) hb); clear HB; have HO211 := n0_; have HB := n1_; clear n0_ n1_; clear hb ho13; obtain ⟨Ao14, co14, eo14⟩ := Kd.R_slice HO211.out; subst eo14; have p212 : 0 ≤ (a0 : Int) := of_decide_eq_true (by first | (with_reducible assumption) | assumption); have q212 : a0 < (y209.length : Int) := of_decide_eq_true (by first | (with_reducible assumption) | assumption); obtain ⟨ad212, e212, hx212_0⟩ := Kd.at_string (Kd.R_reads' HO211.out).2.2 a0 p212 q212; cases e212; replace p212 := eq_true p212; replace q212 := eq_true q212) | ((with_reducible refine gate_callee (f := 67) rfl ?_); refine goesL_ (some 12) rfl rfl Tryz.func67 (by kernel_rfl) rfl #[.string (rdOf ByteArray.empty y209 a0)] rfl (by (try simp only [List.map_toArray, List.map_cons, List.map_nil]); first | done | rfl | (simp only [List.length_drop, List.length_take]; rfl)) ?_; (with_reducible refine (barscanref11_modules.calls k (rdOf ByteArray.empty y209 a0) t213 _ A5.out).mono ?_); rintro e w15 ⟨v214, rfl, ho0, hb⟩; refine ⟨_, rfl, ?_⟩; have n0_ := Aside0.mk (Kd.R_below (by (with_reducible repeat (first | apply Kd.R_alloc | apply Kd.R_drewN | apply Kd.R_drew)); exact HO211.out) hb); have n1_ := Aside0.mk (Kd.R_lower ho0 (below_size (by repeat (first | (with_reducible first | exact HB.out | apply below_alloc | apply pw_below_drewN | apply below_drew1) | exact HB.out)))); have n2_ := Aside0.mk (below_step (by repeat (first | (with_reducible first | exact HB.out | apply below_alloc | apply pw_below_drewN | apply below_drew1) | exact HB.out)) hb); clear HO211; clear HB; have HO211 := n0_; have HO215 := n1_; have HB := n2_; clear n0_ n1_ n2_; (try clear hb); (try clear hb2); (try clear hk); (try clear hi); (try clear ho0)) | ((with_reducible refine gate_dst (N := 16) rfl ?_); refine Kd.R_make Kd.bool _ 4 rfl (N := 16) rfl 23 _ _ rfl 7 rfl rfl Tryz.underlying23 (.bool false) 1 info4 rfl (by decide) (by omega) false (ok := fun _ => True) (okp := fun _ => True) rfl (fun _ hk => hk) trivial (by omega) (by omega) (Below.refl _ _) (Nat.le_refl _) ?_; intro v217 w16 ho17 hb hg_ hnew_; clear hg_ hnew_; (first | rw [← Ny216.out] at ho17 | (simp only [Int.reduceToNat] at ho17; rw [← Ny216.out] at ho17)); have n0_ := Aside0.mk (Kd.R_below (by (with_reducible repeat (first | apply Kd.R_alloc | apply Kd.R_drewN | apply Kd.R_drew)); exact HO211.out) hb); have n1_ := Aside0.mk (Kd.R_elder' (by (with_reducible repeat (first | apply Kd.R_alloc | apply Kd.R_drewN | apply Kd.R_drew)); exact HO215.out) (Kd.R_base ho17) hb); have n2_ := Aside0.mk (Kd.R_lower (Kd.R_new' ho17 (Kd.R_lt (by (with_reducible repeat (first | apply Kd.R_alloc | apply Kd.R_drewN | apply Kd.R_drew)); exact HO215.out))) (below_size (by repeat (first | (with_reducible first | exact HB.out | apply below_alloc | apply pw_below_drewN | apply below_drew1) | exact HB.out)))); have n3_ := Aside0.mk (below_step (by repeat (first | (with_reducible first | exact HB.out | apply below_alloc | apply pw_below_drewN | apply below_drew1) | exact HB.out)) hb); clear HO211; clear HO215; clear HB; have HO211 := n0_; have HO215 := n1_; have HO218 := n2_; have HB := n3_; clear n0_ n1_ n2_ n3_; clear hb ho17))
     go_loopg [7] k (fun kq v7 w' => ∃ (x6_1 : List Bool) (x7_1 : Int), v7 = .int .i64 x7_1 ∧ Aside0 (barscanref11_table.l0 kq a1 t213 x6_1 x7_1 = some r) ∧ Aside0 (kq ≤ k) ∧ Aside0 (Kd.R Kd.bool 4 w' w.heap.size (fun k_ => some k_ ≠ (v217 : Value).ownBlock) v214 t213) ∧ Aside0 (Kd.R Kd.bool 4 w' w.heap.size (fun k_ => some k_ ≠ (v214 : Value).ownBlock) v217 x6_1) ∧ Aside0 (Below w.heap.size w w'))
     case atStart => exact ⟨(y216), (0), (by first | rfl | (simp; done) | (simp [*]; done)), H', ⟨Nat.le_refl _⟩, ⟨by (with_reducible repeat (first | apply Kd.R_alloc | apply Kd.R_drewN | apply Kd.R_drew)); exact Kd.R_mono HO215.out (fun _ hk => hk.2)⟩, ⟨by (with_reducible repeat (first | apply Kd.R_alloc | apply Kd.R_drewN | apply Kd.R_drew)); exact Kd.R_mono HO218.out (fun _ hk => hk.2)⟩, ⟨by repeat (first | (with_reducible first | exact HB.out | apply below_alloc | apply pw_below_drewN | apply below_drew1) | exact HB.out)⟩⟩
     case round =>
      clear H'
      obtain ⟨x6_1, x7_1, rfl, HA, HK1, HO_5, HO_6, HB⟩ := hrel
      cases gk with
      | zero => exact absurd HA.out (by simp [barscanref11_table.l0])
      | succ k1 =>
       have H := HA.out
       clear HA
       simp only [barscanref11_table.l0] at H
       by_cases c18 : x7_1 < 7
       ·rw [if_pos c18] at H
        have c18b0 : decide (x7_1 < 7) = true := decide_eq_true c18
        clear c18
        by_cases c19 : a1 = 2
        ·rw [if_pos c19] at H
         have c19b0 : (a1 == 2) = true := beq_iff_eq.mpr c19
         have c19b1 : (a1 != 2) = false := bne_eq_false_iff_eq.mpr c19
         clear c19
         by_cases c20 : 0 ≤ x7_1
         ·rw [if_pos c20] at H
          have c20b0 : decide (0 ≤ x7_1) = true := decide_eq_true c20
          clear c20
          by_cases c21 : x7_1 < (t213.length : Int)
          ·rw [if_pos c21] at H
           have c21b0 : decide (x7_1 < (t213.length : Int)) = true := decide_eq_true c21
           clear c21
           by_cases c22 : x7_1 < (x6_1.length : Int)
           ·rw [if_pos c22] at H
            have c22b0 : decide (x7_1 < (x6_1.length : Int)) = true := decide_eq_true c22
            clear c22
            obtain ⟨y220, hy220⟩ : ∃ y_ : List Bool, y_ = (x6_1.set (x7_1 : Int).toNat (!(rdOf false t213 x7_1))) := ⟨_, rfl⟩
            replace H : (barscanref11_table.l0 k1 a1 t213 y220 (wrap64 (x7_1 + 1))) = some r := by first | (rw [hy220]; with_reducible exact H) | (have H2_ := (Option.bind_some _ _).symm.trans H; rw [hy220]; with_reducible exact H2_) | (have H2_ := (Option.bind_some _ _).symm.trans H; with_reducible exact H2_) | with_reducible exact H | (rw [hy220]; exact H) | exact H
            have Ny220 := Aside0.mk hy220
            clear hy220
            have H' := Aside0.mk H
            clear H
            obtain ⟨Ao24, co24, eo24⟩ := Kd.R_slice HO_5.out
            subst eo24
            have p219 : 0 ≤ (x7_1 : Int) := of_decide_eq_true (by first | (with_reducible assumption) | assumption)
            have q219 : x7_1 < (t213.length : Int) := of_decide_eq_true (by first | (with_reducible assumption) | assumption)
            obtain ⟨ad219, e219, hx219_0⟩ := Kd.at_bool (Kd.R_reads' HO_5.out).2.2 x7_1 p219 q219
            cases e219
            replace p219 := eq_true p219
            replace q219 := eq_true q219
            have p23 : 0 ≤ (x7_1 : Int) := of_decide_eq_true (by first | (with_reducible assumption) | assumption)
            have q23 : (x7_1 : Int) < ((x6_1.length : Int) : Int) := of_decide_eq_true (by first | (with_reducible assumption) | assumption)
            obtain ⟨go23, co23, eo23, gb23, gl23, cl23, HG23⟩ := Kd.R_form HO_6.out (by omega)
            (first | cases eo23 | (injection eo23 with ea_ en_ ec_; (first | subst ea_ | (injection ea_ with ea_; subst ea_)); subst ec_; clear en_))
            have GB23 := Aside0.mk gb23
            have GG23 := Aside0.mk HG23
            clear gb23 gl23 HG23
            obtain ⟨hx23_0, hf23_0⟩ := Kd.R_celln false HO_6.out (x7_1 : Int) p23 q23
            replace p23 := eq_true p23
            replace q23 := eq_true q23
            have HP25 := Kd.R_putg HO_6.out (x7_1 : Int) (!(rdOf false t213 x7_1))
            go_wp2_with (first | ((with_reducible refine gate_store (t := 4) (p := 30) rfl ?_); refine store_event (t := 4) (p := 30) (v := ?vo_w26) (w1 := (wr.setCell ⟨go23, (x7_1 : Int).toNat, none⟩ (.bool (!(rdOf false t213 x7_1))))) ?hg ?ho ?hn ?hr ?_; (case ho => rfl); (case hg => rfl); (case hn => rfl); (case hr => first | (go_simp; done) | (go_simp; rfl)); intro w26 hw; have hg : wr.grownBy w26 (some go23) := (by rw [hw]; exact HP25.2); have hp_ : Kd.R Kd.bool 4 w26 w.heap.size (fun k_ => some k_ ≠ (.slice (some ad219) t213.length co24 : Value).ownBlock) (.slice (some ⟨go23, 0, none⟩) x6_1.length co23) y220 := (by rw [hw, Ny220.out]; exact HP25.1); clear HP25; have n0_ := Aside0.mk (Kd.R_after (v := (.slice (some ⟨go23, 0, none⟩) x6_1.length co23)) (v1 := (.slice (some ⟨go23, 0, none⟩) x6_1.length co23)) (ok := (fun _ => True)) (by (with_reducible repeat (first | apply Kd.R_alloc | apply Kd.R_drewN | apply Kd.R_drew)); exact Kd.R_mono HO_5.out (fun _ hk => ⟨trivial, hk⟩)) hg (.inl rfl)); have n1_ := Aside0.mk (hp_); have n2_ := Aside0.mk ((by rw [hw]; exact below_set (HB.out) GB23.out : Below w.heap.size w w26)); clear HO_5; clear HO_6; clear HB; have HO_5 := n0_; have HO_6 := n1_; have HB := n2_; clear n0_ n1_ n2_; clear hg hw hp_))
            go_roundg k1
            case measure => have := HK1.out; omega
            case rel => exact ⟨(y220), (wrap64 (x7_1 + 1)), (by first | rfl | (simp; done) | (simp [*]; done)), H', ⟨by have := HK1.out; omega⟩, ⟨by (with_reducible repeat (first | apply Kd.R_alloc | apply Kd.R_drewN | apply Kd.R_drew)); exact Kd.R_mono HO_5.out (fun _ hk => hk.2)⟩, ⟨by (with_reducible repeat (first | apply Kd.R_alloc | apply Kd.R_drewN | apply Kd.R_drew)); exact HO_6.out⟩, ⟨by repeat (first | (with_reducible first | exact HB.out | apply below_alloc | apply pw_below_drewN | apply below_drew1) | exact HB.out)⟩⟩
           ·rw [if_neg c22] at H
            exact absurd H (by simp)
          ·rw [if_neg c21] at H
           exact absurd H (by simp)
         ·rw [if_neg c20] at H
          exact absurd H (by simp)
        ·rw [if_neg c19] at H
         have c19b0 : (a1 == 2) = false := beq_eq_false_iff_ne.mpr c19
         have c19b1 : (a1 != 2) = true := bne_iff_ne.mpr c19
         obtain ⟨ji27, hji27⟩ : ∃ j_ : Int, (wrap64 (6 - x7_1)) = j_ := ⟨_, rfl⟩
         replace H : (if 0 ≤ (ji27) then (if (ji27) < (t213.length : Int) then (if 0 ≤ x7_1 then (if x7_1 < (x6_1.length : Int) then (barscanref11_table.l0 k1 a1 t213 (x6_1.set (x7_1 : Int).toNat (!(rdOf false t213 (ji27)))) (wrap64 (x7_1 + 1))) else (none)) else (none)) else (none)) else (none)) = some r := by first | (rw [hji27] at H; exact H) | (simp only [hji27] at H ⊢; exact H)
         have hji27w : (IntKind.i64.wrap (6 - x7_1)) = ji27 := (i64_w _).trans hji27
         by_cases c28 : 0 ≤ (ji27)
         ·rw [if_pos c28] at H
          have c28b0 : decide (0 ≤ (ji27)) = true := decide_eq_true c28
          clear c28
          by_cases c29 : (ji27) < (t213.length : Int)
          ·rw [if_pos c29] at H
           have c29b0 : decide ((ji27) < (t213.length : Int)) = true := decide_eq_true c29
           clear c29
           by_cases c30 : 0 ≤ x7_1
           ·rw [if_pos c30] at H
            have c30b0 : decide (0 ≤ x7_1) = true := decide_eq_true c30
            clear c30
            by_cases c31 : x7_1 < (x6_1.length : Int)
            ·rw [if_pos c31] at H
             have c31b0 : decide (x7_1 < (x6_1.length : Int)) = true := decide_eq_true c31
             clear c31
             obtain ⟨y222, hy222⟩ : ∃ y_ : List Bool, y_ = (x6_1.set (x7_1 : Int).toNat (!(rdOf false t213 (ji27)))) := ⟨_, rfl⟩
             replace H : (barscanref11_table.l0 k1 a1 t213 y222 (wrap64 (x7_1 + 1))) = some r := by first | (rw [hy222]; with_reducible exact H) | (have H2_ := (Option.bind_some _ _).symm.trans H; rw [hy222]; with_reducible exact H2_) | (have H2_ := (Option.bind_some _ _).symm.trans H; with_reducible exact H2_) | with_reducible exact H | (rw [hy222]; exact H) | exact H
             have Ny222 := Aside0.mk hy222
             clear hy222
             have H' := Aside0.mk H
             clear H
             obtain ⟨Ao33, co33, eo33⟩ := Kd.R_slice HO_5.out
             subst eo33
             have p221 : 0 ≤ ((ji27) : Int) := of_decide_eq_true (by first | (with_reducible assumption) | assumption)
             have q221 : (ji27) < (t213.length : Int) := of_decide_eq_true (by first | (with_reducible assumption) | assumption)
             obtain ⟨ad221, e221, hx221_0⟩ := Kd.at_bool (Kd.R_reads' HO_5.out).2.2 (ji27) p221 q221
             cases e221
             replace p221 := eq_true p221
             replace q221 := eq_true q221
             have p32 : 0 ≤ (x7_1 : Int) := of_decide_eq_true (by first | (with_reducible assumption) | assumption)
             have q32 : (x7_1 : Int) < ((x6_1.length : Int) : Int) := of_decide_eq_true (by first | (with_reducible assumption) | assumption)
             obtain ⟨go32, co32, eo32, gb32, gl32, cl32, HG32⟩ := Kd.R_form HO_6.out (by omega)
             (first | cases eo32 | (injection eo32 with ea_ en_ ec_; (first | subst ea_ | (injection ea_ with ea_; subst ea_)); subst ec_; clear en_))
             have GB32 := Aside0.mk gb32
             have GG32 := Aside0.mk HG32
             clear gb32 gl32 HG32
             obtain ⟨hx32_0, hf32_0⟩ := Kd.R_celln false HO_6.out (x7_1 : Int) p32 q32
             replace p32 := eq_true p32
             replace q32 := eq_true q32
             have HP34 := Kd.R_putg HO_6.out (x7_1 : Int) (!(rdOf false t213 (ji27)))
             go_wp2_with (first | ((with_reducible refine gate_store (t := 4) (p := 39) rfl ?_); refine store_event (t := 4) (p := 39) (v := ?vo_w35) (w1 := (wr.setCell ⟨go32, (x7_1 : Int).toNat, none⟩ (.bool (!(rdOf false t213 (ji27)))))) ?hg ?ho ?hn ?hr ?_; (case ho => rfl); (case hg => rfl); (case hn => rfl); (case hr => first | (go_simp; done) | (go_simp; rfl)); intro w35 hw; have hg : wr.grownBy w35 (some go32) := (by rw [hw]; exact HP34.2); have hp_ : Kd.R Kd.bool 4 w35 w.heap.size (fun k_ => some k_ ≠ (.slice (some ad221) t213.length co33 : Value).ownBlock) (.slice (some ⟨go32, 0, none⟩) x6_1.length co32) y222 := (by rw [hw, Ny222.out]; exact HP34.1); clear HP34; have n0_ := Aside0.mk (Kd.R_after (v := (.slice (some ⟨go32, 0, none⟩) x6_1.length co32)) (v1 := (.slice (some ⟨go32, 0, none⟩) x6_1.length co32)) (ok := (fun _ => True)) (by (with_reducible repeat (first | apply Kd.R_alloc | apply Kd.R_drewN | apply Kd.R_drew)); exact Kd.R_mono HO_5.out (fun _ hk => ⟨trivial, hk⟩)) hg (.inl rfl)); have n1_ := Aside0.mk (hp_); have n2_ := Aside0.mk ((by rw [hw]; exact below_set (HB.out) GB32.out : Below w.heap.size w w35)); clear HO_5; clear HO_6; clear HB; have HO_5 := n0_; have HO_6 := n1_; have HB := n2_; clear n0_ n1_ n2_; clear hg hw hp_))
             go_roundg k1
             case measure => have := HK1.out; omega
             case rel => exact ⟨(y222), (wrap64 (x7_1 + 1)), (by first | rfl | (simp; done) | (simp [*]; done)), H', ⟨by have := HK1.out; omega⟩, ⟨by (with_reducible repeat (first | apply Kd.R_alloc | apply Kd.R_drewN | apply Kd.R_drew)); exact Kd.R_mono HO_5.out (fun _ hk => hk.2)⟩, ⟨by (with_reducible repeat (first | apply Kd.R_alloc | apply Kd.R_drewN | apply Kd.R_drew)); exact HO_6.out⟩, ⟨by repeat (first | (with_reducible first | exact HB.out | apply below_alloc | apply pw_below_drewN | apply below_drew1) | exact HB.out)⟩⟩
            ·rw [if_neg c31] at H
             exact absurd H (by simp)
           ·rw [if_neg c30] at H
            exact absurd H (by simp)
          ·rw [if_neg c29] at H
           exact absurd H (by simp)
         ·rw [if_neg c28] at H
          exact absurd H (by simp)
       ·rw [if_neg c18] at H
        have c18b0 : decide (x7_1 < 7) = false := decide_eq_false c18
        clear c18
        obtain rfl := Option.some.inj H
        go_wp2
        go_ret
        exact ⟨_, by first | rfl | (simp [errW_none, errW_some] <;> rfl) | (simp [*, errW_none, errW_some] <;> rfl), by (with_reducible repeat (first | apply Kd.R_alloc | apply Kd.R_drewN | apply Kd.R_drew)); exact Kd.R_mono HO_6.out (fun _ hk => trivial), by repeat (first | (with_reducible first | exact HB.out | apply below_alloc | apply pw_below_drewN | apply below_drew1) | exact HB.out)⟩
    ·rw [if_neg c11] at H
     exact absurd H (by simp)
  ·rw [if_neg c4] at H
   exact absurd H (by simp)
 ·rw [if_neg c3] at H
  exact absurd H (by simp)

end Go.Proofs.YtjmeekceecpemaaGreatDoor.Q

namespace Go.Proofs.YtjmeekceecpemaaGreatDoor.Q
open Go.RowKit Go.Proofs.YtjmeekceecpemaaGreatDoorW.PrintWords Go.Proofs.YtjmeekceecpemaaGreatDoorW.PrintLast Go.Proofs.YtjmeekceecpemaaGreatDoorW.PrintMore

set_option linter.unusedVariables false
set_option linter.unusedSimpArgs false

/-! ### barscanref11_Digits: function 25 -/
def barscanref11_Digits.f (k : Nat) (a0 : Int) (a1 : Int) : Option (List Bool × Int) := if a0 < 0 then (some (([] : List Bool), 3)) else (if a0 > 9 then (some (([] : List Bool), 3)) else (if a1 < 0 then (some (([] : List Bool), 3)) else (if a1 > 2 then (some (([] : List Bool), 3)) else ((barscanref11_table.f k a0 a1).bind fun t713 => (some (t713, 0))))))
theorem barscanref11_Digits.mono : ∀ a0 a1 k, LeO (barscanref11_Digits.f k a0 a1) (barscanref11_Digits.f (k + 1) a0 a1) := by
  intro a0 a1 k
  unfold barscanref11_Digits.f
  repeat' first
      | (with_reducible exact barscanref11_table.mono _ _ _)
      | (with_reducible exact LeO.refl _)
      | (with_reducible exact LeO.none _)
      | (with_reducible refine LeO.ite ?_ ?_)
      | (with_reducible refine LeO.bind ?_ (fun _ => ?_))
      | exact barscanref11_table.mono _ _ _
      | exact LeO.none _
      | refine LeO.ite ?_ ?_
      | refine LeO.bind ?_ (fun _ => ?_)
set_option maxHeartbeats 8000000 in
set_option maxRecDepth 100000 in
theorem barscanref11_Digits.calls (k : Nat) (a0 : Int) (a1 : Int) (r1 : List Bool) (r2 : Int) (w : World) (h : barscanref11_Digits.f k a0 a1 = some (r1, r2)) :
    Calls Tryz.prog 25 #[.int .i64 a0, .int .i64 a1] w fun e w' => ∃ v0_ : Value, e = .returned (.tuple #[v0_, .int .i64 r2]) ∧ Kd.R Kd.bool 4 w' w.heap.size (fun _ => True) v0_ r1 ∧ Below w.heap.size w w' := by
  have HB := Aside0.mk (Below.refl w.heap.size w)
  have H : (if a0 < 0 then (some (([] : List Bool), 3)) else (if a0 > 9 then (some (([] : List Bool), 3)) else (if a1 < 0 then (some (([] : List Bool), 3)) else (if a1 > 2 then (some (([] : List Bool), 3)) else ((barscanref11_table.f k a0 a1).bind fun t713 => (some (t713, 0))))))) = some (r1, r2) := h
  clear h
  by_cases c3 : a0 < 0
  · rw [if_pos c3] at H
    have c3b0 : decide (a0 < 0) = true := decide_eq_true c3
    clear c3
    simp only [Option.some.injEq, Prod.mk.injEq] at H
    obtain ⟨rfl, rfl⟩ := H
    go_enter Tryz.func25, Tryz.ntmps25
    go_wp2
    go_ret2
    exact ⟨_, by first | rfl | (simp [errW_none, errW_some] <;> rfl) | (simp [*, errW_none, errW_some] <;> rfl), by first | exact Kd.R_nil _ _ _ _ _ | exact Kd.N_nil _ _ _ _ _ | exact Kd.V_nil _ _ _ _ _ | exact Kd.Q_nil _ _ _ _ _ | exact Kd.S_nil _ _ _ _ _, by repeat (first | (with_reducible first | exact HB.out | apply below_alloc | apply pw_below_drewN | apply below_drew1) | exact HB.out)⟩
  · rw [if_neg c3] at H
    have c3b0 : decide (a0 < 0) = false := decide_eq_false c3
    clear c3
    by_cases c4 : a0 > 9
    · rw [if_pos c4] at H
      have c4b0 : decide (9 < a0) = true := decide_eq_true c4
      clear c4
      simp only [Option.some.injEq, Prod.mk.injEq] at H
      obtain ⟨rfl, rfl⟩ := H
      go_enter Tryz.func25, Tryz.ntmps25
      go_wp2
      go_ret2
      exact ⟨_, by first | rfl | (simp [errW_none, errW_some] <;> rfl) | (simp [*, errW_none, errW_some] <;> rfl), by first | exact Kd.R_nil _ _ _ _ _ | exact Kd.N_nil _ _ _ _ _ | exact Kd.V_nil _ _ _ _ _ | exact Kd.Q_nil _ _ _ _ _ | exact Kd.S_nil _ _ _ _ _, by repeat (first | (with_reducible first | exact HB.out | apply below_alloc | apply pw_below_drewN | apply below_drew1) | exact HB.out)⟩
    · rw [if_neg c4] at H
      have c4b0 : decide (9 < a0) = false := decide_eq_false c4
      clear c4
      by_cases c5 : a1 < 0
      · rw [if_pos c5] at H
        have c5b0 : decide (a1 < 0) = true := decide_eq_true c5
        clear c5
        simp only [Option.some.injEq, Prod.mk.injEq] at H
        obtain ⟨rfl, rfl⟩ := H
        go_enter Tryz.func25, Tryz.ntmps25
        go_wp2
        go_ret2
        exact ⟨_, by first | rfl | (simp [errW_none, errW_some] <;> rfl) | (simp [*, errW_none, errW_some] <;> rfl), by first | exact Kd.R_nil _ _ _ _ _ | exact Kd.N_nil _ _ _ _ _ | exact Kd.V_nil _ _ _ _ _ | exact Kd.Q_nil _ _ _ _ _ | exact Kd.S_nil _ _ _ _ _, by repeat (first | (with_reducible first | exact HB.out | apply below_alloc | apply pw_below_drewN | apply below_drew1) | exact HB.out)⟩
      · rw [if_neg c5] at H
        have c5b0 : decide (a1 < 0) = false := decide_eq_false c5
        clear c5
        by_cases c6 : a1 > 2
        · rw [if_pos c6] at H
          have c6b0 : decide (2 < a1) = true := decide_eq_true c6
          clear c6
          simp only [Option.some.injEq, Prod.mk.injEq] at H
          obtain ⟨rfl, rfl⟩ := H
          go_enter Tryz.func25, Tryz.ntmps25
          go_wp2
          go_ret2
          exact ⟨_, by first | rfl | (simp [errW_none, errW_some] <;> rfl) | (simp [*, errW_none, errW_some] <;> rfl), by first | exact Kd.R_nil _ _ _ _ _ | exact Kd.N_nil _ _ _ _ _ | exact Kd.V_nil _ _ _ _ _ | exact Kd.Q_nil _ _ _ _ _ | exact Kd.S_nil _ _ _ _ _, by repeat (first | (with_reducible first | exact HB.out | apply below_alloc | apply pw_below_drewN | apply below_drew1) | exact HB.out)⟩
        · rw [if_neg c6] at H
          have c6b0 : decide (2 < a1) = false := decide_eq_false c6
          clear c6
          replace H := Option.bind_eq_some_iff.mp H
          obtain ⟨t713, A70, H⟩ := H
          replace H : (some (t713, 0)) = some (r1, r2) := H
          have A7 := Aside0.mk A70
          clear A70
          simp only [Option.some.injEq, Prod.mk.injEq] at H
          obtain ⟨rfl, rfl⟩ := H
          go_enter Tryz.func25, Tryz.ntmps25
          go_wp2_with (first | ((with_reducible refine gate_callee (f := 54) rfl ?_); refine goesL_ (some 22) rfl rfl Tryz.func54 (by kernel_rfl) rfl #[.int .i64 a0, .int .i64 a1] rfl (by (try simp only [List.map_toArray, List.map_cons, List.map_nil]); first | done | rfl | (simp only [List.length_drop, List.length_take]; rfl)) ?_; (with_reducible refine (barscanref11_table.calls k a0 a1 t713 _ A7.out).mono ?_); rintro e w8 ⟨v714, rfl, ho0, hb⟩; refine ⟨_, rfl, ?_⟩; have n0_ := Aside0.mk (Kd.R_lower ho0 (below_size (by repeat (first | (with_reducible first | exact HB.out | apply below_alloc | apply pw_below_drewN | apply below_drew1) | exact HB.out)))); have n1_ := Aside0.mk (below_step (by repeat (first | (with_reducible first | exact HB.out | apply below_alloc | apply pw_below_drewN | apply below_drew1) | exact HB.out)) hb); clear HB; have HO715 := n0_; have HB := n1_; clear n0_ n1_; (try clear hb); (try clear hb2); (try clear hk); (try clear hi); (try clear ho0)))
          go_ret2
          exact ⟨_, by first | rfl | (simp [errW_none, errW_some] <;> rfl) | (simp [*, errW_none, errW_some] <;> rfl), by (with_reducible repeat (first | apply Kd.R_alloc | apply Kd.R_drewN | apply Kd.R_drew)); exact HO715.out, by repeat (first | (with_reducible first | exact HB.out | apply below_alloc | apply pw_below_drewN | apply below_drew1) | exact HB.out)⟩

end Go.Proofs.YtjmeekceecpemaaGreatDoor.Q

namespace Go.Proofs.YtjmeekceecpemaaGreatDoor.Q
open Go.RowKit Go.Proofs.YtjmeekceecpemaaGreatDoorW.PrintWords Go.Proofs.YtjmeekceecpemaaGreatDoorW.PrintLast Go.Proofs.YtjmeekceecpemaaGreatDoorW.PrintMore

set_option linter.unusedVariables false
set_option linter.unusedSimpArgs false

/-! ### barscanlaw11_EanDigits: function 10 -/
def barscanlaw11_EanDigits.f (k : Nat) (a0 : Int) (a1 : Int) : Option (Bool) := (ean_Digits.f k a0 a1).bind fun bt716 => ((barscanref11_Digits.f k a0 a1).bind fun bt720 => ((barscanlaw11_equal.f k bt716.1 bt720.1).bind fun t724 => (if t724 = true then (if bt716.2 = bt720.2 then ((barscanlaw11_examples.f k).bind fun t725 => (some t725)) else (some false)) else (some false))))
theorem barscanlaw11_EanDigits.mono : ∀ a0 a1 k, LeO (barscanlaw11_EanDigits.f k a0 a1) (barscanlaw11_EanDigits.f (k + 1) a0 a1) := by
 intro a0 a1 k
 unfold barscanlaw11_EanDigits.f
 repeat' first
   | (with_reducible exact barscanlaw11_equal.mono _ _ _)
   | (with_reducible exact barscanlaw11_examples.mono _)
   | (with_reducible exact barscanref11_Digits.mono _ _ _)
   | (with_reducible exact ean_Digits.mono _ _ _)
   | (with_reducible exact LeO.refl _)
   | (with_reducible exact LeO.none _)
   | (with_reducible refine LeO.ite ?_ ?_)
   | (with_reducible refine LeO.bind ?_ (fun _ => ?_))
   | exact barscanlaw11_equal.mono _ _ _
   | exact barscanlaw11_examples.mono _
   | exact barscanref11_Digits.mono _ _ _
   | exact ean_Digits.mono _ _ _
   | exact LeO.none _
   | refine LeO.ite ?_ ?_
   | refine LeO.bind ?_ (fun _ => ?_)
set_option maxHeartbeats 8000000 in
set_option maxRecDepth 100000 in
theorem barscanlaw11_EanDigits.calls (k : Nat) (a0 : Int) (a1 : Int) (r : Bool) (w : World) (h : barscanlaw11_EanDigits.f k a0 a1 = some r) :
  Calls Tryz.prog 10 #[.int .i64 a0, .int .i64 a1] w fun e w' => e = .returned (.bool r) ∧ Below w.heap.size w w' := by
 have HB := Aside0.mk (Below.refl w.heap.size w)
 have H : ((ean_Digits.f k a0 a1).bind fun bt716 => ((barscanref11_Digits.f k a0 a1).bind fun bt720 => ((barscanlaw11_equal.f k bt716.1 bt720.1).bind fun t724 => (if t724 = true then (if bt716.2 = bt720.2 then ((barscanlaw11_examples.f k).bind fun t725 => (some t725)) else (some false)) else (some false))))) = some r := h
 clear h
 replace H := Option.bind_eq_some_iff.mp H
 obtain ⟨⟨t716, t717⟩, A30, H⟩ := H
 replace H : ((barscanref11_Digits.f k a0 a1).bind fun bt720 => ((barscanlaw11_equal.f k t716 bt720.1).bind fun t724 => (if t724 = true then (if t717 = bt720.2 then ((barscanlaw11_examples.f k).bind fun t725 => (some t725)) else (some false)) else (some false)))) = some r := H
 have A3 := Aside0.mk A30
 clear A30
 replace H := Option.bind_eq_some_iff.mp H
 obtain ⟨⟨t720, t721⟩, A40, H⟩ := H
 replace H : ((barscanlaw11_equal.f k t716 t720).bind fun t724 => (if t724 = true then (if t717 = t721 then ((barscanlaw11_examples.f k).bind fun t725 => (some t725)) else (some false)) else (some false))) = some r := H
 have A4 := Aside0.mk A40
 clear A40
 replace H := Option.bind_eq_some_iff.mp H
 obtain ⟨t724, A50, H⟩ := H
 replace H : (if t724 = true then (if t717 = t721 then ((barscanlaw11_examples.f k).bind fun t725 => (some t725)) else (some false)) else (some false)) = some r := H
 have A5 := Aside0.mk A50
 clear A50
 by_cases c6 : t724 = true
 ·subst c6
  have H1 : (if t717 = t721 then ((barscanlaw11_examples.f k).bind fun t725 => (some t725)) else (some false)) = some r := by rw [if_pos rfl] at H; exact H
  clear H
  have H := H1
  clear H1
  by_cases c7 : t717 = t721
  ·rw [if_pos c7] at H
   have c7b0 : (t717 == t721) = true := beq_iff_eq.mpr c7
   have c7b1 : (t717 != t721) = false := bne_eq_false_iff_eq.mpr c7
   clear c7
   replace H := Option.bind_eq_some_iff.mp H
   obtain ⟨t725, A80, H⟩ := H
   replace H : (some t725) = some r := H
   have A8 := Aside0.mk A80
   clear A80
   obtain rfl := Option.some.inj H
   go_enter Tryz.func10, Tryz.ntmps10
   go_wp2_with (first | ((with_reducible refine gate_callee (f := 24) rfl ?_); refine goesL_ (some 12) rfl rfl Tryz.func24 (by kernel_rfl) rfl #[.int .i64 a0, .int .i64 a1] rfl (by (try simp only [List.map_toArray, List.map_cons, List.map_nil]); first | done | rfl | (simp only [List.length_drop, List.length_take]; rfl)) ?_; (with_reducible refine (ean_Digits.calls k a0 a1 t716 t717 _ A3.out).mono ?_); rintro e w9 ⟨v718, rfl, ho0, hb⟩; refine ⟨_, rfl, ?_⟩; have n0_ := Aside0.mk (Kd.R_lower ho0 (below_size (by repeat (first | (with_reducible first | exact HB.out | apply below_alloc | apply pw_below_drewN | apply below_drew1) | exact HB.out)))); have n1_ := Aside0.mk (below_step (by repeat (first | (with_reducible first | exact HB.out | apply below_alloc | apply pw_below_drewN | apply below_drew1) | exact HB.out)) hb); clear HB; have HO719 := n0_; have HB := n1_; clear n0_ n1_; (try clear hb); (try clear hb2); (try clear hk); (try clear hi); (try clear ho0)) | ((with_reducible refine gate_callee (f := 25) rfl ?_); refine goesL_ (some 18) rfl rfl Tryz.func25 (by kernel_rfl) rfl #[.int .i64 a0, .int .i64 a1] rfl (by (try simp only [List.map_toArray, List.map_cons, List.map_nil]); first | done | rfl | (simp only [List.length_drop, List.length_take]; rfl)) ?_; (with_reducible refine (barscanref11_Digits.calls k a0 a1 t720 t721 _ A4.out).mono ?_); rintro e w10 ⟨v722, rfl, ho0, hb⟩; refine ⟨_, rfl, ?_⟩; have n0_ := Aside0.mk (Kd.R_elder' (by (with_reducible repeat (first | apply Kd.R_alloc | apply Kd.R_drewN | apply Kd.R_drew)); exact HO719.out) (Kd.R_base ho0) hb); have n1_ := Aside0.mk (Kd.R_lower (Kd.R_new' ho0 (Kd.R_lt (by (with_reducible repeat (first | apply Kd.R_alloc | apply Kd.R_drewN | apply Kd.R_drew)); exact HO719.out))) (below_size (by repeat (first | (with_reducible first | exact HB.out | apply below_alloc | apply pw_below_drewN | apply below_drew1) | exact HB.out)))); have n2_ := Aside0.mk (below_step (by repeat (first | (with_reducible first | exact HB.out | apply below_alloc | apply pw_below_drewN | apply below_drew1) | exact HB.out)) hb); clear HO719; clear HB; have HO719 := n0_; have HO723 := n1_; have HB := n2_; clear n0_ n1_ n2_; (try clear hb); (try clear hb2); (try clear hk); (try clear hi); (try clear ho0); obtain ⟨Ao11, co11, eo11⟩ := Kd.R_slice HO719.out; subst eo11; obtain ⟨Ao12, co12, eo12⟩ := Kd.R_slice HO723.out; subst eo12) | ((with_reducible refine gate_callee (f := 13) rfl ?_); refine goesL_ (some 23) rfl rfl Tryz.func13 (by kernel_rfl) rfl #[.slice Ao11 t716.length co11, .slice Ao12 t720.length co12] rfl (by (try simp only [List.map_toArray, List.map_cons, List.map_nil]); first | done | rfl | (simp only [List.length_drop, List.length_take]; rfl)) ?_; (with_reducible refine (barscanlaw11_equal.calls k _ _ t716 _ _ t720 true _ ?side1 ?side2 ?side3 ?side4 A5.out).mono ?_); (case side1 => repeat (first | exact (Kd.R_reads' HO719.out).2.2 | (with_reducible refine Kd.C_alloc ?_ _) | (with_reducible refine Kd.C_drewN ?_ _) | (with_reducible refine Kd.C_drew ?_))); (case side2 => exact (Kd.R_reads' HO719.out).2.1); (case side3 => repeat (first | exact (Kd.R_reads' HO723.out).2.2 | (with_reducible refine Kd.C_alloc ?_ _) | (with_reducible refine Kd.C_drewN ?_ _) | (with_reducible refine Kd.C_drew ?_))); (case side4 => exact (Kd.R_reads' HO723.out).2.1); rintro e w' ⟨rfl, ⟨nd, rfl⟩⟩; refine ⟨_, rfl, ?_⟩) | (go_at_call 14; (with_reducible refine (barscanlaw11_examples.calls k  t725 _ A8.out).mono ?_); rintro e w13 ⟨rfl, hb⟩; have n0_ := Aside0.mk (Kd.R_below (by (with_reducible repeat (first | apply Kd.R_alloc | apply Kd.R_drewN | apply Kd.R_drew)); exact HO719.out) hb); have n1_ := Aside0.mk (Kd.R_below (by (with_reducible repeat (first | apply Kd.R_alloc | apply Kd.R_drewN | apply Kd.R_drew)); exact HO723.out) hb); have n2_ := Aside0.mk (below_step (by repeat (first | (with_reducible first | exact HB.out | apply below_alloc | apply pw_below_drewN | apply below_drew1) | exact HB.out)) hb); clear HO719; clear HO723; clear HB; have HO719 := n0_; have HO723 := n1_; have HB := n2_; clear n0_ n1_ n2_; (try clear hb); (try clear hb2); (try clear hk); (try clear hi)))
   go_ret
   exact ⟨by first | rfl | (simp [errW_none, errW_some] <;> rfl) | (simp [*, errW_none, errW_some] <;> rfl), by repeat (first | (with_reducible first | exact HB.out | apply below_alloc | apply pw_below_drewN | apply below_drew1) | exact HB.out)⟩
  ·rw [if_neg c7] at H
   have c7b0 : (t717 == t721) = false := beq_eq_false_iff_ne.mpr c7
   have c7b1 : (t717 != t721) = true := bne_iff_ne.mpr c7
   obtain rfl := Option.some.inj H
   go_enter Tryz.func10, Tryz.ntmps10
   go_wp2_with (first | ((with_reducible refine gate_callee (f := 24) rfl ?_); refine goesL_ (some 12) rfl rfl Tryz.func24 (by kernel_rfl) rfl #[.int .i64 a0, .int .i64 a1] rfl (by (try simp only [List.map_toArray, List.map_cons, List.map_nil]); first | done | rfl | (simp only [List.length_drop, List.length_take]; rfl)) ?_; (with_reducible refine (ean_Digits.calls k a0 a1 t716 t717 _ A3.out).mono ?_); rintro e w14 ⟨v718, rfl, ho0, hb⟩; refine ⟨_, rfl, ?_⟩; have n0_ := Aside0.mk (Kd.R_lower ho0 (below_size (by repeat (first | (with_reducible first | exact HB.out | apply below_alloc | apply pw_below_drewN | apply below_drew1) | exact HB.out)))); have n1_ := Aside0.mk (below_step (by repeat (first | (with_reducible first | exact HB.out | apply below_alloc | apply pw_below_drewN | apply below_drew1) | exact HB.out)) hb); clear HB; have HO719 := n0_; have HB := n1_; clear n0_ n1_; (try clear hb); (try clear hb2); (try clear hk); (try clear hi); (try clear ho0)) | ((with_reducible refine gate_callee (f := 25) rfl ?_); refine goesL_ (some 18) rfl rfl Tryz.func25 (by kernel_rfl) rfl #[.int .i64 a0, .int .i64 a1] rfl (by (try simp only [List.map_toArray, List.map_cons, List.map_nil]); first | done | rfl | (simp only [List.length_drop, List.length_take]; rfl)) ?_; (with_reducible refine (barscanref11_Digits.calls k a0 a1 t720 t721 _ A4.out).mono ?_); rintro e w15 ⟨v722, rfl, ho0, hb⟩; refine ⟨_, rfl, ?_⟩; have n0_ := Aside0.mk (Kd.R_elder' (by (with_reducible repeat (first | apply Kd.R_alloc | apply Kd.R_drewN | apply Kd.R_drew)); exact HO719.out) (Kd.R_base ho0) hb); have n1_ := Aside0.mk (Kd.R_lower (Kd.R_new' ho0 (Kd.R_lt (by (with_reducible repeat (first | apply Kd.R_alloc | apply Kd.R_drewN | apply Kd.R_drew)); exact HO719.out))) (below_size (by repeat (first | (with_reducible first | exact HB.out | apply below_alloc | apply pw_below_drewN | apply below_drew1) | exact HB.out)))); have n2_ := Aside0.mk (below_step (by repeat (first | (with_reducible first | exact HB.out | apply below_alloc | apply pw_below_drewN | apply below_drew1) | exact HB.out)) hb); clear HO719; clear HB; have HO719 := n0_; have HO723 := n1_; have HB := n2_; clear n0_ n1_ n2_; (try clear hb); (try clear hb2); (try clear hk); (try clear hi); (try clear ho0); obtain ⟨Ao16, co16, eo16⟩ := Kd.R_slice HO719.out; subst eo16; obtain ⟨Ao17, co17, eo17⟩ := Kd.R_slice HO723.out; subst eo17) | ((with_reducible refine gate_callee (f := 13) rfl ?_); refine goesL_ (some 23) rfl rfl Tryz.func13 (by kernel_rfl) rfl #[.slice Ao16 t716.length co16, .slice Ao17 t720.length co17] rfl (by (try simp only [List.map_toArray, List.map_cons, List.map_nil]); first | done | rfl | (simp only [List.length_drop, List.length_take]; rfl)) ?_; (with_reducible refine (barscanlaw11_equal.calls k _ _ t716 _ _ t720 true _ ?side1 ?side2 ?side3 ?side4 A5.out).mono ?_); (case side1 => repeat (first | exact (Kd.R_reads' HO719.out).2.2 | (with_reducible refine Kd.C_alloc ?_ _) | (with_reducible refine Kd.C_drewN ?_ _) | (with_reducible refine Kd.C_drew ?_))); (case side2 => exact (Kd.R_reads' HO719.out).2.1); (case side3 => repeat (first | exact (Kd.R_reads' HO723.out).2.2 | (with_reducible refine Kd.C_alloc ?_ _) | (with_reducible refine Kd.C_drewN ?_ _) | (with_reducible refine Kd.C_drew ?_))); (case side4 => exact (Kd.R_reads' HO723.out).2.1); rintro e w' ⟨rfl, ⟨nd, rfl⟩⟩; refine ⟨_, rfl, ?_⟩))
   go_ret
   exact ⟨by first | rfl | (simp [errW_none, errW_some] <;> rfl) | (simp [*, errW_none, errW_some] <;> rfl), by repeat (first | (with_reducible first | exact HB.out | apply below_alloc | apply pw_below_drewN | apply below_drew1) | exact HB.out)⟩
 ·replace c6 := Bool.eq_false_iff.mpr c6
  subst c6
  have H1 : (some false) = some r := by rw [if_neg (show ¬ (false = true) by decide)] at H; exact H
  clear H
  have H := H1
  clear H1
  obtain rfl := Option.some.inj H
  go_enter Tryz.func10, Tryz.ntmps10
  go_wp2_with (first | ((with_reducible refine gate_callee (f := 24) rfl ?_); refine goesL_ (some 12) rfl rfl Tryz.func24 (by kernel_rfl) rfl #[.int .i64 a0, .int .i64 a1] rfl (by (try simp only [List.map_toArray, List.map_cons, List.map_nil]); first | done | rfl | (simp only [List.length_drop, List.length_take]; rfl)) ?_; (with_reducible refine (ean_Digits.calls k a0 a1 t716 t717 _ A3.out).mono ?_); rintro e w18 ⟨v718, rfl, ho0, hb⟩; refine ⟨_, rfl, ?_⟩; have n0_ := Aside0.mk (Kd.R_lower ho0 (below_size (by repeat (first | (with_reducible first | exact HB.out | apply below_alloc | apply pw_below_drewN | apply below_drew1) | exact HB.out)))); have n1_ := Aside0.mk (below_step (by repeat (first | (with_reducible first | exact HB.out | apply below_alloc | apply pw_below_drewN | apply below_drew1) | exact HB.out)) hb); clear HB; have HO719 := n0_; have HB := n1_; clear n0_ n1_; (try clear hb); (try clear hb2); (try clear hk); (try clear hi); (try clear ho0)) | ((with_reducible refine gate_callee (f := 25) rfl ?_); refine goesL_ (some 18) rfl rfl Tryz.func25 (by kernel_rfl) rfl #[.int .i64 a0, .int .i64 a1] rfl (by (try simp only [List.map_toArray, List.map_cons, List.map_nil]); first | done | rfl | (simp only [List.length_drop, List.length_take]; rfl)) ?_; (with_reducible refine (barscanref11_Digits.calls k a0 a1 t720 t721 _ A4.out).mono ?_); rintro e w19 ⟨v722, rfl, ho0, hb⟩; refine ⟨_, rfl, ?_⟩; have n0_ := Aside0.mk (Kd.R_elder' (by (with_reducible repeat (first | apply Kd.R_alloc | apply Kd.R_drewN | apply Kd.R_drew)); exact HO719.out) (Kd.R_base ho0) hb); have n1_ := Aside0.mk (Kd.R_lower (Kd.R_new' ho0 (Kd.R_lt (by (with_reducible repeat (first | apply Kd.R_alloc | apply Kd.R_drewN | apply Kd.R_drew)); exact HO719.out))) (below_size (by repeat (first | (with_reducible first | exact HB.out | apply below_alloc | apply pw_below_drewN | apply below_drew1) | exact HB.out)))); have n2_ := Aside0.mk (below_step (by repeat (first | (with_reducible first | exact HB.out | apply below_alloc | apply pw_below_drewN | apply below_drew1) | exact HB.out)) hb); clear HO719; clear HB; have HO719 := n0_; have HO723 := n1_; have HB := n2_; clear n0_ n1_ n2_; (try clear hb); (try clear hb2); (try clear hk); (try clear hi); (try clear ho0); obtain ⟨Ao20, co20, eo20⟩ := Kd.R_slice HO719.out; subst eo20; obtain ⟨Ao21, co21, eo21⟩ := Kd.R_slice HO723.out; subst eo21) | ((with_reducible refine gate_callee (f := 13) rfl ?_); refine goesL_ (some 23) rfl rfl Tryz.func13 (by kernel_rfl) rfl #[.slice Ao20 t716.length co20, .slice Ao21 t720.length co21] rfl (by (try simp only [List.map_toArray, List.map_cons, List.map_nil]); first | done | rfl | (simp only [List.length_drop, List.length_take]; rfl)) ?_; (with_reducible refine (barscanlaw11_equal.calls k _ _ t716 _ _ t720 false _ ?side1 ?side2 ?side3 ?side4 A5.out).mono ?_); (case side1 => repeat (first | exact (Kd.R_reads' HO719.out).2.2 | (with_reducible refine Kd.C_alloc ?_ _) | (with_reducible refine Kd.C_drewN ?_ _) | (with_reducible refine Kd.C_drew ?_))); (case side2 => exact (Kd.R_reads' HO719.out).2.1); (case side3 => repeat (first | exact (Kd.R_reads' HO723.out).2.2 | (with_reducible refine Kd.C_alloc ?_ _) | (with_reducible refine Kd.C_drewN ?_ _) | (with_reducible refine Kd.C_drew ?_))); (case side4 => exact (Kd.R_reads' HO723.out).2.1); rintro e w' ⟨rfl, ⟨nd, rfl⟩⟩; refine ⟨_, rfl, ?_⟩))
  go_ret
  exact ⟨by first | rfl | (simp [errW_none, errW_some] <;> rfl) | (simp [*, errW_none, errW_some] <;> rfl), by repeat (first | (with_reducible first | exact HB.out | apply below_alloc | apply pw_below_drewN | apply below_drew1) | exact HB.out)⟩

end Go.Proofs.YtjmeekceecpemaaGreatDoor.Q

/- The plain law EanDigits. -/
namespace Go.Proofs.YtjmeekceecpemaaGreatDoor.Q
open Go.RowKit Go.Proofs.YtjmeekceecpemaaGreatDoorW.PrintWords Go.Proofs.YtjmeekceecpemaaGreatDoorW.PrintLast Go.Proofs.YtjmeekceecpemaaGreatDoorW.PrintMore
set_option maxRecDepth 100000 in
theorem digits_all : ((List.range 10).all fun n => (List.range 3).all fun m => decide (barscanlaw11_equal.f 40 ((ean_Digits.f 40 (n : Int) (m : Int)).getD ([], 9)).1 ((barscanref11_Digits.f 40 (n : Int) (m : Int)).getD ([], 8)).1 = some true) && decide (ean_Digits.f 40 (n : Int) (m : Int) = barscanref11_Digits.f 40 (n : Int) (m : Int)) && (ean_Digits.f 40 (n : Int) (m : Int)).isSome) = true := by decide +kernel
theorem digits_ok (a0 a1 : Int) : ∃ l e, ean_Digits.f 40 a0 a1 = some (l, e) ∧ barscanref11_Digits.f 40 a0 a1 = some (l, e) ∧ barscanlaw11_equal.f 40 l l = some true := by
  by_cases h : 0 ≤ a0 ∧ a0 ≤ 9 ∧ 0 ≤ a1 ∧ a1 ≤ 2
  · obtain ⟨n, rfl⟩ := Int.eq_ofNat_of_zero_le h.1
    obtain ⟨m, rfl⟩ := Int.eq_ofNat_of_zero_le h.2.2.1
    have h1 := List.all_eq_true.1 (List.all_eq_true.1 digits_all n (List.mem_range.2 (by omega))) m (List.mem_range.2 (by omega))
    rw [Bool.and_eq_true, Bool.and_eq_true, decide_eq_true_iff, decide_eq_true_iff] at h1
    obtain ⟨⟨h2, h3⟩, h4⟩ := h1
    obtain ⟨⟨l, e⟩, h5⟩ := Option.isSome_iff_exists.1 h4
    refine ⟨l, e, h5, by rw [← h3, h5], ?_⟩
    rw [← h3, h5] at h2
    exact h2
  · refine ⟨[], 3, ?_, ?_, by decide +kernel⟩
    · unfold ean_Digits.f
      simp only [ean_Digits.j0]
      by_cases c1 : a0 < 0
      · rw [if_pos c1, if_pos trivial]
      · rw [if_neg c1]
        by_cases c2 : a0 > 9
        · rw [if_pos c2, if_pos trivial]
        · rw [if_neg c2]
          by_cases c3 : a1 < 0
          · rw [if_pos c3, if_pos trivial]
          · rw [if_neg c3, if_pos (decide_eq_true (by omega))]
    · unfold barscanref11_Digits.f
      by_cases c1 : a0 < 0
      · rw [if_pos c1]
      · rw [if_neg c1]
        by_cases c2 : a0 > 9
        · rw [if_pos c2]
        · rw [if_neg c2]
          by_cases c3 : a1 < 0
          · rw [if_pos c3]
          · rw [if_neg c3, if_pos (by omega)]
theorem digits_law (a0 a1 : Int) : ∃ K, barscanlaw11_EanDigits.f K a0 a1 = some true := by
  obtain ⟨l, e, h1, h2, h3⟩ := digits_ok a0 a1
  have up : ∀ {α : Type} {F : Nat → Option α} {r : α}, (∀ k, LeO (F k) (F (k + 1))) → ∀ {k0 : Nat}, F k0 = some r → ∀ k, k0 ≤ k → F k = some r := fun hm _ h k hk => up_of hm h k hk
  refine ⟨exK, ?_⟩
  unfold barscanlaw11_EanDigits.f
  rw [up (ean_Digits.mono a0 a1) h1 exK (by decide), Option.bind_some, up (barscanref11_Digits.mono a0 a1) h2 exK (by decide), Option.bind_some, up (barscanlaw11_equal.mono l l) h3 exK (by decide), Option.bind_some, if_pos rfl, if_pos rfl, examples_at, Option.bind_some]
end Go.Proofs.YtjmeekceecpemaaGreatDoor.Q
