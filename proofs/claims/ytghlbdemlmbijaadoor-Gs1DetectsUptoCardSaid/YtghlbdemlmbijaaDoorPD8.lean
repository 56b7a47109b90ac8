/- Joined by a program of this work (pack.py) out of the texts Qbarscanlaw14examples, Ph3, Qbarscanref14Equal, Ph4 of this seat, in build order. -/
import Derived.Test.YtghlbdemlmbijaaDoorPD7
namespace Go.Proofs.YtghlbdemlmbijaaDoor.Q
open Go.RowKit Go.Proofs.YtghlbdemlmbijaaDoorW.PrintWords Go.Proofs.YtghlbdemlmbijaaDoorW.PrintLast Go.Proofs.YtghlbdemlmbijaaDoorW.PrintMore

set_option linter.unusedVariables false
set_option linter.unusedSimpArgs false

attribute [local go_sem high] eqA38
/-! ### barscanlaw14_examples: function 12 -/
def barscanlaw14_examples.j0 : Nat → List (S38) → Bool → Option (Bool)
  | 0, _, _ => none
  | k + 1, x1, x36 => if x36 = true then (some false) else ((gs1_Format.f k x1).bind fun bt215 => ((gs1_Chars.f k x1).bind fun bt217 => ((gs1_FromChars.f k bt217.1).bind fun bt221 => ((gs1_Fixed.f (⟨#[48, 49]⟩ : ByteArray)).bind fun bt225 => (if bt215.2 = 0 then (if bt215.1.toList = ([40, 48, 49, 41, 48, 57, 53, 48, 49, 49, 48, 49, 53, 51, 48, 48, 48, 51, 40, 49, 48, 41, 65, 66] : List UInt8) then (if bt217.2 = 0 then (if (bt217.1.length : Int) = 21 then (if 0 < (bt217.1.length : Int) then (if (rd bt217.1 0) = 256 then (if 20 < (bt217.1.length : Int) then (if (rd bt217.1 20) = 66 then (if bt221.2 = 0 then ((barscanlaw14_same.f k x1 bt221.1).bind fun t230 => (if t230 = true then (if bt225.1 = 14 then (if bt225.2.1 = 14 then (if bt225.2.2 = 0 then ((gs1_Verify.f k (⟨#[49, 55]⟩ : ByteArray) (⟨#[50, 51, 48, 50, 50, 57]⟩ : ByteArray)).bind fun t231 => (some (t231 == 9))) else (some false)) else (some false)) else (some false)) else (some false))) else (some false)) else (some false)) else (none)) else (some false)) else (none)) else (some false)) else (some false)) else (some false)) else (some false))))))
def barscanlaw14_examples.f (k : Nat)  : Option (Bool) := (gs1_Parse.f k (⟨#[40, 48, 49, 41, 48, 57, 53, 48, 49, 49, 48, 49, 53, 51, 48, 48, 48, 51, 40, 49, 48, 41, 65, 66]⟩ : ByteArray)).bind fun bt209 => (if bt209.2 = 0 then (if (bt209.1.length : Int) = 2 then (if 0 < (bt209.1.length : Int) then (if (!((((rd_T38 bt209.1 0).f0).toList) == ([48, 49] : List UInt8)) || (!((((rd_T38 bt209.1 0).f1).toList) == ([48, 57, 53, 48, 49, 49, 48, 49, 53, 51, 48, 48, 48, 51] : List UInt8)))) = true then (barscanlaw14_examples.j0 k bt209.1 true) else (if 1 < (bt209.1.length : Int) then (barscanlaw14_examples.j0 k bt209.1 (!((((rd_T38 bt209.1 1).f0).toList) == ([49, 48] : List UInt8)) || (!((((rd_T38 bt209.1 1).f1).toList) == ([65, 66] : List UInt8))))) else (none))) else (none)) else (barscanlaw14_examples.j0 k bt209.1 true)) else (barscanlaw14_examples.j0 k bt209.1 true))
theorem barscanlaw14_examples.mono_l : ∀ k, (∀ y0 y1, LeO (barscanlaw14_examples.j0 k y0 y1) (barscanlaw14_examples.j0 (k + 1) y0 y1))
  | 0 => fun _ _ r h => by simp [barscanlaw14_examples.j0] at h
  | k + 1 => by
    have ih0 := barscanlaw14_examples.mono_l k
    · intro y0 y1
      unfold barscanlaw14_examples.j0
      repeat' first
      | (with_reducible exact ih0 _ _)
      | (with_reducible exact barscanlaw14_same.mono _ _ _)
      | (with_reducible exact gs1_Chars.mono _ _)
      | (with_reducible exact gs1_Format.mono _ _)
      | (with_reducible exact gs1_FromChars.mono _ _)
      | (with_reducible exact gs1_Parse.mono _ _)
      | (with_reducible exact gs1_Verify.mono _ _ _)
      | (with_reducible exact LeO.refl _)
      | (with_reducible exact LeO.none _)
      | (with_reducible refine LeO.ite ?_ ?_)
      | (with_reducible refine LeO.bind ?_ (fun _ => ?_))
      | exact ih0 _ _
      | exact barscanlaw14_same.mono _ _ _
      | exact gs1_Chars.mono _ _
      | exact gs1_Format.mono _ _
      | exact gs1_FromChars.mono _ _
      | exact gs1_Parse.mono _ _
      | exact gs1_Verify.mono _ _ _
      | exact LeO.none _
      | refine LeO.ite ?_ ?_
      | refine LeO.bind ?_ (fun _ => ?_)
theorem barscanlaw14_examples.mono : ∀ k, LeO (barscanlaw14_examples.f k ) (barscanlaw14_examples.f (k + 1) ) := by
  intro  k
  have ih0 := barscanlaw14_examples.mono_l k
  unfold barscanlaw14_examples.f
  repeat' first
      | (with_reducible exact ih0 _ _)
      | (with_reducible exact barscanlaw14_same.mono _ _ _)
      | (with_reducible exact gs1_Chars.mono _ _)
      | (with_reducible exact gs1_Format.mono _ _)
      | (with_reducible exact gs1_FromChars.mono _ _)
      | (with_reducible exact gs1_Parse.mono _ _)
      | (with_reducible exact gs1_Verify.mono _ _ _)
      | (with_reducible exact LeO.refl _)
      | (with_reducible exact LeO.none _)
      | (with_reducible refine LeO.ite ?_ ?_)
      | (with_reducible refine LeO.bind ?_ (fun _ => ?_))
      | exact ih0 _ _
      | exact barscanlaw14_same.mono _ _ _
      | exact gs1_Chars.mono _ _
      | exact gs1_Format.mono _ _
      | exact gs1_FromChars.mono _ _
      | exact gs1_Parse.mono _ _
      | exact gs1_Verify.mono _ _ _
      | exact LeO.none _
      | refine LeO.ite ?_ ?_
      | refine LeO.bind ?_ (fun _ => ?_)
set_option maxHeartbeats 8000000 in
set_option maxRecDepth 100000 in
theorem barscanlaw14_examples.calls (k : Nat)  (r : Bool) (w : World) (hT : Tabs w) (h : barscanlaw14_examples.f k  = some r) :
    Calls Tryd.prog 12 #[] w fun e w' => e = .returned (.bool r) ∧ Below w.heap.size w w' := by
  have hu38 := Tryd.underlying38
  have HT := Aside0.mk hT
  clear hT
  have HB := Aside0.mk (Below.refl w.heap.size w)
  have H : ((gs1_Parse.f k (⟨#[40, 48, 49, 41, 48, 57, 53, 48, 49, 49, 48, 49, 53, 51, 48, 48, 48, 51, 40, 49, 48, 41, 65, 66]⟩ : ByteArray)).bind fun bt209 => (if bt209.2 = 0 then (if (bt209.1.length : Int) = 2 then (if 0 < (bt209.1.length : Int) then (if (!((((rd_T38 bt209.1 0).f0).toList) == ([48, 49] : List UInt8)) || (!((((rd_T38 bt209.1 0).f1).toList) == ([48, 57, 53, 48, 49, 49, 48, 49, 53, 51, 48, 48, 48, 51] : List UInt8)))) = true then (barscanlaw14_examples.j0 k bt209.1 true) else (if 1 < (bt209.1.length : Int) then (barscanlaw14_examples.j0 k bt209.1 (!((((rd_T38 bt209.1 1).f0).toList) == ([49, 48] : List UInt8)) || (!((((rd_T38 bt209.1 1).f1).toList) == ([65, 66] : List UInt8))))) else (none))) else (none)) else (barscanlaw14_examples.j0 k bt209.1 true)) else (barscanlaw14_examples.j0 k bt209.1 true))) = some r := h
  clear h
  replace H := Option.bind_eq_some_iff.mp H
  obtain ⟨⟨t209, t210⟩, A10, H⟩ := H
  replace H : (if t210 = 0 then (if (t209.length : Int) = 2 then (if 0 < (t209.length : Int) then (if (!((((rd_T38 t209 0).f0).toList) == ([48, 49] : List UInt8)) || (!((((rd_T38 t209 0).f1).toList) == ([48, 57, 53, 48, 49, 49, 48, 49, 53, 51, 48, 48, 48, 51] : List UInt8)))) = true then (barscanlaw14_examples.j0 k t209 true) else (if 1 < (t209.length : Int) then (barscanlaw14_examples.j0 k t209 (!((((rd_T38 t209 1).f0).toList) == ([49, 48] : List UInt8)) || (!((((rd_T38 t209 1).f1).toList) == ([65, 66] : List UInt8))))) else (none))) else (none)) else (barscanlaw14_examples.j0 k t209 true)) else (barscanlaw14_examples.j0 k t209 true)) = some r := H
  have A1 := Aside0.mk A10
  clear A10
  have HC2 := Aside0.mk H
  clear H
  go_enter Tryd.func12, Tryd.ntmps12
  go_upto_region 2 with (first | ((with_reducible refine gate_callee (f := 8) rfl ?_); refine goesL_ (some 13) rfl rfl Tryd.func8 (by kernel_rfl) rfl #[.string (⟨#[40, 48, 49, 41, 48, 57, 53, 48, 49, 49, 48, 49, 53, 51, 48, 48, 48, 51, 40, 49, 48, 41, 65, 66]⟩ : ByteArray)] rfl (by (try simp only [List.map_toArray, List.map_cons, List.map_nil]); first | done | rfl | (simp only [List.length_drop, List.length_take]; rfl)) ?_; (with_reducible refine (gs1_Parse.calls k (⟨#[40, 48, 49, 41, 48, 57, 53, 48, 49, 49, 48, 49, 53, 51, 48, 48, 48, 51, 40, 49, 48, 41, 65, 66]⟩ : ByteArray) t209 t210 _ ?side1 A1.out).mono ?_); (case side1 => exact Tabs.below HT.out (by repeat (first | (with_reducible first | exact HB.out | apply below_alloc | apply pw_below_drewN | apply below_drew1) | exact HB.out))); rintro e w3 ⟨v211, rfl, ho0, hb⟩; refine ⟨_, rfl, ?_⟩; have n0_ := Aside0.mk (Kd.R_lower ho0 (below_size (by repeat (first | (with_reducible first | exact HB.out | apply below_alloc | apply pw_below_drewN | apply below_drew1) | exact HB.out)))); have n1_ := Aside0.mk (below_step (by repeat (first | (with_reducible first | exact HB.out | apply below_alloc | apply pw_below_drewN | apply below_drew1) | exact HB.out)) hb); clear HB; have HO212 := n0_; have HB := n1_; clear n0_ n1_; (try clear hb); (try clear hb2); (try clear hk); (try clear hi); (try clear ho0)))
  (try simp only [Act.put, List.setIfInBounds_toArray, List.set_cons_zero, List.set_cons_succ])
  go_cut [36] (fun v36 wc => ∃ (kq : Nat) (x36_1 : Bool), v36 = .bool x36_1 ∧ Aside0 (barscanlaw14_examples.j0 kq t209 x36_1 = some r) ∧ Aside0 (kq ≤ k) ∧ Aside0 (Kd.R k38 38 wc w.heap.size (fun _ => True) v211 t209) ∧ Aside0 (Below w.heap.size w wc))
  case first =>
    have H := HC2.out
    clear HC2
    by_cases c4 : t210 = 0
    · rw [if_pos c4] at H
      have c4b0 : (t210 == 0) = true := beq_iff_eq.mpr c4
      have c4b1 : (t210 != 0) = false := bne_eq_false_iff_eq.mpr c4
      clear c4
      (first | rw [c4b0] | (simp only [i64_w]; rw [c4b0]) | skip)
      by_cases c5 : (t209.length : Int) = 2
      · rw [if_pos c5] at H
        have c5b0 : ((t209.length : Int) == 2) = true := beq_iff_eq.mpr c5
        have c5b1 : ((t209.length : Int) != 2) = false := bne_eq_false_iff_eq.mpr c5
        clear c5
        by_cases c6 : 0 < (t209.length : Int)
        · rw [if_pos c6] at H
          have c6b0 : decide (0 < (t209.length : Int)) = true := decide_eq_true c6
          have c6b1 : decide (0 < t209.length) = true := decide_eq_true (by omega)
          clear c6
          by_cases c7 : (!((((rd_T38 t209 0).f0).toList) == ([48, 49] : List UInt8)) || (!((((rd_T38 t209 0).f1).toList) == ([48, 57, 53, 48, 49, 49, 48, 49, 53, 51, 48, 48, 48, 51] : List UInt8)))) = true
          · rw [if_pos c7] at H
            have c7b0 : (!((((rd_T38 t209 0).f0).toList) == ([48, 49] : List UInt8)) || (!((((rd_T38 t209 0).f1).toList) == ([48, 57, 53, 48, 49, 49, 48, 49, 53, 51, 48, 48, 48, 51] : List UInt8)))) = true := c7
            clear c7
            have H' := Aside0.mk H
            clear H
            obtain ⟨Ao8, co8, eo8⟩ := Kd.R_slice HO212.out
            subst eo8
            have p213 : 0 ≤ (0 : Int) := (by omega)
            have q213 : 0 < (t209.length : Int) := of_decide_eq_true (by first | (with_reducible assumption) | assumption)
            obtain ⟨ad213, e213, hx213_0, hx213_1⟩ := at_T38 (Kd.R_reads' HO212.out).2.2 0 p213 q213
            cases e213
            have qi213 : (0 < t209.length) = True := eq_true (by omega)
            (try rw [show ((0 : Int)).toNat = 0 from rfl] at hx213_0)
            (try rw [show 0 * 2 = 0 from rfl] at hx213_0)
            (try rw [Addr.add_zero'] at hx213_0)
            (try rw [show ((0 : Int)).toNat = 0 from rfl] at hx213_1)
            (try rw [show 0 * 2 = 0 from rfl] at hx213_1)
            (try rw [Addr.add_zero'] at hx213_1)
            replace p213 := eq_true p213
            replace q213 := eq_true q213
            (try (have h_ := of_eq_true q213; simp only [ByteArray.size_append, ByteArray.size_extract, Nat.min_self, Int.toNat_natCast, Nat.sub_zero, Int.natCast_add, size_lit, List.length_cons, List.length_nil, Nat.zero_add, Nat.reduceAdd, Int.natCast_one, Int.cast_ofNat_Int] at h_; have q213s := eq_true h_; clear h_))
            go_wp2
            go_meet
            case rel => exact ⟨_, (true), (by first | rfl | (simp; done) | (simp [*]; done)), H', ⟨by first | omega | exact Nat.le_refl _⟩, ⟨by (with_reducible repeat (first | apply Kd.R_alloc | apply Kd.R_drewN | apply Kd.R_drew)); exact HO212.out⟩, ⟨by repeat (first | (with_reducible first | exact HB.out | apply below_alloc | apply pw_below_drewN | apply below_drew1) | exact HB.out)⟩⟩
          · rw [if_neg c7] at H
            have c7b0 : (!((((rd_T38 t209 0).f0).toList) == ([48, 49] : List UInt8)) || (!((((rd_T38 t209 0).f1).toList) == ([48, 57, 53, 48, 49, 49, 48, 49, 53, 51, 48, 48, 48, 51] : List UInt8)))) = false := by simpa using c7
            clear c7
            by_cases c9 : 1 < (t209.length : Int)
            · rw [if_pos c9] at H
              have c9b0 : decide (1 < (t209.length : Int)) = true := decide_eq_true c9
              have c9b1 : decide (1 < t209.length) = true := decide_eq_true (by omega)
              clear c9
              have H' := Aside0.mk H
              clear H
              obtain ⟨Ao10, co10, eo10⟩ := Kd.R_slice HO212.out
              subst eo10
              have p213 : 0 ≤ (0 : Int) := (by omega)
              have q213 : 0 < (t209.length : Int) := of_decide_eq_true (by first | (with_reducible assumption) | assumption)
              obtain ⟨ad213, e213, hx213_0, hx213_1⟩ := at_T38 (Kd.R_reads' HO212.out).2.2 0 p213 q213
              cases e213
              have qi213 : (0 < t209.length) = True := eq_true (by omega)
              (try rw [show ((0 : Int)).toNat = 0 from rfl] at hx213_0)
              (try rw [show 0 * 2 = 0 from rfl] at hx213_0)
              (try rw [Addr.add_zero'] at hx213_0)
              (try rw [show ((0 : Int)).toNat = 0 from rfl] at hx213_1)
              (try rw [show 0 * 2 = 0 from rfl] at hx213_1)
              (try rw [Addr.add_zero'] at hx213_1)
              replace p213 := eq_true p213
              replace q213 := eq_true q213
              (try (have h_ := of_eq_true q213; simp only [ByteArray.size_append, ByteArray.size_extract, Nat.min_self, Int.toNat_natCast, Nat.sub_zero, Int.natCast_add, size_lit, List.length_cons, List.length_nil, Nat.zero_add, Nat.reduceAdd, Int.natCast_one, Int.cast_ofNat_Int] at h_; have q213s := eq_true h_; clear h_))
              have p214 : 0 ≤ (1 : Int) := (by omega)
              have q214 : 1 < (t209.length : Int) := of_decide_eq_true (by first | (with_reducible assumption) | assumption)
              obtain ⟨ad214, e214, hx214_0, hx214_1⟩ := at_T38 (Kd.R_reads' HO212.out).2.2 1 p214 q214
              obtain rfl : ad213 = ad214 := (by injection e214)
              (try simp only [show (1 : Int).toNat = 1 from rfl, Nat.reduceMul, Nat.reduceEqDiff, Go.Addr.add, ↓reduceIte] at hx214_0)
              (try simp only [show (1 : Int).toNat = 1 from rfl, Nat.reduceMul, Nat.reduceEqDiff, Go.Addr.add, ↓reduceIte] at hx214_1)
              have qi214 : (1 < t209.length) = True := eq_true (by omega)
              (try rw [show ((1 : Int)).toNat = 1 from rfl] at hx214_0)
              (try rw [show 1 * 2 = 2 from rfl] at hx214_0)
              (try rw [show ((1 : Int)).toNat = 1 from rfl] at hx214_1)
              (try rw [show 1 * 2 = 2 from rfl] at hx214_1)
              replace p214 := eq_true p214
              replace q214 := eq_true q214
              (try (have h_ := of_eq_true q214; simp only [ByteArray.size_append, ByteArray.size_extract, Nat.min_self, Int.toNat_natCast, Nat.sub_zero, Int.natCast_add, size_lit, List.length_cons, List.length_nil, Nat.zero_add, Nat.reduceAdd, Int.natCast_one, Int.cast_ofNat_Int] at h_; have q214s := eq_true h_; clear h_))
              go_wp2
              go_meet
              case rel => exact ⟨_, ((!((((rd_T38 t209 1).f0).toList) == ([49, 48] : List UInt8)) || (!((((rd_T38 t209 1).f1).toList) == ([65, 66] : List UInt8))))), (by first | rfl | (simp; done) | (simp [*]; done)), H', ⟨by first | omega | exact Nat.le_refl _⟩, ⟨by (with_reducible repeat (first | apply Kd.R_alloc | apply Kd.R_drewN | apply Kd.R_drew)); exact HO212.out⟩, ⟨by repeat (first | (with_reducible first | exact HB.out | apply below_alloc | apply pw_below_drewN | apply below_drew1) | exact HB.out)⟩⟩
            · rw [if_neg c9] at H
              exact absurd H (by simp)
        · rw [if_neg c6] at H
          exact absurd H (by simp)
      · rw [if_neg c5] at H
        have c5b0 : ((t209.length : Int) == 2) = false := beq_eq_false_iff_ne.mpr c5
        have c5b1 : ((t209.length : Int) != 2) = true := bne_iff_ne.mpr c5
        have H' := Aside0.mk H
        clear H
        obtain ⟨Ao11, co11, eo11⟩ := Kd.R_slice HO212.out
        subst eo11
        go_wp2
        go_meet
        case rel => exact ⟨_, (true), (by first | rfl | (simp; done) | (simp [*]; done)), H', ⟨by first | omega | exact Nat.le_refl _⟩, ⟨by (with_reducible repeat (first | apply Kd.R_alloc | apply Kd.R_drewN | apply Kd.R_drew)); exact HO212.out⟩, ⟨by repeat (first | (with_reducible first | exact HB.out | apply below_alloc | apply pw_below_drewN | apply below_drew1) | exact HB.out)⟩⟩
    · rw [if_neg c4] at H
      have c4b0 : (t210 == 0) = false := beq_eq_false_iff_ne.mpr c4
      have c4b1 : (t210 != 0) = true := bne_iff_ne.mpr c4
      (first | rw [c4b0] | (simp only [i64_w]; rw [c4b0]) | skip)
      have H' := Aside0.mk H
      clear H
      go_wp2
      go_meet
      case rel => exact ⟨_, (true), (by first | rfl | (simp; done) | (simp [*]; done)), H', ⟨by first | omega | exact Nat.le_refl _⟩, ⟨by (with_reducible repeat (first | apply Kd.R_alloc | apply Kd.R_drewN | apply Kd.R_drew)); exact HO212.out⟩, ⟨by repeat (first | (with_reducible first | exact HB.out | apply below_alloc | apply pw_below_drewN | apply below_drew1) | exact HB.out)⟩⟩
  case rest =>
    clear HC2
    try clear c1
    try clear p2
    try clear q2
    try clear hx2
    try clear qi2
    try clear c4
    try clear c4b0
    try clear c4b1
    try clear c5
    try clear c5b0
    try clear c5b1
    try clear c6
    try clear c6b0
    try clear c6b1
    try clear c7
    try clear c7b0
    try clear c8
    try clear c9
    try clear c9b0
    try clear c9b1
    try clear hx213_0
    try clear hx213_1
    try clear hx214_0
    try clear hx214_1
    try clear p213
    try clear p214
    try clear q213
    try clear q214
    obtain ⟨kq, x36_1, rfl, HA, HJ1, HO_1, HB⟩ := hcut
    cases kq with
    | zero => exact absurd HA.out (by simp [barscanlaw14_examples.j0])
    | succ kj1 =>
      have H := HA.out
      clear HA
      simp only [barscanlaw14_examples.j0] at H
      by_cases c12 : x36_1 = true
      · subst c12
        have H1 : (some false) = some r := by rw [if_pos rfl] at H; exact H
        clear H
        have H := H1
        clear H1
        obtain rfl := Option.some.inj H
        go_wp2
        go_ret
        exact ⟨by first | rfl | (simp [errW_none, errW_some] <;> rfl) | (simp [*, errW_none, errW_some] <;> rfl), by repeat (first | (with_reducible first | exact HB.out | apply below_alloc | apply pw_below_drewN | apply below_drew1) | exact HB.out)⟩
      · replace c12 := Bool.eq_false_iff.mpr c12
        subst c12
        have H1 : ((gs1_Format.f kj1 t209).bind fun bt215 => ((gs1_Chars.f kj1 t209).bind fun bt217 => ((gs1_FromChars.f kj1 bt217.1).bind fun bt221 => ((gs1_Fixed.f (⟨#[48, 49]⟩ : ByteArray)).bind fun bt225 => (if bt215.2 = 0 then (if bt215.1.toList = ([40, 48, 49, 41, 48, 57, 53, 48, 49, 49, 48, 49, 53, 51, 48, 48, 48, 51, 40, 49, 48, 41, 65, 66] : List UInt8) then (if bt217.2 = 0 then (if (bt217.1.length : Int) = 21 then (if 0 < (bt217.1.length : Int) then (if (rd bt217.1 0) = 256 then (if 20 < (bt217.1.length : Int) then (if (rd bt217.1 20) = 66 then (if bt221.2 = 0 then ((barscanlaw14_same.f kj1 t209 bt221.1).bind fun t230 => (if t230 = true then (if bt225.1 = 14 then (if bt225.2.1 = 14 then (if bt225.2.2 = 0 then ((gs1_Verify.f kj1 (⟨#[49, 55]⟩ : ByteArray) (⟨#[50, 51, 48, 50, 50, 57]⟩ : ByteArray)).bind fun t231 => (some (t231 == 9))) else (some false)) else (some false)) else (some false)) else (some false))) else (some false)) else (some false)) else (none)) else (some false)) else (none)) else (some false)) else (some false)) else (some false)) else (some false)))))) = some r := by rw [if_neg (show ¬ (false = true) by decide)] at H; exact H
        clear H
        have H := H1
        clear H1
        replace H := Option.bind_eq_some_iff.mp H
        obtain ⟨⟨t215, t216⟩, A130, H⟩ := H
        replace H : ((gs1_Chars.f kj1 t209).bind fun bt217 => ((gs1_FromChars.f kj1 bt217.1).bind fun bt221 => ((gs1_Fixed.f (⟨#[48, 49]⟩ : ByteArray)).bind fun bt225 => (if t216 = 0 then (if t215.toList = ([40, 48, 49, 41, 48, 57, 53, 48, 49, 49, 48, 49, 53, 51, 48, 48, 48, 51, 40, 49, 48, 41, 65, 66] : List UInt8) then (if bt217.2 = 0 then (if (bt217.1.length : Int) = 21 then (if 0 < (bt217.1.length : Int) then (if (rd bt217.1 0) = 256 then (if 20 < (bt217.1.length : Int) then (if (rd bt217.1 20) = 66 then (if bt221.2 = 0 then ((barscanlaw14_same.f kj1 t209 bt221.1).bind fun t230 => (if t230 = true then (if bt225.1 = 14 then (if bt225.2.1 = 14 then (if bt225.2.2 = 0 then ((gs1_Verify.f kj1 (⟨#[49, 55]⟩ : ByteArray) (⟨#[50, 51, 48, 50, 50, 57]⟩ : ByteArray)).bind fun t231 => (some (t231 == 9))) else (some false)) else (some false)) else (some false)) else (some false))) else (some false)) else (some false)) else (none)) else (some false)) else (none)) else (some false)) else (some false)) else (some false)) else (some false))))) = some r := H
        have A13 := Aside0.mk A130
        clear A130
        replace H := Option.bind_eq_some_iff.mp H
        obtain ⟨⟨t217, t218⟩, A140, H⟩ := H
        replace H : ((gs1_FromChars.f kj1 t217).bind fun bt221 => ((gs1_Fixed.f (⟨#[48, 49]⟩ : ByteArray)).bind fun bt225 => (if t216 = 0 then (if t215.toList = ([40, 48, 49, 41, 48, 57, 53, 48, 49, 49, 48, 49, 53, 51, 48, 48, 48, 51, 40, 49, 48, 41, 65, 66] : List UInt8) then (if t218 = 0 then (if (t217.length : Int) = 21 then (if 0 < (t217.length : Int) then (if (rd t217 0) = 256 then (if 20 < (t217.length : Int) then (if (rd t217 20) = 66 then (if bt221.2 = 0 then ((barscanlaw14_same.f kj1 t209 bt221.1).bind fun t230 => (if t230 = true then (if bt225.1 = 14 then (if bt225.2.1 = 14 then (if bt225.2.2 = 0 then ((gs1_Verify.f kj1 (⟨#[49, 55]⟩ : ByteArray) (⟨#[50, 51, 48, 50, 50, 57]⟩ : ByteArray)).bind fun t231 => (some (t231 == 9))) else (some false)) else (some false)) else (some false)) else (some false))) else (some false)) else (some false)) else (none)) else (some false)) else (none)) else (some false)) else (some false)) else (some false)) else (some false)))) = some r := H
        have A14 := Aside0.mk A140
        clear A140
        replace H := Option.bind_eq_some_iff.mp H
        obtain ⟨⟨t221, t224⟩, A150, H⟩ := H
        replace H : ((gs1_Fixed.f (⟨#[48, 49]⟩ : ByteArray)).bind fun bt225 => (if t216 = 0 then (if t215.toList = ([40, 48, 49, 41, 48, 57, 53, 48, 49, 49, 48, 49, 53, 51, 48, 48, 48, 51, 40, 49, 48, 41, 65, 66] : List UInt8) then (if t218 = 0 then (if (t217.length : Int) = 21 then (if 0 < (t217.length : Int) then (if (rd t217 0) = 256 then (if 20 < (t217.length : Int) then (if (rd t217 20) = 66 then (if t224 = 0 then ((barscanlaw14_same.f kj1 t209 t221).bind fun t230 => (if t230 = true then (if bt225.1 = 14 then (if bt225.2.1 = 14 then (if bt225.2.2 = 0 then ((gs1_Verify.f kj1 (⟨#[49, 55]⟩ : ByteArray) (⟨#[50, 51, 48, 50, 50, 57]⟩ : ByteArray)).bind fun t231 => (some (t231 == 9))) else (some false)) else (some false)) else (some false)) else (some false))) else (some false)) else (some false)) else (none)) else (some false)) else (none)) else (some false)) else (some false)) else (some false)) else (some false))) = some r := H
        have A15 := Aside0.mk A150
        clear A150
        replace H := Option.bind_eq_some_iff.mp H
        obtain ⟨⟨t225, t226, t227⟩, A160, H⟩ := H
        replace H : (if t216 = 0 then (if t215.toList = ([40, 48, 49, 41, 48, 57, 53, 48, 49, 49, 48, 49, 53, 51, 48, 48, 48, 51, 40, 49, 48, 41, 65, 66] : List UInt8) then (if t218 = 0 then (if (t217.length : Int) = 21 then (if 0 < (t217.length : Int) then (if (rd t217 0) = 256 then (if 20 < (t217.length : Int) then (if (rd t217 20) = 66 then (if t224 = 0 then ((barscanlaw14_same.f kj1 t209 t221).bind fun t230 => (if t230 = true then (if t225 = 14 then (if t226 = 14 then (if t227 = 0 then ((gs1_Verify.f kj1 (⟨#[49, 55]⟩ : ByteArray) (⟨#[50, 51, 48, 50, 50, 57]⟩ : ByteArray)).bind fun t231 => (some (t231 == 9))) else (some false)) else (some false)) else (some false)) else (some false))) else (some false)) else (some false)) else (none)) else (some false)) else (none)) else (some false)) else (some false)) else (some false)) else (some false)) = some r := H
        have A16 := Aside0.mk A160
        clear A160
        by_cases c17 : t216 = 0
        · rw [if_pos c17] at H
          have c17b0 : (t216 == 0) = true := beq_iff_eq.mpr c17
          have c17b1 : (t216 != 0) = false := bne_eq_false_iff_eq.mpr c17
          clear c17
          by_cases c18 : t215.toList = ([40, 48, 49, 41, 48, 57, 53, 48, 49, 49, 48, 49, 53, 51, 48, 48, 48, 51, 40, 49, 48, 41, 65, 66] : List UInt8)
          · rw [if_pos c18] at H
            have c18b0 : (t215.toList == ([40, 48, 49, 41, 48, 57, 53, 48, 49, 49, 48, 49, 53, 51, 48, 48, 48, 51, 40, 49, 48, 41, 65, 66] : List UInt8)) = true := beq_iff_eq.mpr c18
            have c18b1 : (t215.toList != ([40, 48, 49, 41, 48, 57, 53, 48, 49, 49, 48, 49, 53, 51, 48, 48, 48, 51, 40, 49, 48, 41, 65, 66] : List UInt8)) = false := bne_eq_false_iff_eq.mpr c18
            clear c18
            by_cases c19 : t218 = 0
            · rw [if_pos c19] at H
              have c19b0 : (t218 == 0) = true := beq_iff_eq.mpr c19
              have c19b1 : (t218 != 0) = false := bne_eq_false_iff_eq.mpr c19
              clear c19
              by_cases c20 : (t217.length : Int) = 21
              · rw [if_pos c20] at H
                have c20b0 : ((t217.length : Int) == 21) = true := beq_iff_eq.mpr c20
                have c20b1 : ((t217.length : Int) != 21) = false := bne_eq_false_iff_eq.mpr c20
                clear c20
                by_cases c21 : 0 < (t217.length : Int)
                · rw [if_pos c21] at H
                  have c21b0 : decide (0 < (t217.length : Int)) = true := decide_eq_true c21
                  have c21b1 : decide (0 < t217.length) = true := decide_eq_true (by omega)
                  clear c21
                  by_cases c22 : (rd t217 0) = 256
                  · rw [if_pos c22] at H
                    have c22b0 : ((rd t217 0) == 256) = true := beq_iff_eq.mpr c22
                    have c22b1 : ((rd t217 0) != 256) = false := bne_eq_false_iff_eq.mpr c22
                    clear c22
                    by_cases c23 : 20 < (t217.length : Int)
                    · rw [if_pos c23] at H
                      have c23b0 : decide (20 < (t217.length : Int)) = true := decide_eq_true c23
                      have c23b1 : decide (20 < t217.length) = true := decide_eq_true (by omega)
                      clear c23
                      by_cases c24 : (rd t217 20) = 66
                      · rw [if_pos c24] at H
                        have c24b0 : ((rd t217 20) == 66) = true := beq_iff_eq.mpr c24
                        have c24b1 : ((rd t217 20) != 66) = false := bne_eq_false_iff_eq.mpr c24
                        clear c24
                        by_cases c25 : t224 = 0
                        · rw [if_pos c25] at H
                          have c25b0 : (t224 == 0) = true := beq_iff_eq.mpr c25
                          have c25b1 : (t224 != 0) = false := bne_eq_false_iff_eq.mpr c25
                          clear c25
                          replace H := Option.bind_eq_some_iff.mp H
                          obtain ⟨t230, A260, H⟩ := H
                          replace H : (if t230 = true then (if t225 = 14 then (if t226 = 14 then (if t227 = 0 then ((gs1_Verify.f kj1 (⟨#[49, 55]⟩ : ByteArray) (⟨#[50, 51, 48, 50, 50, 57]⟩ : ByteArray)).bind fun t231 => (some (t231 == 9))) else (some false)) else (some false)) else (some false)) else (some false)) = some r := H
                          have A26 := Aside0.mk A260
                          clear A260
                          by_cases c27 : t230 = true
                          · subst c27
                            have H1 : (if t225 = 14 then (if t226 = 14 then (if t227 = 0 then ((gs1_Verify.f kj1 (⟨#[49, 55]⟩ : ByteArray) (⟨#[50, 51, 48, 50, 50, 57]⟩ : ByteArray)).bind fun t231 => (some (t231 == 9))) else (some false)) else (some false)) else (some false)) = some r := by rw [if_pos rfl] at H; exact H
                            clear H
                            have H := H1
                            clear H1
                            by_cases c28 : t225 = 14
                            · rw [if_pos c28] at H
                              have c28b0 : (t225 == 14) = true := beq_iff_eq.mpr c28
                              have c28b1 : (t225 != 14) = false := bne_eq_false_iff_eq.mpr c28
                              clear c28
                              by_cases c29 : t226 = 14
                              · rw [if_pos c29] at H
                                have c29b0 : (t226 == 14) = true := beq_iff_eq.mpr c29
                                have c29b1 : (t226 != 14) = false := bne_eq_false_iff_eq.mpr c29
                                clear c29
                                by_cases c30 : t227 = 0
                                · rw [if_pos c30] at H
                                  have c30b0 : (t227 == 0) = true := beq_iff_eq.mpr c30
                                  have c30b1 : (t227 != 0) = false := bne_eq_false_iff_eq.mpr c30
                                  clear c30
                                  replace H := Option.bind_eq_some_iff.mp H
                                  obtain ⟨t231, A310, H⟩ := H
                                  replace H : (some (t231 == 9)) = some r := H
                                  have A31 := Aside0.mk A310
                                  clear A310
                                  obtain rfl := Option.some.inj H
                                  obtain ⟨Ao32, co32, eo32⟩ := Kd.R_slice HO_1.out
                                  subst eo32
                                  go_wp2_with (first | ((with_reducible refine gate_callee (f := 7) rfl ?_); refine goesL_ (some 39) rfl rfl Tryd.func7 (by kernel_rfl) rfl #[.slice Ao32 t209.length co32] rfl (by (try simp only [List.map_toArray, List.map_cons, List.map_nil]); first | done | rfl | (simp only [List.length_drop, List.length_take]; rfl)) ?_; (with_reducible refine (gs1_Format.calls kj1 _ _ t209 t215 t216 _ ?side3 ?side1 ?side2 A13.out).mono ?_); (case side1 => repeat (first | exact (Kd.R_reads' HO_1.out).2.2 | (with_reducible refine Kd.C_alloc ?_ _) | (with_reducible refine Kd.C_drewN ?_ _) | (with_reducible refine Kd.C_drew ?_))); (case side2 => exact (Kd.R_reads' HO_1.out).2.1); (case side3 => exact Tabs.below HT.out (by repeat (first | (with_reducible first | exact HB.out | apply below_alloc | apply pw_below_drewN | apply below_drew1) | exact HB.out))); rintro e w33 ⟨rfl, hb⟩; refine ⟨_, rfl, ?_⟩; have n0_ := Aside0.mk (Kd.R_below (by (with_reducible repeat (first | apply Kd.R_alloc | apply Kd.R_drewN | apply Kd.R_drew)); exact HO_1.out) hb); have n1_ := Aside0.mk (below_step (by repeat (first | (with_reducible first | exact HB.out | apply below_alloc | apply pw_below_drewN | apply below_drew1) | exact HB.out)) hb); clear HO_1; clear HB; have HO_1 := n0_; have HB := n1_; clear n0_ n1_; (try clear hb); (try clear hb2); (try clear hk); (try clear hi)) | ((with_reducible refine gate_callee (f := 10) rfl ?_); refine goesL_ (some 44) rfl rfl Tryd.func10 (by kernel_rfl) rfl #[.slice Ao32 t209.length co32] rfl (by (try simp only [List.map_toArray, List.map_cons, List.map_nil]); first | done | rfl | (simp only [List.length_drop, List.length_take]; rfl)) ?_; (with_reducible refine (gs1_Chars.calls kj1 _ _ t209 t217 t218 _ ?side3 ?side1 ?side2 A14.out).mono ?_); (case side1 => repeat (first | exact (Kd.R_reads' HO_1.out).2.2 | (with_reducible refine Kd.C_alloc ?_ _) | (with_reducible refine Kd.C_drewN ?_ _) | (with_reducible refine Kd.C_drew ?_))); (case side2 => exact (Kd.R_reads' HO_1.out).2.1); (case side3 => exact Tabs.below HT.out (by repeat (first | (with_reducible first | exact HB.out | apply below_alloc | apply pw_below_drewN | apply below_drew1) | exact HB.out))); rintro e w34 ⟨v219, rfl, ho0, hb⟩; refine ⟨_, rfl, ?_⟩; have n0_ := Aside0.mk (Kd.R_below (by (with_reducible repeat (first | apply Kd.R_alloc | apply Kd.R_drewN | apply Kd.R_drew)); exact HO_1.out) hb); have n1_ := Aside0.mk (Kd.R_lower ho0 (below_size (by repeat (first | (with_reducible first | exact HB.out | apply below_alloc | apply pw_below_drewN | apply below_drew1) | exact HB.out)))); have n2_ := Aside0.mk (below_step (by repeat (first | (with_reducible first | exact HB.out | apply below_alloc | apply pw_below_drewN | apply below_drew1) | exact HB.out)) hb); clear HO_1; clear HB; have HO_1 := n0_; have HO220 := n1_; have HB := n2_; clear n0_ n1_ n2_; (try clear hb); (try clear hb2); (try clear hk); (try clear hi); (try clear ho0); obtain ⟨Ao35, co35, eo35⟩ := Kd.R_slice HO220.out; subst eo35) | ((with_reducible refine gate_callee (f := 11) rfl ?_); refine goesL_ (some 49) rfl rfl Tryd.func11 (by kernel_rfl) rfl #[.slice Ao35 t217.length co35] rfl (by (try simp only [List.map_toArray, List.map_cons, List.map_nil]); first | done | rfl | (simp only [List.length_drop, List.length_take]; rfl)) ?_; (with_reducible refine (gs1_FromChars.calls kj1 (fun k_ => some k_ = (.slice Ao35 t217.length co35 : Value).ownBlock) _ _ t217 t221 t224 _ ?side2 ?side1 A15.out).mono ?_); (case side1 => exact Kd.R_V (Kd.R_tight rfl (Kd.R_apart' (HO220.out) (Kd.R_typed HO_1.out) (by decide)))); (case side2 => exact Tabs.below HT.out (by repeat (first | (with_reducible first | exact HB.out | apply below_alloc | apply pw_below_drewN | apply below_drew1) | exact HB.out))); rintro e w36 ⟨v222, rfl, ho0, hb⟩; refine ⟨_, rfl, ?_⟩; have n0_ := Aside0.mk (Kd.R_elder' (by (with_reducible repeat (first | apply Kd.R_alloc | apply Kd.R_drewN | apply Kd.R_drew)); exact HO_1.out) (Kd.R_base ho0) hb); have n1_ := Aside0.mk (Kd.R_below (by (with_reducible repeat (first | apply Kd.R_alloc | apply Kd.R_drewN | apply Kd.R_drew)); exact HO220.out) hb); have n2_ := Aside0.mk (Kd.R_lower (Kd.R_new' (Kd.R_mono (ok' := fun k_ => True) ho0 (fun _ hk_ => trivial)) (Kd.R_lt (by (with_reducible repeat (first | apply Kd.R_alloc | apply Kd.R_drewN | apply Kd.R_drew)); exact HO_1.out))) (below_size (by repeat (first | (with_reducible first | exact HB.out | apply below_alloc | apply pw_below_drewN | apply below_drew1) | exact HB.out)))); have n3_ := Aside0.mk (below_step (by repeat (first | (with_reducible first | exact HB.out | apply below_alloc | apply pw_below_drewN | apply below_drew1) | exact HB.out)) hb); clear HO_1; clear HO220; clear HB; have HO_1 := n0_; have HO220 := n1_; have HO223 := n2_; have HB := n3_; clear n0_ n1_ n2_ n3_; (try clear hb); (try clear hb2); (try clear hk); (try clear hi); (try clear ho0)) | ((with_reducible refine gate_callee (f := 14) rfl ?_); refine goesL_ (some 53) rfl rfl Tryd.func14 (by kernel_rfl) rfl #[.string (⟨#[48, 49]⟩ : ByteArray)] rfl (by (try simp only [List.map_toArray, List.map_cons, List.map_nil]); first | done | rfl | (simp only [List.length_drop, List.length_take]; rfl)) ?_; (with_reducible refine (gs1_Fixed.calls (⟨#[48, 49]⟩ : ByteArray) t225 t226 t227 _ ?side1 A16.out).mono ?_); (case side1 => exact Tabs.below HT.out (by repeat (first | (with_reducible first | exact HB.out | apply below_alloc | apply pw_below_drewN | apply below_drew1) | exact HB.out))); rintro e w37 ⟨rfl, hb⟩; refine ⟨_, rfl, ?_⟩; have n0_ := Aside0.mk (Kd.R_below (by (with_reducible repeat (first | apply Kd.R_alloc | apply Kd.R_drewN | apply Kd.R_drew)); exact HO_1.out) hb); have n1_ := Aside0.mk (Kd.R_below (by (with_reducible repeat (first | apply Kd.R_alloc | apply Kd.R_drewN | apply Kd.R_drew)); exact HO220.out) hb); have n2_ := Aside0.mk (Kd.R_below (by (with_reducible repeat (first | apply Kd.R_alloc | apply Kd.R_drewN | apply Kd.R_drew)); exact HO223.out) hb); have n3_ := Aside0.mk (below_step (by repeat (first | (with_reducible first | exact HB.out | apply below_alloc | apply pw_below_drewN | apply below_drew1) | exact HB.out)) hb); clear HO_1; clear HO220; clear HO223; clear HB; have HO_1 := n0_; have HO220 := n1_; have HO223 := n2_; have HB := n3_; clear n0_ n1_ n2_ n3_; (try clear hb); (try clear hb2); (try clear hk); (try clear hi); have p228 : 0 ≤ (0 : Int) := (by omega); have q228 : 0 < (t217.length : Int) := of_decide_eq_true (by first | (with_reducible assumption) | assumption); obtain ⟨ad228, e228, hx228_0⟩ := Kd.at_int (Kd.R_reads' HO220.out).2.2 0 p228 q228; cases e228; have qi228 : (0 < t217.length) = True := eq_true (by omega); (try rw [show ((0 : Int)).toNat = 0 from rfl] at hx228_0); (try rw [Addr.add_zero'] at hx228_0); replace p228 := eq_true p228; replace q228 := eq_true q228; have p229 : 0 ≤ (20 : Int) := (by omega); have q229 : 20 < (t217.length : Int) := of_decide_eq_true (by first | (with_reducible assumption) | assumption); obtain ⟨ad229, e229, hx229_0⟩ := Kd.at_int (Kd.R_reads' HO220.out).2.2 20 p229 q229; obtain rfl : ad228 = ad229 := (by injection e229); (try simp only [show (20 : Int).toNat = 20 from rfl, Nat.reduceMul, Nat.reduceEqDiff, Go.Addr.add, ↓reduceIte] at hx229_0); have qi229 : (20 < t217.length) = True := eq_true (by omega); (try rw [show ((20 : Int)).toNat = 20 from rfl] at hx229_0); replace p229 := eq_true p229; replace q229 := eq_true q229; obtain ⟨Ao38, co38, eo38⟩ := Kd.R_slice HO223.out; subst eo38) | (go_at_call 9; (with_reducible refine (barscanlaw14_same.calls kj1 _ _ t209 _ _ t221 true _ ?side1 ?side2 ?side3 ?side4 A26.out).mono ?_); (case side1 => repeat (first | exact (Kd.R_reads' HO_1.out).2.2 | (with_reducible refine Kd.C_alloc ?_ _) | (with_reducible refine Kd.C_drewN ?_ _) | (with_reducible refine Kd.C_drew ?_))); (case side2 => exact (Kd.R_reads' HO_1.out).2.1); (case side3 => repeat (first | exact (Kd.R_reads' HO223.out).2.2 | (with_reducible refine Kd.C_alloc ?_ _) | (with_reducible refine Kd.C_drewN ?_ _) | (with_reducible refine Kd.C_drew ?_))); (case side4 => exact (Kd.R_reads' HO223.out).2.1); rintro e w' ⟨rfl, ⟨nd, rfl⟩⟩) | (go_at_call 15; (with_reducible refine (gs1_Verify.calls kj1 (⟨#[49, 55]⟩ : ByteArray) (⟨#[50, 51, 48, 50, 50, 57]⟩ : ByteArray) t231 _ ?side1 A31.out).mono ?_); (case side1 => exact Tabs.below HT.out (by repeat (first | (with_reducible first | exact HB.out | apply below_alloc | apply pw_below_drewN | apply below_drew1) | exact HB.out))); rintro e w39 ⟨rfl, hb⟩; have n0_ := Aside0.mk (Kd.R_below (by (with_reducible repeat (first | apply Kd.R_alloc | apply Kd.R_drewN | apply Kd.R_drew)); exact HO_1.out) hb); have n1_ := Aside0.mk (Kd.R_below (by (with_reducible repeat (first | apply Kd.R_alloc | apply Kd.R_drewN | apply Kd.R_drew)); exact HO220.out) hb); have n2_ := Aside0.mk (Kd.R_below (by (with_reducible repeat (first | apply Kd.R_alloc | apply Kd.R_drewN | apply Kd.R_drew)); exact HO223.out) hb); have n3_ := Aside0.mk (below_step (by repeat (first | (with_reducible first | exact HB.out | apply below_alloc | apply pw_below_drewN | apply below_drew1) | exact HB.out)) hb); clear HO_1; clear HO220; clear HO223; clear HB; have HO_1 := n0_; have HO220 := n1_; have HO223 := n2_; have HB := n3_; clear n0_ n1_ n2_ n3_; (try clear hb); (try clear hb2); (try clear hk); (try clear hi)))
                                  go_ret
                                  exact ⟨by first | rfl | (simp [errW_none, errW_some] <;> rfl) | (simp [*, errW_none, errW_some] <;> rfl), by repeat (first | (with_reducible first | exact HB.out | apply below_alloc | apply pw_below_drewN | apply below_drew1) | exact HB.out)⟩
                                · rw [if_neg c30] at H
                                  have c30b0 : (t227 == 0) = false := beq_eq_false_iff_ne.mpr c30
                                  have c30b1 : (t227 != 0) = true := bne_iff_ne.mpr c30
                                  obtain rfl := Option.some.inj H
                                  obtain ⟨Ao40, co40, eo40⟩ := Kd.R_slice HO_1.out
                                  subst eo40
                                  go_wp2_with (first | ((with_reducible refine gate_callee (f := 7) rfl ?_); refine goesL_ (some 39) rfl rfl Tryd.func7 (by kernel_rfl) rfl #[.slice Ao40 t209.length co40] rfl (by (try simp only [List.map_toArray, List.map_cons, List.map_nil]); first | done | rfl | (simp only [List.length_drop, List.length_take]; rfl)) ?_; (with_reducible refine (gs1_Format.calls kj1 _ _ t209 t215 t216 _ ?side3 ?side1 ?side2 A13.out).mono ?_); (case side1 => repeat (first | exact (Kd.R_reads' HO_1.out).2.2 | (with_reducible refine Kd.C_alloc ?_ _) | (with_reducible refine Kd.C_drewN ?_ _) | (with_reducible refine Kd.C_drew ?_))); (case side2 => exact (Kd.R_reads' HO_1.out).2.1); (case side3 => exact Tabs.below HT.out (by repeat (first | (with_reducible first | exact HB.out | apply below_alloc | apply pw_below_drewN | apply below_drew1) | exact HB.out))); rintro e w41 ⟨rfl, hb⟩; refine ⟨_, rfl, ?_⟩; have n0_ := Aside0.mk (Kd.R_below (by (with_reducible repeat (first | apply Kd.R_alloc | apply Kd.R_drewN | apply Kd.R_drew)); exact HO_1.out) hb); have n1_ := Aside0.mk (below_step (by repeat (first | (with_reducible first | exact HB.out | apply below_alloc | apply pw_below_drewN | apply below_drew1) | exact HB.out)) hb); clear HO_1; clear HB; have HO_1 := n0_; have HB := n1_; clear n0_ n1_; (try clear hb); (try clear hb2); (try clear hk); (try clear hi)) | ((with_reducible refine gate_callee (f := 10) rfl ?_); refine goesL_ (some 44) rfl rfl Tryd.func10 (by kernel_rfl) rfl #[.slice Ao40 t209.length co40] rfl (by (try simp only [List.map_toArray, List.map_cons, List.map_nil]); first | done | rfl | (simp only [List.length_drop, List.length_take]; rfl)) ?_; (with_reducible refine (gs1_Chars.calls kj1 _ _ t209 t217 t218 _ ?side3 ?side1 ?side2 A14.out).mono ?_); (case side1 => repeat (first | exact (Kd.R_reads' HO_1.out).2.2 | (with_reducible refine Kd.C_alloc ?_ _) | (with_reducible refine Kd.C_drewN ?_ _) | (with_reducible refine Kd.C_drew ?_))); (case side2 => exact (Kd.R_reads' HO_1.out).2.1); (case side3 => exact Tabs.below HT.out (by repeat (first | (with_reducible first | exact HB.out | apply below_alloc | apply pw_below_drewN | apply below_drew1) | exact HB.out))); rintro e w42 ⟨v219, rfl, ho0, hb⟩; refine ⟨_, rfl, ?_⟩; have n0_ := Aside0.mk (Kd.R_below (by (with_reducible repeat (first | apply Kd.R_alloc | apply Kd.R_drewN | apply Kd.R_drew)); exact HO_1.out) hb); have n1_ := Aside0.mk (Kd.R_lower ho0 (below_size (by repeat (first | (with_reducible first | exact HB.out | apply below_alloc | apply pw_below_drewN | apply below_drew1) | exact HB.out)))); have n2_ := Aside0.mk (below_step (by repeat (first | (with_reducible first | exact HB.out | apply below_alloc | apply pw_below_drewN | apply below_drew1) | exact HB.out)) hb); clear HO_1; clear HB; have HO_1 := n0_; have HO220 := n1_; have HB := n2_; clear n0_ n1_ n2_; (try clear hb); (try clear hb2); (try clear hk); (try clear hi); (try clear ho0); obtain ⟨Ao43, co43, eo43⟩ := Kd.R_slice HO220.out; subst eo43) | ((with_reducible refine gate_callee (f := 11) rfl ?_); refine goesL_ (some 49) rfl rfl Tryd.func11 (by kernel_rfl) rfl #[.slice Ao43 t217.length co43] rfl (by (try simp only [List.map_toArray, List.map_cons, List.map_nil]); first | done | rfl | (simp only [List.length_drop, List.length_take]; rfl)) ?_; (with_reducible refine (gs1_FromChars.calls kj1 (fun k_ => some k_ = (.slice Ao43 t217.length co43 : Value).ownBlock) _ _ t217 t221 t224 _ ?side2 ?side1 A15.out).mono ?_); (case side1 => exact Kd.R_V (Kd.R_tight rfl (Kd.R_apart' (HO220.out) (Kd.R_typed HO_1.out) (by decide)))); (case side2 => exact Tabs.below HT.out (by repeat (first | (with_reducible first | exact HB.out | apply below_alloc | apply pw_below_drewN | apply below_drew1) | exact HB.out))); rintro e w44 ⟨v222, rfl, ho0, hb⟩; refine ⟨_, rfl, ?_⟩; have n0_ := Aside0.mk (Kd.R_elder' (by (with_reducible repeat (first | apply Kd.R_alloc | apply Kd.R_drewN | apply Kd.R_drew)); exact HO_1.out) (Kd.R_base ho0) hb); have n1_ := Aside0.mk (Kd.R_below (by (with_reducible repeat (first | apply Kd.R_alloc | apply Kd.R_drewN | apply Kd.R_drew)); exact HO220.out) hb); have n2_ := Aside0.mk (Kd.R_lower (Kd.R_new' (Kd.R_mono (ok' := fun k_ => True) ho0 (fun _ hk_ => trivial)) (Kd.R_lt (by (with_reducible repeat (first | apply Kd.R_alloc | apply Kd.R_drewN | apply Kd.R_drew)); exact HO_1.out))) (below_size (by repeat (first | (with_reducible first | exact HB.out | apply below_alloc | apply pw_below_drewN | apply below_drew1) | exact HB.out)))); have n3_ := Aside0.mk (below_step (by repeat (first | (with_reducible first | exact HB.out | apply below_alloc | apply pw_below_drewN | apply below_drew1) | exact HB.out)) hb); clear HO_1; clear HO220; clear HB; have HO_1 := n0_; have HO220 := n1_; have HO223 := n2_; have HB := n3_; clear n0_ n1_ n2_ n3_; (try clear hb); (try clear hb2); (try clear hk); (try clear hi); (try clear ho0)) | ((with_reducible refine gate_callee (f := 14) rfl ?_); refine goesL_ (some 53) rfl rfl Tryd.func14 (by kernel_rfl) rfl #[.string (⟨#[48, 49]⟩ : ByteArray)] rfl (by (try simp only [List.map_toArray, List.map_cons, List.map_nil]); first | done | rfl | (simp only [List.length_drop, List.length_take]; rfl)) ?_; (with_reducible refine (gs1_Fixed.calls (⟨#[48, 49]⟩ : ByteArray) t225 t226 t227 _ ?side1 A16.out).mono ?_); (case side1 => exact Tabs.below HT.out (by repeat (first | (with_reducible first | exact HB.out | apply below_alloc | apply pw_below_drewN | apply below_drew1) | exact HB.out))); rintro e w45 ⟨rfl, hb⟩; refine ⟨_, rfl, ?_⟩; have n0_ := Aside0.mk (Kd.R_below (by (with_reducible repeat (first | apply Kd.R_alloc | apply Kd.R_drewN | apply Kd.R_drew)); exact HO_1.out) hb); have n1_ := Aside0.mk (Kd.R_below (by (with_reducible repeat (first | apply Kd.R_alloc | apply Kd.R_drewN | apply Kd.R_drew)); exact HO220.out) hb); have n2_ := Aside0.mk (Kd.R_below (by (with_reducible repeat (first | apply Kd.R_alloc | apply Kd.R_drewN | apply Kd.R_drew)); exact HO223.out) hb); have n3_ := Aside0.mk (below_step (by repeat (first | (with_reducible first | exact HB.out | apply below_alloc | apply pw_below_drewN | apply below_drew1) | exact HB.out)) hb); clear HO_1; clear HO220; clear HO223; clear HB; have HO_1 := n0_; have HO220 := n1_; have HO223 := n2_; have HB := n3_; clear n0_ n1_ n2_ n3_; (try clear hb); (try clear hb2); (try clear hk); (try clear hi); have p228 : 0 ≤ (0 : Int) := (by omega); have q228 : 0 < (t217.length : Int) := of_decide_eq_true (by first | (with_reducible assumption) | assumption); obtain ⟨ad228, e228, hx228_0⟩ := Kd.at_int (Kd.R_reads' HO220.out).2.2 0 p228 q228; cases e228; have qi228 : (0 < t217.length) = True := eq_true (by omega); (try rw [show ((0 : Int)).toNat = 0 from rfl] at hx228_0); (try rw [Addr.add_zero'] at hx228_0); replace p228 := eq_true p228; replace q228 := eq_true q228; have p229 : 0 ≤ (20 : Int) := (by omega); have q229 : 20 < (t217.length : Int) := of_decide_eq_true (by first | (with_reducible assumption) | assumption); obtain ⟨ad229, e229, hx229_0⟩ := Kd.at_int (Kd.R_reads' HO220.out).2.2 20 p229 q229; obtain rfl : ad228 = ad229 := (by injection e229); (try simp only [show (20 : Int).toNat = 20 from rfl, Nat.reduceMul, Nat.reduceEqDiff, Go.Addr.add, ↓reduceIte] at hx229_0); have qi229 : (20 < t217.length) = True := eq_true (by omega); (try rw [show ((20 : Int)).toNat = 20 from rfl] at hx229_0); replace p229 := eq_true p229; replace q229 := eq_true q229; obtain ⟨Ao46, co46, eo46⟩ := Kd.R_slice HO223.out; subst eo46) | (go_at_call 9; (with_reducible refine (barscanlaw14_same.calls kj1 _ _ t209 _ _ t221 true _ ?side1 ?side2 ?side3 ?side4 A26.out).mono ?_); (case side1 => repeat (first | exact (Kd.R_reads' HO_1.out).2.2 | (with_reducible refine Kd.C_alloc ?_ _) | (with_reducible refine Kd.C_drewN ?_ _) | (with_reducible refine Kd.C_drew ?_))); (case side2 => exact (Kd.R_reads' HO_1.out).2.1); (case side3 => repeat (first | exact (Kd.R_reads' HO223.out).2.2 | (with_reducible refine Kd.C_alloc ?_ _) | (with_reducible refine Kd.C_drewN ?_ _) | (with_reducible refine Kd.C_drew ?_))); (case side4 => exact (Kd.R_reads' HO223.out).2.1); rintro e w' ⟨rfl, ⟨nd, rfl⟩⟩))
                                  go_ret
                                  exact ⟨by first | rfl | (simp [errW_none, errW_some] <;> rfl) | (simp [*, errW_none, errW_some] <;> rfl), by repeat (first | (with_reducible first | exact HB.out | apply below_alloc | apply pw_below_drewN | apply below_drew1) | exact HB.out)⟩
                              · rw [if_neg c29] at H
                                have c29b0 : (t226 == 14) = false := beq_eq_false_iff_ne.mpr c29
                                have c29b1 : (t226 != 14) = true := bne_iff_ne.mpr c29
                                obtain rfl := Option.some.inj H
                                obtain ⟨Ao47, co47, eo47⟩ := Kd.R_slice HO_1.out
                                subst eo47
                                go_wp2_with (first | ((with_reducible refine gate_callee (f := 7) rfl ?_); refine goesL_ (some 39) rfl rfl Tryd.func7 (by kernel_rfl) rfl #[.slice Ao47 t209.length co47] rfl (by (try simp only [List.map_toArray, List.map_cons, List.map_nil]); first | done | rfl | (simp only [List.length_drop, List.length_take]; rfl)) ?_; (with_reducible refine (gs1_Format.calls kj1 _ _ t209 t215 t216 _ ?side3 ?side1 ?side2 A13.out).mono ?_); (case side1 => repeat (first | exact (Kd.R_reads' HO_1.out).2.2 | (with_reducible refine Kd.C_alloc ?_ _) | (with_reducible refine Kd.C_drewN ?_ _) | (with_reducible refine Kd.C_drew ?_))); (case side2 => exact (Kd.R_reads' HO_1.out).2.1); (case side3 => exact Tabs.below HT.out (by repeat (first | (with_reducible first | exact HB.out | apply below_alloc | apply pw_below_drewN | apply below_drew1) | exact HB.out))); rintro e w48 ⟨rfl, hb⟩; refine ⟨_, rfl, ?_⟩; have n0_ := Aside0.mk (Kd.R_below (by (with_reducible repeat (first | apply Kd.R_alloc | apply Kd.R_drewN | apply Kd.R_drew)); exact HO_1.out) hb); have n1_ := Aside0.mk (below_step (by repeat (first | (with_reducible first | exact HB.out | apply below_alloc | apply pw_below_drewN | apply below_drew1) | exact HB.out)) hb); clear HO_1; clear HB; have HO_1 := n0_; have HB := n1_; clear n0_ n1_; (try clear hb); (try clear hb2); (try clear hk); (try clear hi)) | ((with_reducible refine gate_callee (f := 10) rfl ?_); refine goesL_ (some 44) rfl rfl Tryd.func10 (by kernel_rfl) rfl #[.slice Ao47 t209.length co47] rfl (by (try simp only [List.map_toArray, List.map_cons, List.map_nil]); first | done | rfl | (simp only [List.length_drop, List.length_take]; rfl)) ?_; (with_reducible refine (gs1_Chars.calls kj1 _ _ t209 t217 t218 _ ?side3 ?side1 ?side2 A14.out).mono ?_); (case side1 => repeat (first | exact (Kd.R_reads' HO_1.out).2.2 | (with_reducible refine Kd.C_alloc ?_ _) | (with_reducible refine Kd.C_drewN ?_ _) | (with_reducible refine Kd.C_drew ?_))); (case side2 => exact (Kd.R_reads' HO_1.out).2.1); (case side3 => exact Tabs.below HT.out (by repeat (first | (with_reducible first | exact HB.out | apply below_alloc | apply pw_below_drewN | apply below_drew1) | exact HB.out))); rintro e w49 ⟨v219, rfl, ho0, hb⟩; refine ⟨_, rfl, ?_⟩; have n0_ := Aside0.mk (Kd.R_below (by (with_reducible repeat (first | apply Kd.R_alloc | apply Kd.R_drewN | apply Kd.R_drew)); exact HO_1.out) hb); have n1_ := Aside0.mk (Kd.R_lower ho0 (below_size (by repeat (first | (with_reducible first | exact HB.out | apply below_alloc | apply pw_below_drewN | apply below_drew1) | exact HB.out)))); have n2_ := Aside0.mk (below_step (by repeat (first | (with_reducible first | exact HB.out | apply below_alloc | apply pw_below_drewN | apply below_drew1) | exact HB.out)) hb); clear HO_1; clear HB; have HO_1 := n0_; have HO220 := n1_; have HB := n2_; clear n0_ n1_ n2_; (try clear hb); (try clear hb2); (try clear hk); (try clear hi); (try clear ho0); obtain ⟨Ao50, co50, eo50⟩ := Kd.R_slice HO220.out; subst eo50) | ((with_reducible refine gate_callee (f := 11) rfl ?_); refine goesL_ (some 49) rfl rfl Tryd.func11 (by kernel_rfl) rfl #[.slice Ao50 t217.length co50] rfl (by (try simp only [List.map_toArray, List.map_cons, List.map_nil]); first | done | rfl | (simp only [List.length_drop, List.length_take]; rfl)) ?_; (with_reducible refine (gs1_FromChars.calls kj1 (fun k_ => some k_ = (.slice Ao50 t217.length co50 : Value).ownBlock) _ _ t217 t221 t224 _ ?side2 ?side1 A15.out).mono ?_); (case side1 => exact Kd.R_V (Kd.R_tight rfl (Kd.R_apart' (HO220.out) (Kd.R_typed HO_1.out) (by decide)))); (case side2 => exact Tabs.below HT.out (by repeat (first | (with_reducible first | exact HB.out | apply below_alloc | apply pw_below_drewN | apply below_drew1) | exact HB.out))); rintro e w51 ⟨v222, rfl, ho0, hb⟩; refine ⟨_, rfl, ?_⟩; have n0_ := Aside0.mk (Kd.R_elder' (by (with_reducible repeat (first | apply Kd.R_alloc | apply Kd.R_drewN | apply Kd.R_drew)); exact HO_1.out) (Kd.R_base ho0) hb); have n1_ := Aside0.mk (Kd.R_below (by (with_reducible repeat (first | apply Kd.R_alloc | apply Kd.R_drewN | apply Kd.R_drew)); exact HO220.out) hb); have n2_ := Aside0.mk (Kd.R_lower (Kd.R_new' (Kd.R_mono (ok' := fun k_ => True) ho0 (fun _ hk_ => trivial)) (Kd.R_lt (by (with_reducible repeat (first | apply Kd.R_alloc | apply Kd.R_drewN | apply Kd.R_drew)); exact HO_1.out))) (below_size (by repeat (first | (with_reducible first | exact HB.out | apply below_alloc | apply pw_below_drewN | apply below_drew1) | exact HB.out)))); have n3_ := Aside0.mk (below_step (by repeat (first | (with_reducible first | exact HB.out | apply below_alloc | apply pw_below_drewN | apply below_drew1) | exact HB.out)) hb); clear HO_1; clear HO220; clear HB; have HO_1 := n0_; have HO220 := n1_; have HO223 := n2_; have HB := n3_; clear n0_ n1_ n2_ n3_; (try clear hb); (try clear hb2); (try clear hk); (try clear hi); (try clear ho0)) | ((with_reducible refine gate_callee (f := 14) rfl ?_); refine goesL_ (some 53) rfl rfl Tryd.func14 (by kernel_rfl) rfl #[.string (⟨#[48, 49]⟩ : ByteArray)] rfl (by (try simp only [List.map_toArray, List.map_cons, List.map_nil]); first | done | rfl | (simp only [List.length_drop, List.length_take]; rfl)) ?_; (with_reducible refine (gs1_Fixed.calls (⟨#[48, 49]⟩ : ByteArray) t225 t226 t227 _ ?side1 A16.out).mono ?_); (case side1 => exact Tabs.below HT.out (by repeat (first | (with_reducible first | exact HB.out | apply below_alloc | apply pw_below_drewN | apply below_drew1) | exact HB.out))); rintro e w52 ⟨rfl, hb⟩; refine ⟨_, rfl, ?_⟩; have n0_ := Aside0.mk (Kd.R_below (by (with_reducible repeat (first | apply Kd.R_alloc | apply Kd.R_drewN | apply Kd.R_drew)); exact HO_1.out) hb); have n1_ := Aside0.mk (Kd.R_below (by (with_reducible repeat (first | apply Kd.R_alloc | apply Kd.R_drewN | apply Kd.R_drew)); exact HO220.out) hb); have n2_ := Aside0.mk (Kd.R_below (by (with_reducible repeat (first | apply Kd.R_alloc | apply Kd.R_drewN | apply Kd.R_drew)); exact HO223.out) hb); have n3_ := Aside0.mk (below_step (by repeat (first | (with_reducible first | exact HB.out | apply below_alloc | apply pw_below_drewN | apply below_drew1) | exact HB.out)) hb); clear HO_1; clear HO220; clear HO223; clear HB; have HO_1 := n0_; have HO220 := n1_; have HO223 := n2_; have HB := n3_; clear n0_ n1_ n2_ n3_; (try clear hb); (try clear hb2); (try clear hk); (try clear hi); have p228 : 0 ≤ (0 : Int) := (by omega); have q228 : 0 < (t217.length : Int) := of_decide_eq_true (by first | (with_reducible assumption) | assumption); obtain ⟨ad228, e228, hx228_0⟩ := Kd.at_int (Kd.R_reads' HO220.out).2.2 0 p228 q228; cases e228; have qi228 : (0 < t217.length) = True := eq_true (by omega); (try rw [show ((0 : Int)).toNat = 0 from rfl] at hx228_0); (try rw [Addr.add_zero'] at hx228_0); replace p228 := eq_true p228; replace q228 := eq_true q228; have p229 : 0 ≤ (20 : Int) := (by omega); have q229 : 20 < (t217.length : Int) := of_decide_eq_true (by first | (with_reducible assumption) | assumption); obtain ⟨ad229, e229, hx229_0⟩ := Kd.at_int (Kd.R_reads' HO220.out).2.2 20 p229 q229; obtain rfl : ad228 = ad229 := (by injection e229); (try simp only [show (20 : Int).toNat = 20 from rfl, Nat.reduceMul, Nat.reduceEqDiff, Go.Addr.add, ↓reduceIte] at hx229_0); have qi229 : (20 < t217.length) = True := eq_true (by omega); (try rw [show ((20 : Int)).toNat = 20 from rfl] at hx229_0); replace p229 := eq_true p229; replace q229 := eq_true q229; obtain ⟨Ao53, co53, eo53⟩ := Kd.R_slice HO223.out; subst eo53) | (go_at_call 9; (with_reducible refine (barscanlaw14_same.calls kj1 _ _ t209 _ _ t221 true _ ?side1 ?side2 ?side3 ?side4 A26.out).mono ?_); (case side1 => repeat (first | exact (Kd.R_reads' HO_1.out).2.2 | (with_reducible refine Kd.C_alloc ?_ _) | (with_reducible refine Kd.C_drewN ?_ _) | (with_reducible refine Kd.C_drew ?_))); (case side2 => exact (Kd.R_reads' HO_1.out).2.1); (case side3 => repeat (first | exact (Kd.R_reads' HO223.out).2.2 | (with_reducible refine Kd.C_alloc ?_ _) | (with_reducible refine Kd.C_drewN ?_ _) | (with_reducible refine Kd.C_drew ?_))); (case side4 => exact (Kd.R_reads' HO223.out).2.1); rintro e w' ⟨rfl, ⟨nd, rfl⟩⟩))
                                go_ret
                                exact ⟨by first | rfl | (simp [errW_none, errW_some] <;> rfl) | (simp [*, errW_none, errW_some] <;> rfl), by repeat (first | (with_reducible first | exact HB.out | apply below_alloc | apply pw_below_drewN | apply below_drew1) | exact HB.out)⟩
                            · rw [if_neg c28] at H
                              have c28b0 : (t225 == 14) = false := beq_eq_false_iff_ne.mpr c28
                              have c28b1 : (t225 != 14) = true := bne_iff_ne.mpr c28
                              obtain rfl := Option.some.inj H
                              obtain ⟨Ao54, co54, eo54⟩ := Kd.R_slice HO_1.out
                              subst eo54
                              go_wp2_with (first | ((with_reducible refine gate_callee (f := 7) rfl ?_); refine goesL_ (some 39) rfl rfl Tryd.func7 (by kernel_rfl) rfl #[.slice Ao54 t209.length co54] rfl (by (try simp only [List.map_toArray, List.map_cons, List.map_nil]); first | done | rfl | (simp only [List.length_drop, List.length_take]; rfl)) ?_; (with_reducible refine (gs1_Format.calls kj1 _ _ t209 t215 t216 _ ?side3 ?side1 ?side2 A13.out).mono ?_); (case side1 => repeat (first | exact (Kd.R_reads' HO_1.out).2.2 | (with_reducible refine Kd.C_alloc ?_ _) | (with_reducible refine Kd.C_drewN ?_ _) | (with_reducible refine Kd.C_drew ?_))); (case side2 => exact (Kd.R_reads' HO_1.out).2.1); (case side3 => exact Tabs.below HT.out (by repeat (first | (with_reducible first | exact HB.out | apply below_alloc | apply pw_below_drewN | apply below_drew1) | exact HB.out))); rintro e w55 ⟨rfl, hb⟩; refine ⟨_, rfl, ?_⟩; have n0_ := Aside0.mk (Kd.R_below (by (with_reducible repeat (first | apply Kd.R_alloc | apply Kd.R_drewN | apply Kd.R_drew)); exact HO_1.out) hb); have n1_ := Aside0.mk (below_step (by repeat (first | (with_reducible first | exact HB.out | apply below_alloc | apply pw_below_drewN | apply below_drew1) | exact HB.out)) hb); clear HO_1; clear HB; have HO_1 := n0_; have HB := n1_; clear n0_ n1_; (try clear hb); (try clear hb2); (try clear hk); (try clear hi)) | ((with_reducible refine gate_callee (f := 10) rfl ?_); refine goesL_ (some 44) rfl rfl Tryd.func10 (by kernel_rfl) rfl #[.slice Ao54 t209.length co54] rfl (by (try simp only [List.map_toArray, List.map_cons, List.map_nil]); first | done | rfl | (simp only [List.length_drop, List.length_take]; rfl)) ?_; (with_reducible refine (gs1_Chars.calls kj1 _ _ t209 t217 t218 _ ?side3 ?side1 ?side2 A14.out).mono ?_); (case side1 => repeat (first | exact (Kd.R_reads' HO_1.out).2.2 | (with_reducible refine Kd.C_alloc ?_ _) | (with_reducible refine Kd.C_drewN ?_ _) | (with_reducible refine Kd.C_drew ?_))); (case side2 => exact (Kd.R_reads' HO_1.out).2.1); (case side3 => exact Tabs.below HT.out (by repeat (first | (with_reducible first | exact HB.out | apply below_alloc | apply pw_below_drewN | apply below_drew1) | exact HB.out))); rintro e w56 ⟨v219, rfl, ho0, hb⟩; refine ⟨_, rfl, ?_⟩; have n0_ := Aside0.mk (Kd.R_below (by (with_reducible repeat (first | apply Kd.R_alloc | apply Kd.R_drewN | apply Kd.R_drew)); exact HO_1.out) hb); have n1_ := Aside0.mk (Kd.R_lower ho0 (below_size (by repeat (first | (with_reducible first | exact HB.out | apply below_alloc | apply pw_below_drewN | apply below_drew1) | exact HB.out)))); have n2_ := Aside0.mk (below_step (by repeat (first | (with_reducible first | exact HB.out | apply below_alloc | apply pw_below_drewN | apply below_drew1) | exact HB.out)) hb); clear HO_1; clear HB; have HO_1 := n0_; have HO220 := n1_; have HB := n2_; clear n0_ n1_ n2_; (try clear hb); (try clear hb2); (try clear hk); (try clear hi); (try clear ho0); obtain ⟨Ao57, co57, eo57⟩ := Kd.R_slice HO220.out; subst eo57) | ((with_reducible refine gate_callee (f := 11) rfl ?_); refine goesL_ (some 49) rfl rfl Tryd.func11 (by kernel_rfl) rfl #[.slice Ao57 t217.length co57] rfl (by (try simp only [List.map_toArray, List.map_cons, List.map_nil]); first | done | rfl | (simp only [List.length_drop, List.length_take]; rfl)) ?_; (with_reducible refine (gs1_FromChars.calls kj1 (fun k_ => some k_ = (.slice Ao57 t217.length co57 : Value).ownBlock) _ _ t217 t221 t224 _ ?side2 ?side1 A15.out).mono ?_); (case side1 => exact Kd.R_V (Kd.R_tight rfl (Kd.R_apart' (HO220.out) (Kd.R_typed HO_1.out) (by decide)))); (case side2 => exact Tabs.below HT.out (by repeat (first | (with_reducible first | exact HB.out | apply below_alloc | apply pw_below_drewN | apply below_drew1) | exact HB.out))); rintro e w58 ⟨v222, rfl, ho0, hb⟩; refine ⟨_, rfl, ?_⟩; have n0_ := Aside0.mk (Kd.R_elder' (by (with_reducible repeat (first | apply Kd.R_alloc | apply Kd.R_drewN | apply Kd.R_drew)); exact HO_1.out) (Kd.R_base ho0) hb); have n1_ := Aside0.mk (Kd.R_below (by (with_reducible repeat (first | apply Kd.R_alloc | apply Kd.R_drewN | apply Kd.R_drew)); exact HO220.out) hb); have n2_ := Aside0.mk (Kd.R_lower (Kd.R_new' (Kd.R_mono (ok' := fun k_ => True) ho0 (fun _ hk_ => trivial)) (Kd.R_lt (by (with_reducible repeat (first | apply Kd.R_alloc | apply Kd.R_drewN | apply Kd.R_drew)); exact HO_1.out))) (below_size (by repeat (first | (with_reducible first | exact HB.out | apply below_alloc | apply pw_below_drewN | apply below_drew1) | exact HB.out)))); have n3_ := Aside0.mk (below_step (by repeat (first | (with_reducible first | exact HB.out | apply below_alloc | apply pw_below_drewN | apply below_drew1) | exact HB.out)) hb); clear HO_1; clear HO220; clear HB; have HO_1 := n0_; have HO220 := n1_; have HO223 := n2_; have HB := n3_; clear n0_ n1_ n2_ n3_; (try clear hb); (try clear hb2); (try clear hk); (try clear hi); (try clear ho0)) | ((with_reducible refine gate_callee (f := 14) rfl ?_); refine goesL_ (some 53) rfl rfl Tryd.func14 (by kernel_rfl) rfl #[.string (⟨#[48, 49]⟩ : ByteArray)] rfl (by (try simp only [List.map_toArray, List.map_cons, List.map_nil]); first | done | rfl | (simp only [List.length_drop, List.length_take]; rfl)) ?_; (with_reducible refine (gs1_Fixed.calls (⟨#[48, 49]⟩ : ByteArray) t225 t226 t227 _ ?side1 A16.out).mono ?_); (case side1 => exact Tabs.below HT.out (by repeat (first | (with_reducible first | exact HB.out | apply below_alloc | apply pw_below_drewN | apply below_drew1) | exact HB.out))); rintro e w59 ⟨rfl, hb⟩; refine ⟨_, rfl, ?_⟩; have n0_ := Aside0.mk (Kd.R_below (by (with_reducible repeat (first | apply Kd.R_alloc | apply Kd.R_drewN | apply Kd.R_drew)); exact HO_1.out) hb); have n1_ := Aside0.mk (Kd.R_below (by (with_reducible repeat (first | apply Kd.R_alloc | apply Kd.R_drewN | apply Kd.R_drew)); exact HO220.out) hb); have n2_ := Aside0.mk (Kd.R_below (by (with_reducible repeat (first | apply Kd.R_alloc | apply Kd.R_drewN | apply Kd.R_drew)); exact HO223.out) hb); have n3_ := Aside0.mk (below_step (by repeat (first | (with_reducible first | exact HB.out | apply below_alloc | apply pw_below_drewN | apply below_drew1) | exact HB.out)) hb); clear HO_1; clear HO220; clear HO223; clear HB; have HO_1 := n0_; have HO220 := n1_; have HO223 := n2_; have HB := n3_; clear n0_ n1_ n2_ n3_; (try clear hb); (try clear hb2); (try clear hk); (try clear hi); have p228 : 0 ≤ (0 : Int) := (by omega); have q228 : 0 < (t217.length : Int) := of_decide_eq_true (by first | (with_reducible assumption) | assumption); obtain ⟨ad228, e228, hx228_0⟩ := Kd.at_int (Kd.R_reads' HO220.out).2.2 0 p228 q228; cases e228; have qi228 : (0 < t217.length) = True := eq_true (by omega); (try rw [show ((0 : Int)).toNat = 0 from rfl] at hx228_0); (try rw [Addr.add_zero'] at hx228_0); replace p228 := eq_true p228; replace q228 := eq_true q228; have p229 : 0 ≤ (20 : Int) := (by omega); have q229 : 20 < (t217.length : Int) := of_decide_eq_true (by first | (with_reducible assumption) | assumption); obtain ⟨ad229, e229, hx229_0⟩ := Kd.at_int (Kd.R_reads' HO220.out).2.2 20 p229 q229; obtain rfl : ad228 = ad229 := (by injection e229); (try simp only [show (20 : Int).toNat = 20 from rfl, Nat.reduceMul, Nat.reduceEqDiff, Go.Addr.add, ↓reduceIte] at hx229_0); have qi229 : (20 < t217.length) = True := eq_true (by omega); (try rw [show ((20 : Int)).toNat = 20 from rfl] at hx229_0); replace p229 := eq_true p229; replace q229 := eq_true q229; obtain ⟨Ao60, co60, eo60⟩ := Kd.R_slice HO223.out; subst eo60) | (go_at_call 9; (with_reducible refine (barscanlaw14_same.calls kj1 _ _ t209 _ _ t221 true _ ?side1 ?side2 ?side3 ?side4 A26.out).mono ?_); (case side1 => repeat (first | exact (Kd.R_reads' HO_1.out).2.2 | (with_reducible refine Kd.C_alloc ?_ _) | (with_reducible refine Kd.C_drewN ?_ _) | (with_reducible refine Kd.C_drew ?_))); (case side2 => exact (Kd.R_reads' HO_1.out).2.1); (case side3 => repeat (first | exact (Kd.R_reads' HO223.out).2.2 | (with_reducible refine Kd.C_alloc ?_ _) | (with_reducible refine Kd.C_drewN ?_ _) | (with_reducible refine Kd.C_drew ?_))); (case side4 => exact (Kd.R_reads' HO223.out).2.1); rintro e w' ⟨rfl, ⟨nd, rfl⟩⟩))
                              go_ret
                              exact ⟨by first | rfl | (simp [errW_none, errW_some] <;> rfl) | (simp [*, errW_none, errW_some] <;> rfl), by repeat (first | (with_reducible first | exact HB.out | apply below_alloc | apply pw_below_drewN | apply below_drew1) | exact HB.out)⟩
                          · replace c27 := Bool.eq_false_iff.mpr c27
                            subst c27
                            have H1 : (some false) = some r := by rw [if_neg (show ¬ (false = true) by decide)] at H; exact H
                            clear H
                            have H := H1
                            clear H1
                            obtain rfl := Option.some.inj H
                            obtain ⟨Ao61, co61, eo61⟩ := Kd.R_slice HO_1.out
                            subst eo61
                            go_wp2_with (first | ((with_reducible refine gate_callee (f := 7) rfl ?_); refine goesL_ (some 39) rfl rfl Tryd.func7 (by kernel_rfl) rfl #[.slice Ao61 t209.length co61] rfl (by (try simp only [List.map_toArray, List.map_cons, List.map_nil]); first | done | rfl | (simp only [List.length_drop, List.length_take]; rfl)) ?_; (with_reducible refine (gs1_Format.calls kj1 _ _ t209 t215 t216 _ ?side3 ?side1 ?side2 A13.out).mono ?_); (case side1 => repeat (first | exact (Kd.R_reads' HO_1.out).2.2 | (with_reducible refine Kd.C_alloc ?_ _) | (with_reducible refine Kd.C_drewN ?_ _) | (with_reducible refine Kd.C_drew ?_))); (case side2 => exact (Kd.R_reads' HO_1.out).2.1); (case side3 => exact Tabs.below HT.out (by repeat (first | (with_reducible first | exact HB.out | apply below_alloc | apply pw_below_drewN | apply below_drew1) | exact HB.out))); rintro e w62 ⟨rfl, hb⟩; refine ⟨_, rfl, ?_⟩; have n0_ := Aside0.mk (Kd.R_below (by (with_reducible repeat (first | apply Kd.R_alloc | apply Kd.R_drewN | apply Kd.R_drew)); exact HO_1.out) hb); have n1_ := Aside0.mk (below_step (by repeat (first | (with_reducible first | exact HB.out | apply below_alloc | apply pw_below_drewN | apply below_drew1) | exact HB.out)) hb); clear HO_1; clear HB; have HO_1 := n0_; have HB := n1_; clear n0_ n1_; (try clear hb); (try clear hb2); (try clear hk); (try clear hi)) | ((with_reducible refine gate_callee (f := 10) rfl ?_); refine goesL_ (some 44) rfl rfl Tryd.func10 (by kernel_rfl) rfl #[.slice Ao61 t209.length co61] rfl (by (try simp only [List.map_toArray, List.map_cons, List.map_nil]); first | done | rfl | (simp only [List.length_drop, List.length_take]; rfl)) ?_; (with_reducible refine (gs1_Chars.calls kj1 _ _ t209 t217 t218 _ ?side3 ?side1 ?side2 A14.out).mono ?_); (case side1 => repeat (first | exact (Kd.R_reads' HO_1.out).2.2 | (with_reducible refine Kd.C_alloc ?_ _) | (with_reducible refine Kd.C_drewN ?_ _) | (with_reducible refine Kd.C_drew ?_))); (case side2 => exact (Kd.R_reads' HO_1.out).2.1); (case side3 => exact Tabs.below HT.out (by repeat (first | (with_reducible first | exact HB.out | apply below_alloc | apply pw_below_drewN | apply below_drew1) | exact HB.out))); rintro e w63 ⟨v219, rfl, ho0, hb⟩; refine ⟨_, rfl, ?_⟩; have n0_ := Aside0.mk (Kd.R_below (by (with_reducible repeat (first | apply Kd.R_alloc | apply Kd.R_drewN | apply Kd.R_drew)); exact HO_1.out) hb); have n1_ := Aside0.mk (Kd.R_lower ho0 (below_size (by repeat (first | (with_reducible first | exact HB.out | apply below_alloc | apply pw_below_drewN | apply below_drew1) | exact HB.out)))); have n2_ := Aside0.mk (below_step (by repeat (first | (with_reducible first | exact HB.out | apply below_alloc | apply pw_below_drewN | apply below_drew1) | exact HB.out)) hb); clear HO_1; clear HB; have HO_1 := n0_; have HO220 := n1_; have HB := n2_; clear n0_ n1_ n2_; (try clear hb); (try clear hb2); (try clear hk); (try clear hi); (try clear ho0); obtain ⟨Ao64, co64, eo64⟩ := Kd.R_slice HO220.out; subst eo64) | ((with_reducible refine gate_callee (f := 11) rfl ?_); refine goesL_ (some 49) rfl rfl Tryd.func11 (by kernel_rfl) rfl #[.slice Ao64 t217.length co64] rfl (by (try simp only [List.map_toArray, List.map_cons, List.map_nil]); first | done | rfl | (simp only [List.length_drop, List.length_take]; rfl)) ?_; (with_reducible refine (gs1_FromChars.calls kj1 (fun k_ => some k_ = (.slice Ao64 t217.length co64 : Value).ownBlock) _ _ t217 t221 t224 _ ?side2 ?side1 A15.out).mono ?_); (case side1 => exact Kd.R_V (Kd.R_tight rfl (Kd.R_apart' (HO220.out) (Kd.R_typed HO_1.out) (by decide)))); (case side2 => exact Tabs.below HT.out (by repeat (first | (with_reducible first | exact HB.out | apply below_alloc | apply pw_below_drewN | apply below_drew1) | exact HB.out))); rintro e w65 ⟨v222, rfl, ho0, hb⟩; refine ⟨_, rfl, ?_⟩; have n0_ := Aside0.mk (Kd.R_elder' (by (with_reducible repeat (first | apply Kd.R_alloc | apply Kd.R_drewN | apply Kd.R_drew)); exact HO_1.out) (Kd.R_base ho0) hb); have n1_ := Aside0.mk (Kd.R_below (by (with_reducible repeat (first | apply Kd.R_alloc | apply Kd.R_drewN | apply Kd.R_drew)); exact HO220.out) hb); have n2_ := Aside0.mk (Kd.R_lower (Kd.R_new' (Kd.R_mono (ok' := fun k_ => True) ho0 (fun _ hk_ => trivial)) (Kd.R_lt (by (with_reducible repeat (first | apply Kd.R_alloc | apply Kd.R_drewN | apply Kd.R_drew)); exact HO_1.out))) (below_size (by repeat (first | (with_reducible first | exact HB.out | apply below_alloc | apply pw_below_drewN | apply below_drew1) | exact HB.out)))); have n3_ := Aside0.mk (below_step (by repeat (first | (with_reducible first | exact HB.out | apply below_alloc | apply pw_below_drewN | apply below_drew1) | exact HB.out)) hb); clear HO_1; clear HO220; clear HB; have HO_1 := n0_; have HO220 := n1_; have HO223 := n2_; have HB := n3_; clear n0_ n1_ n2_ n3_; (try clear hb); (try clear hb2); (try clear hk); (try clear hi); (try clear ho0)) | ((with_reducible refine gate_callee (f := 14) rfl ?_); refine goesL_ (some 53) rfl rfl Tryd.func14 (by kernel_rfl) rfl #[.string (⟨#[48, 49]⟩ : ByteArray)] rfl (by (try simp only [List.map_toArray, List.map_cons, List.map_nil]); first | done | rfl | (simp only [List.length_drop, List.length_take]; rfl)) ?_; (with_reducible refine (gs1_Fixed.calls (⟨#[48, 49]⟩ : ByteArray) t225 t226 t227 _ ?side1 A16.out).mono ?_); (case side1 => exact Tabs.below HT.out (by repeat (first | (with_reducible first | exact HB.out | apply below_alloc | apply pw_below_drewN | apply below_drew1) | exact HB.out))); rintro e w66 ⟨rfl, hb⟩; refine ⟨_, rfl, ?_⟩; have n0_ := Aside0.mk (Kd.R_below (by (with_reducible repeat (first | apply Kd.R_alloc | apply Kd.R_drewN | apply Kd.R_drew)); exact HO_1.out) hb); have n1_ := Aside0.mk (Kd.R_below (by (with_reducible repeat (first | apply Kd.R_alloc | apply Kd.R_drewN | apply Kd.R_drew)); exact HO220.out) hb); have n2_ := Aside0.mk (Kd.R_below (by (with_reducible repeat (first | apply Kd.R_alloc | apply Kd.R_drewN | apply Kd.R_drew)); exact HO223.out) hb); have n3_ := Aside0.mk (below_step (by repeat (first | (with_reducible first | exact HB.out | apply below_alloc | apply pw_below_drewN | apply below_drew1) | exact HB.out)) hb); clear HO_1; clear HO220; clear HO223; clear HB; have HO_1 := n0_; have HO220 := n1_; have HO223 := n2_; have HB := n3_; clear n0_ n1_ n2_ n3_; (try clear hb); (try clear hb2); (try clear hk); (try clear hi); have p228 : 0 ≤ (0 : Int) := (by omega); have q228 : 0 < (t217.length : Int) := of_decide_eq_true (by first | (with_reducible assumption) | assumption); obtain ⟨ad228, e228, hx228_0⟩ := Kd.at_int (Kd.R_reads' HO220.out).2.2 0 p228 q228; cases e228; have qi228 : (0 < t217.length) = True := eq_true (by omega); (try rw [show ((0 : Int)).toNat = 0 from rfl] at hx228_0); (try rw [Addr.add_zero'] at hx228_0); replace p228 := eq_true p228; replace q228 := eq_true q228; have p229 : 0 ≤ (20 : Int) := (by omega); have q229 : 20 < (t217.length : Int) := of_decide_eq_true (by first | (with_reducible assumption) | assumption); obtain ⟨ad229, e229, hx229_0⟩ := Kd.at_int (Kd.R_reads' HO220.out).2.2 20 p229 q229; obtain rfl : ad228 = ad229 := (by injection e229); (try simp only [show (20 : Int).toNat = 20 from rfl, Nat.reduceMul, Nat.reduceEqDiff, Go.Addr.add, ↓reduceIte] at hx229_0); have qi229 : (20 < t217.length) = True := eq_true (by omega); (try rw [show ((20 : Int)).toNat = 20 from rfl] at hx229_0); replace p229 := eq_true p229; replace q229 := eq_true q229; obtain ⟨Ao67, co67, eo67⟩ := Kd.R_slice HO223.out; subst eo67) | (go_at_call 9; (with_reducible refine (barscanlaw14_same.calls kj1 _ _ t209 _ _ t221 false _ ?side1 ?side2 ?side3 ?side4 A26.out).mono ?_); (case side1 => repeat (first | exact (Kd.R_reads' HO_1.out).2.2 | (with_reducible refine Kd.C_alloc ?_ _) | (with_reducible refine Kd.C_drewN ?_ _) | (with_reducible refine Kd.C_drew ?_))); (case side2 => exact (Kd.R_reads' HO_1.out).2.1); (case side3 => repeat (first | exact (Kd.R_reads' HO223.out).2.2 | (with_reducible refine Kd.C_alloc ?_ _) | (with_reducible refine Kd.C_drewN ?_ _) | (with_reducible refine Kd.C_drew ?_))); (case side4 => exact (Kd.R_reads' HO223.out).2.1); rintro e w' ⟨rfl, ⟨nd, rfl⟩⟩))
                            go_ret
                            exact ⟨by first | rfl | (simp [errW_none, errW_some] <;> rfl) | (simp [*, errW_none, errW_some] <;> rfl), by repeat (first | (with_reducible first | exact HB.out | apply below_alloc | apply pw_below_drewN | apply below_drew1) | exact HB.out)⟩
                        · rw [if_neg c25] at H
                          have c25b0 : (t224 == 0) = false := beq_eq_false_iff_ne.mpr c25
                          have c25b1 : (t224 != 0) = true := bne_iff_ne.mpr c25
                          obtain rfl := Option.some.inj H
                          obtain ⟨Ao68, co68, eo68⟩ := Kd.R_slice HO_1.out
                          subst eo68
                          go_wp2_with (first | ((with_reducible refine gate_callee (f := 7) rfl ?_); refine goesL_ (some 39) rfl rfl Tryd.func7 (by kernel_rfl) rfl #[.slice Ao68 t209.length co68] rfl (by (try simp only [List.map_toArray, List.map_cons, List.map_nil]); first | done | rfl | (simp only [List.length_drop, List.length_take]; rfl)) ?_; (with_reducible refine (gs1_Format.calls kj1 _ _ t209 t215 t216 _ ?side3 ?side1 ?side2 A13.out).mono ?_); (case side1 => repeat (first | exact (Kd.R_reads' HO_1.out).2.2 | (with_reducible refine Kd.C_alloc ?_ _) | (with_reducible refine Kd.C_drewN ?_ _) | (with_reducible refine Kd.C_drew ?_))); (case side2 => exact (Kd.R_reads' HO_1.out).2.1); (case side3 => exact Tabs.below HT.out (by repeat (first | (with_reducible first | exact HB.out | apply below_alloc | apply pw_below_drewN | apply below_drew1) | exact HB.out))); rintro e w69 ⟨rfl, hb⟩; refine ⟨_, rfl, ?_⟩; have n0_ := Aside0.mk (Kd.R_below (by (with_reducible repeat (first | apply Kd.R_alloc | apply Kd.R_drewN | apply Kd.R_drew)); exact HO_1.out) hb); have n1_ := Aside0.mk (below_step (by repeat (first | (with_reducible first | exact HB.out | apply below_alloc | apply pw_below_drewN | apply below_drew1) | exact HB.out)) hb); clear HO_1; clear HB; have HO_1 := n0_; have HB := n1_; clear n0_ n1_; (try clear hb); (try clear hb2); (try clear hk); (try clear hi)) | ((with_reducible refine gate_callee (f := 10) rfl ?_); refine goesL_ (some 44) rfl rfl Tryd.func10 (by kernel_rfl) rfl #[.slice Ao68 t209.length co68] rfl (by (try simp only [List.map_toArray, List.map_cons, List.map_nil]); first | done | rfl | (simp only [List.length_drop, List.length_take]; rfl)) ?_; (with_reducible refine (gs1_Chars.calls kj1 _ _ t209 t217 t218 _ ?side3 ?side1 ?side2 A14.out).mono ?_); (case side1 => repeat (first | exact (Kd.R_reads' HO_1.out).2.2 | (with_reducible refine Kd.C_alloc ?_ _) | (with_reducible refine Kd.C_drewN ?_ _) | (with_reducible refine Kd.C_drew ?_))); (case side2 => exact (Kd.R_reads' HO_1.out).2.1); (case side3 => exact Tabs.below HT.out (by repeat (first | (with_reducible first | exact HB.out | apply below_alloc | apply pw_below_drewN | apply below_drew1) | exact HB.out))); rintro e w70 ⟨v219, rfl, ho0, hb⟩; refine ⟨_, rfl, ?_⟩; have n0_ := Aside0.mk (Kd.R_below (by (with_reducible repeat (first | apply Kd.R_alloc | apply Kd.R_drewN | apply Kd.R_drew)); exact HO_1.out) hb); have n1_ := Aside0.mk (Kd.R_lower ho0 (below_size (by repeat (first | (with_reducible first | exact HB.out | apply below_alloc | apply pw_below_drewN | apply below_drew1) | exact HB.out)))); have n2_ := Aside0.mk (below_step (by repeat (first | (with_reducible first | exact HB.out | apply below_alloc | apply pw_below_drewN | apply below_drew1) | exact HB.out)) hb); clear HO_1; clear HB; have HO_1 := n0_; have HO220 := n1_; have HB := n2_; clear n0_ n1_ n2_; (try clear hb); (try clear hb2); (try clear hk); (try clear hi); (try clear ho0); obtain ⟨Ao71, co71, eo71⟩ := Kd.R_slice HO220.out; subst eo71) | ((with_reducible refine gate_callee (f := 11) rfl ?_); refine goesL_ (some 49) rfl rfl Tryd.func11 (by kernel_rfl) rfl #[.slice Ao71 t217.length co71] rfl (by (try simp only [List.map_toArray, List.map_cons, List.map_nil]); first | done | rfl | (simp only [List.length_drop, List.length_take]; rfl)) ?_; (with_reducible refine (gs1_FromChars.calls kj1 (fun k_ => some k_ = (.slice Ao71 t217.length co71 : Value).ownBlock) _ _ t217 t221 t224 _ ?side2 ?side1 A15.out).mono ?_); (case side1 => exact Kd.R_V (Kd.R_tight rfl (Kd.R_apart' (HO220.out) (Kd.R_typed HO_1.out) (by decide)))); (case side2 => exact Tabs.below HT.out (by repeat (first | (with_reducible first | exact HB.out | apply below_alloc | apply pw_below_drewN | apply below_drew1) | exact HB.out))); rintro e w72 ⟨v222, rfl, ho0, hb⟩; refine ⟨_, rfl, ?_⟩; have n0_ := Aside0.mk (Kd.R_elder' (by (with_reducible repeat (first | apply Kd.R_alloc | apply Kd.R_drewN | apply Kd.R_drew)); exact HO_1.out) (Kd.R_base ho0) hb); have n1_ := Aside0.mk (Kd.R_below (by (with_reducible repeat (first | apply Kd.R_alloc | apply Kd.R_drewN | apply Kd.R_drew)); exact HO220.out) hb); have n2_ := Aside0.mk (Kd.R_lower (Kd.R_new' (Kd.R_mono (ok' := fun k_ => True) ho0 (fun _ hk_ => trivial)) (Kd.R_lt (by (with_reducible repeat (first | apply Kd.R_alloc | apply Kd.R_drewN | apply Kd.R_drew)); exact HO_1.out))) (below_size (by repeat (first | (with_reducible first | exact HB.out | apply below_alloc | apply pw_below_drewN | apply below_drew1) | exact HB.out)))); have n3_ := Aside0.mk (below_step (by repeat (first | (with_reducible first | exact HB.out | apply below_alloc | apply pw_below_drewN | apply below_drew1) | exact HB.out)) hb); clear HO_1; clear HO220; clear HB; have HO_1 := n0_; have HO220 := n1_; have HO223 := n2_; have HB := n3_; clear n0_ n1_ n2_ n3_; (try clear hb); (try clear hb2); (try clear hk); (try clear hi); (try clear ho0)) | ((with_reducible refine gate_callee (f := 14) rfl ?_); refine goesL_ (some 53) rfl rfl Tryd.func14 (by kernel_rfl) rfl #[.string (⟨#[48, 49]⟩ : ByteArray)] rfl (by (try simp only [List.map_toArray, List.map_cons, List.map_nil]); first | done | rfl | (simp only [List.length_drop, List.length_take]; rfl)) ?_; (with_reducible refine (gs1_Fixed.calls (⟨#[48, 49]⟩ : ByteArray) t225 t226 t227 _ ?side1 A16.out).mono ?_); (case side1 => exact Tabs.below HT.out (by repeat (first | (with_reducible first | exact HB.out | apply below_alloc | apply pw_below_drewN | apply below_drew1) | exact HB.out))); rintro e w73 ⟨rfl, hb⟩; refine ⟨_, rfl, ?_⟩; have n0_ := Aside0.mk (Kd.R_below (by (with_reducible repeat (first | apply Kd.R_alloc | apply Kd.R_drewN | apply Kd.R_drew)); exact HO_1.out) hb); have n1_ := Aside0.mk (Kd.R_below (by (with_reducible repeat (first | apply Kd.R_alloc | apply Kd.R_drewN | apply Kd.R_drew)); exact HO220.out) hb); have n2_ := Aside0.mk (Kd.R_below (by (with_reducible repeat (first | apply Kd.R_alloc | apply Kd.R_drewN | apply Kd.R_drew)); exact HO223.out) hb); have n3_ := Aside0.mk (below_step (by repeat (first | (with_reducible first | exact HB.out | apply below_alloc | apply pw_below_drewN | apply below_drew1) | exact HB.out)) hb); clear HO_1; clear HO220; clear HO223; clear HB; have HO_1 := n0_; have HO220 := n1_; have HO223 := n2_; have HB := n3_; clear n0_ n1_ n2_ n3_; (try clear hb); (try clear hb2); (try clear hk); (try clear hi); have p228 : 0 ≤ (0 : Int) := (by omega); have q228 : 0 < (t217.length : Int) := of_decide_eq_true (by first | (with_reducible assumption) | assumption); obtain ⟨ad228, e228, hx228_0⟩ := Kd.at_int (Kd.R_reads' HO220.out).2.2 0 p228 q228; cases e228; have qi228 : (0 < t217.length) = True := eq_true (by omega); (try rw [show ((0 : Int)).toNat = 0 from rfl] at hx228_0); (try rw [Addr.add_zero'] at hx228_0); replace p228 := eq_true p228; replace q228 := eq_true q228; have p229 : 0 ≤ (20 : Int) := (by omega); have q229 : 20 < (t217.length : Int) := of_decide_eq_true (by first | (with_reducible assumption) | assumption); obtain ⟨ad229, e229, hx229_0⟩ := Kd.at_int (Kd.R_reads' HO220.out).2.2 20 p229 q229; obtain rfl : ad228 = ad229 := (by injection e229); (try simp only [show (20 : Int).toNat = 20 from rfl, Nat.reduceMul, Nat.reduceEqDiff, Go.Addr.add, ↓reduceIte] at hx229_0); have qi229 : (20 < t217.length) = True := eq_true (by omega); (try rw [show ((20 : Int)).toNat = 20 from rfl] at hx229_0); replace p229 := eq_true p229; replace q229 := eq_true q229))
                          go_ret
                          exact ⟨by first | rfl | (simp [errW_none, errW_some] <;> rfl) | (simp [*, errW_none, errW_some] <;> rfl), by repeat (first | (with_reducible first | exact HB.out | apply below_alloc | apply pw_below_drewN | apply below_drew1) | exact HB.out)⟩
                      · rw [if_neg c24] at H
                        have c24b0 : ((rd t217 20) == 66) = false := beq_eq_false_iff_ne.mpr c24
                        have c24b1 : ((rd t217 20) != 66) = true := bne_iff_ne.mpr c24
                        obtain rfl := Option.some.inj H
                        obtain ⟨Ao74, co74, eo74⟩ := Kd.R_slice HO_1.out
                        subst eo74
                        go_wp2_with (first | ((with_reducible refine gate_callee (f := 7) rfl ?_); refine goesL_ (some 39) rfl rfl Tryd.func7 (by kernel_rfl) rfl #[.slice Ao74 t209.length co74] rfl (by (try simp only [List.map_toArray, List.map_cons, List.map_nil]); first | done | rfl | (simp only [List.length_drop, List.length_take]; rfl)) ?_; (with_reducible refine (gs1_Format.calls kj1 _ _ t209 t215 t216 _ ?side3 ?side1 ?side2 A13.out).mono ?_); (case side1 => repeat (first | exact (Kd.R_reads' HO_1.out).2.2 | (with_reducible refine Kd.C_alloc ?_ _) | (with_reducible refine Kd.C_drewN ?_ _) | (with_reducible refine Kd.C_drew ?_))); (case side2 => exact (Kd.R_reads' HO_1.out).2.1); (case side3 => exact Tabs.below HT.out (by repeat (first | (with_reducible first | exact HB.out | apply below_alloc | apply pw_below_drewN | apply below_drew1) | exact HB.out))); rintro e w75 ⟨rfl, hb⟩; refine ⟨_, rfl, ?_⟩; have n0_ := Aside0.mk (Kd.R_below (by (with_reducible repeat (first | apply Kd.R_alloc | apply Kd.R_drewN | apply Kd.R_drew)); exact HO_1.out) hb); have n1_ := Aside0.mk (below_step (by repeat (first | (with_reducible first | exact HB.out | apply below_alloc | apply pw_below_drewN | apply below_drew1) | exact HB.out)) hb); clear HO_1; clear HB; have HO_1 := n0_; have HB := n1_; clear n0_ n1_; (try clear hb); (try clear hb2); (try clear hk); (try clear hi)) | ((with_reducible refine gate_callee (f := 10) rfl ?_); refine goesL_ (some 44) rfl rfl Tryd.func10 (by kernel_rfl) rfl #[.slice Ao74 t209.length co74] rfl (by (try simp only [List.map_toArray, List.map_cons, List.map_nil]); first | done | rfl | (simp only [List.length_drop, List.length_take]; rfl)) ?_; (with_reducible refine (gs1_Chars.calls kj1 _ _ t209 t217 t218 _ ?side3 ?side1 ?side2 A14.out).mono ?_); (case side1 => repeat (first | exact (Kd.R_reads' HO_1.out).2.2 | (with_reducible refine Kd.C_alloc ?_ _) | (with_reducible refine Kd.C_drewN ?_ _) | (with_reducible refine Kd.C_drew ?_))); (case side2 => exact (Kd.R_reads' HO_1.out).2.1); (case side3 => exact Tabs.below HT.out (by repeat (first | (with_reducible first | exact HB.out | apply below_alloc | apply pw_below_drewN | apply below_drew1) | exact HB.out))); rintro e w76 ⟨v219, rfl, ho0, hb⟩; refine ⟨_, rfl, ?_⟩; have n0_ := Aside0.mk (Kd.R_below (by (with_reducible repeat (first | apply Kd.R_alloc | apply Kd.R_drewN | apply Kd.R_drew)); exact HO_1.out) hb); have n1_ := Aside0.mk (Kd.R_lower ho0 (below_size (by repeat (first | (with_reducible first | exact HB.out | apply below_alloc | apply pw_below_drewN | apply below_drew1) | exact HB.out)))); have n2_ := Aside0.mk (below_step (by repeat (first | (with_reducible first | exact HB.out | apply below_alloc | apply pw_below_drewN | apply below_drew1) | exact HB.out)) hb); clear HO_1; clear HB; have HO_1 := n0_; have HO220 := n1_; have HB := n2_; clear n0_ n1_ n2_; (try clear hb); (try clear hb2); (try clear hk); (try clear hi); (try clear ho0); obtain ⟨Ao77, co77, eo77⟩ := Kd.R_slice HO220.out; subst eo77) | ((with_reducible refine gate_callee (f := 11) rfl ?_); refine goesL_ (some 49) rfl rfl Tryd.func11 (by kernel_rfl) rfl #[.slice Ao77 t217.length co77] rfl (by (try simp only [List.map_toArray, List.map_cons, List.map_nil]); first | done | rfl | (simp only [List.length_drop, List.length_take]; rfl)) ?_; (with_reducible refine (gs1_FromChars.calls kj1 (fun k_ => some k_ = (.slice Ao77 t217.length co77 : Value).ownBlock) _ _ t217 t221 t224 _ ?side2 ?side1 A15.out).mono ?_); (case side1 => exact Kd.R_V (Kd.R_tight rfl (Kd.R_apart' (HO220.out) (Kd.R_typed HO_1.out) (by decide)))); (case side2 => exact Tabs.below HT.out (by repeat (first | (with_reducible first | exact HB.out | apply below_alloc | apply pw_below_drewN | apply below_drew1) | exact HB.out))); rintro e w78 ⟨v222, rfl, ho0, hb⟩; refine ⟨_, rfl, ?_⟩; have n0_ := Aside0.mk (Kd.R_elder' (by (with_reducible repeat (first | apply Kd.R_alloc | apply Kd.R_drewN | apply Kd.R_drew)); exact HO_1.out) (Kd.R_base ho0) hb); have n1_ := Aside0.mk (Kd.R_below (by (with_reducible repeat (first | apply Kd.R_alloc | apply Kd.R_drewN | apply Kd.R_drew)); exact HO220.out) hb); have n2_ := Aside0.mk (Kd.R_lower (Kd.R_new' (Kd.R_mono (ok' := fun k_ => True) ho0 (fun _ hk_ => trivial)) (Kd.R_lt (by (with_reducible repeat (first | apply Kd.R_alloc | apply Kd.R_drewN | apply Kd.R_drew)); exact HO_1.out))) (below_size (by repeat (first | (with_reducible first | exact HB.out | apply below_alloc | apply pw_below_drewN | apply below_drew1) | exact HB.out)))); have n3_ := Aside0.mk (below_step (by repeat (first | (with_reducible first | exact HB.out | apply below_alloc | apply pw_below_drewN | apply below_drew1) | exact HB.out)) hb); clear HO_1; clear HO220; clear HB; have HO_1 := n0_; have HO220 := n1_; have HO223 := n2_; have HB := n3_; clear n0_ n1_ n2_ n3_; (try clear hb); (try clear hb2); (try clear hk); (try clear hi); (try clear ho0)) | ((with_reducible refine gate_callee (f := 14) rfl ?_); refine goesL_ (some 53) rfl rfl Tryd.func14 (by kernel_rfl) rfl #[.string (⟨#[48, 49]⟩ : ByteArray)] rfl (by (try simp only [List.map_toArray, List.map_cons, List.map_nil]); first | done | rfl | (simp only [List.length_drop, List.length_take]; rfl)) ?_; (with_reducible refine (gs1_Fixed.calls (⟨#[48, 49]⟩ : ByteArray) t225 t226 t227 _ ?side1 A16.out).mono ?_); (case side1 => exact Tabs.below HT.out (by repeat (first | (with_reducible first | exact HB.out | apply below_alloc | apply pw_below_drewN | apply below_drew1) | exact HB.out))); rintro e w79 ⟨rfl, hb⟩; refine ⟨_, rfl, ?_⟩; have n0_ := Aside0.mk (Kd.R_below (by (with_reducible repeat (first | apply Kd.R_alloc | apply Kd.R_drewN | apply Kd.R_drew)); exact HO_1.out) hb); have n1_ := Aside0.mk (Kd.R_below (by (with_reducible repeat (first | apply Kd.R_alloc | apply Kd.R_drewN | apply Kd.R_drew)); exact HO220.out) hb); have n2_ := Aside0.mk (Kd.R_below (by (with_reducible repeat (first | apply Kd.R_alloc | apply Kd.R_drewN | apply Kd.R_drew)); exact HO223.out) hb); have n3_ := Aside0.mk (below_step (by repeat (first | (with_reducible first | exact HB.out | apply below_alloc | apply pw_below_drewN | apply below_drew1) | exact HB.out)) hb); clear HO_1; clear HO220; clear HO223; clear HB; have HO_1 := n0_; have HO220 := n1_; have HO223 := n2_; have HB := n3_; clear n0_ n1_ n2_ n3_; (try clear hb); (try clear hb2); (try clear hk); (try clear hi); have p228 : 0 ≤ (0 : Int) := (by omega); have q228 : 0 < (t217.length : Int) := of_decide_eq_true (by first | (with_reducible assumption) | assumption); obtain ⟨ad228, e228, hx228_0⟩ := Kd.at_int (Kd.R_reads' HO220.out).2.2 0 p228 q228; cases e228; have qi228 : (0 < t217.length) = True := eq_true (by omega); (try rw [show ((0 : Int)).toNat = 0 from rfl] at hx228_0); (try rw [Addr.add_zero'] at hx228_0); replace p228 := eq_true p228; replace q228 := eq_true q228; have p229 : 0 ≤ (20 : Int) := (by omega); have q229 : 20 < (t217.length : Int) := of_decide_eq_true (by first | (with_reducible assumption) | assumption); obtain ⟨ad229, e229, hx229_0⟩ := Kd.at_int (Kd.R_reads' HO220.out).2.2 20 p229 q229; obtain rfl : ad228 = ad229 := (by injection e229); (try simp only [show (20 : Int).toNat = 20 from rfl, Nat.reduceMul, Nat.reduceEqDiff, Go.Addr.add, ↓reduceIte] at hx229_0); have qi229 : (20 < t217.length) = True := eq_true (by omega); (try rw [show ((20 : Int)).toNat = 20 from rfl] at hx229_0); replace p229 := eq_true p229; replace q229 := eq_true q229))
                        go_ret
                        exact ⟨by first | rfl | (simp [errW_none, errW_some] <;> rfl) | (simp [*, errW_none, errW_some] <;> rfl), by repeat (first | (with_reducible first | exact HB.out | apply below_alloc | apply pw_below_drewN | apply below_drew1) | exact HB.out)⟩
                    · rw [if_neg c23] at H
                      exact absurd H (by simp)
                  · rw [if_neg c22] at H
                    have c22b0 : ((rd t217 0) == 256) = false := beq_eq_false_iff_ne.mpr c22
                    have c22b1 : ((rd t217 0) != 256) = true := bne_iff_ne.mpr c22
                    obtain rfl := Option.some.inj H
                    obtain ⟨Ao80, co80, eo80⟩ := Kd.R_slice HO_1.out
                    subst eo80
                    go_wp2_with (first | ((with_reducible refine gate_callee (f := 7) rfl ?_); refine goesL_ (some 39) rfl rfl Tryd.func7 (by kernel_rfl) rfl #[.slice Ao80 t209.length co80] rfl (by (try simp only [List.map_toArray, List.map_cons, List.map_nil]); first | done | rfl | (simp only [List.length_drop, List.length_take]; rfl)) ?_; (with_reducible refine (gs1_Format.calls kj1 _ _ t209 t215 t216 _ ?side3 ?side1 ?side2 A13.out).mono ?_); (case side1 => repeat (first | exact (Kd.R_reads' HO_1.out).2.2 | (with_reducible refine Kd.C_alloc ?_ _) | (with_reducible refine Kd.C_drewN ?_ _) | (with_reducible refine Kd.C_drew ?_))); (case side2 => exact (Kd.R_reads' HO_1.out).2.1); (case side3 => exact Tabs.below HT.out (by repeat (first | (with_reducible first | exact HB.out | apply below_alloc | apply pw_below_drewN | apply below_drew1) | exact HB.out))); rintro e w81 ⟨rfl, hb⟩; refine ⟨_, rfl, ?_⟩; have n0_ := Aside0.mk (Kd.R_below (by (with_reducible repeat (first | apply Kd.R_alloc | apply Kd.R_drewN | apply Kd.R_drew)); exact HO_1.out) hb); have n1_ := Aside0.mk (below_step (by repeat (first | (with_reducible first | exact HB.out | apply below_alloc | apply pw_below_drewN | apply below_drew1) | exact HB.out)) hb); clear HO_1; clear HB; have HO_1 := n0_; have HB := n1_; clear n0_ n1_; (try clear hb); (try clear hb2); (try clear hk); (try clear hi)) | ((with_reducible refine gate_callee (f := 10) rfl ?_); refine goesL_ (some 44) rfl rfl Tryd.func10 (by kernel_rfl) rfl #[.slice Ao80 t209.length co80] rfl (by (try simp only [List.map_toArray, List.map_cons, List.map_nil]); first | done | rfl | (simp only [List.length_drop, List.length_take]; rfl)) ?_; (with_reducible refine (gs1_Chars.calls kj1 _ _ t209 t217 t218 _ ?side3 ?side1 ?side2 A14.out).mono ?_); (case side1 => repeat (first | exact (Kd.R_reads' HO_1.out).2.2 | (with_reducible refine Kd.C_alloc ?_ _) | (with_reducible refine Kd.C_drewN ?_ _) | (with_reducible refine Kd.C_drew ?_))); (case side2 => exact (Kd.R_reads' HO_1.out).2.1); (case side3 => exact Tabs.below HT.out (by repeat (first | (with_reducible first | exact HB.out | apply below_alloc | apply pw_below_drewN | apply below_drew1) | exact HB.out))); rintro e w82 ⟨v219, rfl, ho0, hb⟩; refine ⟨_, rfl, ?_⟩; have n0_ := Aside0.mk (Kd.R_below (by (with_reducible repeat (first | apply Kd.R_alloc | apply Kd.R_drewN | apply Kd.R_drew)); exact HO_1.out) hb); have n1_ := Aside0.mk (Kd.R_lower ho0 (below_size (by repeat (first | (with_reducible first | exact HB.out | apply below_alloc | apply pw_below_drewN | apply below_drew1) | exact HB.out)))); have n2_ := Aside0.mk (below_step (by repeat (first | (with_reducible first | exact HB.out | apply below_alloc | apply pw_below_drewN | apply below_drew1) | exact HB.out)) hb); clear HO_1; clear HB; have HO_1 := n0_; have HO220 := n1_; have HB := n2_; clear n0_ n1_ n2_; (try clear hb); (try clear hb2); (try clear hk); (try clear hi); (try clear ho0); obtain ⟨Ao83, co83, eo83⟩ := Kd.R_slice HO220.out; subst eo83) | ((with_reducible refine gate_callee (f := 11) rfl ?_); refine goesL_ (some 49) rfl rfl Tryd.func11 (by kernel_rfl) rfl #[.slice Ao83 t217.length co83] rfl (by (try simp only [List.map_toArray, List.map_cons, List.map_nil]); first | done | rfl | (simp only [List.length_drop, List.length_take]; rfl)) ?_; (with_reducible refine (gs1_FromChars.calls kj1 (fun k_ => some k_ = (.slice Ao83 t217.length co83 : Value).ownBlock) _ _ t217 t221 t224 _ ?side2 ?side1 A15.out).mono ?_); (case side1 => exact Kd.R_V (Kd.R_tight rfl (Kd.R_apart' (HO220.out) (Kd.R_typed HO_1.out) (by decide)))); (case side2 => exact Tabs.below HT.out (by repeat (first | (with_reducible first | exact HB.out | apply below_alloc | apply pw_below_drewN | apply below_drew1) | exact HB.out))); rintro e w84 ⟨v222, rfl, ho0, hb⟩; refine ⟨_, rfl, ?_⟩; have n0_ := Aside0.mk (Kd.R_elder' (by (with_reducible repeat (first | apply Kd.R_alloc | apply Kd.R_drewN | apply Kd.R_drew)); exact HO_1.out) (Kd.R_base ho0) hb); have n1_ := Aside0.mk (Kd.R_below (by (with_reducible repeat (first | apply Kd.R_alloc | apply Kd.R_drewN | apply Kd.R_drew)); exact HO220.out) hb); have n2_ := Aside0.mk (Kd.R_lower (Kd.R_new' (Kd.R_mono (ok' := fun k_ => True) ho0 (fun _ hk_ => trivial)) (Kd.R_lt (by (with_reducible repeat (first | apply Kd.R_alloc | apply Kd.R_drewN | apply Kd.R_drew)); exact HO_1.out))) (below_size (by repeat (first | (with_reducible first | exact HB.out | apply below_alloc | apply pw_below_drewN | apply below_drew1) | exact HB.out)))); have n3_ := Aside0.mk (below_step (by repeat (first | (with_reducible first | exact HB.out | apply below_alloc | apply pw_below_drewN | apply below_drew1) | exact HB.out)) hb); clear HO_1; clear HO220; clear HB; have HO_1 := n0_; have HO220 := n1_; have HO223 := n2_; have HB := n3_; clear n0_ n1_ n2_ n3_; (try clear hb); (try clear hb2); (try clear hk); (try clear hi); (try clear ho0)) | ((with_reducible refine gate_callee (f := 14) rfl ?_); refine goesL_ (some 53) rfl rfl Tryd.func14 (by kernel_rfl) rfl #[.string (⟨#[48, 49]⟩ : ByteArray)] rfl (by (try simp only [List.map_toArray, List.map_cons, List.map_nil]); first | done | rfl | (simp only [List.length_drop, List.length_take]; rfl)) ?_; (with_reducible refine (gs1_Fixed.calls (⟨#[48, 49]⟩ : ByteArray) t225 t226 t227 _ ?side1 A16.out).mono ?_); (case side1 => exact Tabs.below HT.out (by repeat (first | (with_reducible first | exact HB.out | apply below_alloc | apply pw_below_drewN | apply below_drew1) | exact HB.out))); rintro e w85 ⟨rfl, hb⟩; refine ⟨_, rfl, ?_⟩; have n0_ := Aside0.mk (Kd.R_below (by (with_reducible repeat (first | apply Kd.R_alloc | apply Kd.R_drewN | apply Kd.R_drew)); exact HO_1.out) hb); have n1_ := Aside0.mk (Kd.R_below (by (with_reducible repeat (first | apply Kd.R_alloc | apply Kd.R_drewN | apply Kd.R_drew)); exact HO220.out) hb); have n2_ := Aside0.mk (Kd.R_below (by (with_reducible repeat (first | apply Kd.R_alloc | apply Kd.R_drewN | apply Kd.R_drew)); exact HO223.out) hb); have n3_ := Aside0.mk (below_step (by repeat (first | (with_reducible first | exact HB.out | apply below_alloc | apply pw_below_drewN | apply below_drew1) | exact HB.out)) hb); clear HO_1; clear HO220; clear HO223; clear HB; have HO_1 := n0_; have HO220 := n1_; have HO223 := n2_; have HB := n3_; clear n0_ n1_ n2_ n3_; (try clear hb); (try clear hb2); (try clear hk); (try clear hi); have p228 : 0 ≤ (0 : Int) := (by omega); have q228 : 0 < (t217.length : Int) := of_decide_eq_true (by first | (with_reducible assumption) | assumption); obtain ⟨ad228, e228, hx228_0⟩ := Kd.at_int (Kd.R_reads' HO220.out).2.2 0 p228 q228; cases e228; have qi228 : (0 < t217.length) = True := eq_true (by omega); (try rw [show ((0 : Int)).toNat = 0 from rfl] at hx228_0); (try rw [Addr.add_zero'] at hx228_0); replace p228 := eq_true p228; replace q228 := eq_true q228))
                    go_ret
                    exact ⟨by first | rfl | (simp [errW_none, errW_some] <;> rfl) | (simp [*, errW_none, errW_some] <;> rfl), by repeat (first | (with_reducible first | exact HB.out | apply below_alloc | apply pw_below_drewN | apply below_drew1) | exact HB.out)⟩
                · rw [if_neg c21] at H
                  exact absurd H (by simp)
              · rw [if_neg c20] at H
                have c20b0 : ((t217.length : Int) == 21) = false := beq_eq_false_iff_ne.mpr c20
                have c20b1 : ((t217.length : Int) != 21) = true := bne_iff_ne.mpr c20
                obtain rfl := Option.some.inj H
                obtain ⟨Ao86, co86, eo86⟩ := Kd.R_slice HO_1.out
                subst eo86
                go_wp2_with (first | ((with_reducible refine gate_callee (f := 7) rfl ?_); refine goesL_ (some 39) rfl rfl Tryd.func7 (by kernel_rfl) rfl #[.slice Ao86 t209.length co86] rfl (by (try simp only [List.map_toArray, List.map_cons, List.map_nil]); first | done | rfl | (simp only [List.length_drop, List.length_take]; rfl)) ?_; (with_reducible refine (gs1_Format.calls kj1 _ _ t209 t215 t216 _ ?side3 ?side1 ?side2 A13.out).mono ?_); (case side1 => repeat (first | exact (Kd.R_reads' HO_1.out).2.2 | (with_reducible refine Kd.C_alloc ?_ _) | (with_reducible refine Kd.C_drewN ?_ _) | (with_reducible refine Kd.C_drew ?_))); (case side2 => exact (Kd.R_reads' HO_1.out).2.1); (case side3 => exact Tabs.below HT.out (by repeat (first | (with_reducible first | exact HB.out | apply below_alloc | apply pw_below_drewN | apply below_drew1) | exact HB.out))); rintro e w87 ⟨rfl, hb⟩; refine ⟨_, rfl, ?_⟩; have n0_ := Aside0.mk (Kd.R_below (by (with_reducible repeat (first | apply Kd.R_alloc | apply Kd.R_drewN | apply Kd.R_drew)); exact HO_1.out) hb); have n1_ := Aside0.mk (below_step (by repeat (first | (with_reducible first | exact HB.out | apply below_alloc | apply pw_below_drewN | apply below_drew1) | exact HB.out)) hb); clear HO_1; clear HB; have HO_1 := n0_; have HB := n1_; clear n0_ n1_; (try clear hb); (try clear hb2); (try clear hk); (try clear hi)) | ((with_reducible refine gate_callee (f := 10) rfl ?_); refine goesL_ (some 44) rfl rfl Tryd.func10 (by kernel_rfl) rfl #[.slice Ao86 t209.length co86] rfl (by (try simp only [List.map_toArray, List.map_cons, List.map_nil]); first | done | rfl | (simp only [List.length_drop, List.length_take]; rfl)) ?_; (with_reducible refine (gs1_Chars.calls kj1 _ _ t209 t217 t218 _ ?side3 ?side1 ?side2 A14.out).mono ?_); (case side1 => repeat (first | exact (Kd.R_reads' HO_1.out).2.2 | (with_reducible refine Kd.C_alloc ?_ _) | (with_reducible refine Kd.C_drewN ?_ _) | (with_reducible refine Kd.C_drew ?_))); (case side2 => exact (Kd.R_reads' HO_1.out).2.1); (case side3 => exact Tabs.below HT.out (by repeat (first | (with_reducible first | exact HB.out | apply below_alloc | apply pw_below_drewN | apply below_drew1) | exact HB.out))); rintro e w88 ⟨v219, rfl, ho0, hb⟩; refine ⟨_, rfl, ?_⟩; have n0_ := Aside0.mk (Kd.R_below (by (with_reducible repeat (first | apply Kd.R_alloc | apply Kd.R_drewN | apply Kd.R_drew)); exact HO_1.out) hb); have n1_ := Aside0.mk (Kd.R_lower ho0 (below_size (by repeat (first | (with_reducible first | exact HB.out | apply below_alloc | apply pw_below_drewN | apply below_drew1) | exact HB.out)))); have n2_ := Aside0.mk (below_step (by repeat (first | (with_reducible first | exact HB.out | apply below_alloc | apply pw_below_drewN | apply below_drew1) | exact HB.out)) hb); clear HO_1; clear HB; have HO_1 := n0_; have HO220 := n1_; have HB := n2_; clear n0_ n1_ n2_; (try clear hb); (try clear hb2); (try clear hk); (try clear hi); (try clear ho0); obtain ⟨Ao89, co89, eo89⟩ := Kd.R_slice HO220.out; subst eo89) | ((with_reducible refine gate_callee (f := 11) rfl ?_); refine goesL_ (some 49) rfl rfl Tryd.func11 (by kernel_rfl) rfl #[.slice Ao89 t217.length co89] rfl (by (try simp only [List.map_toArray, List.map_cons, List.map_nil]); first | done | rfl | (simp only [List.length_drop, List.length_take]; rfl)) ?_; (with_reducible refine (gs1_FromChars.calls kj1 (fun k_ => some k_ = (.slice Ao89 t217.length co89 : Value).ownBlock) _ _ t217 t221 t224 _ ?side2 ?side1 A15.out).mono ?_); (case side1 => exact Kd.R_V (Kd.R_tight rfl (Kd.R_apart' (HO220.out) (Kd.R_typed HO_1.out) (by decide)))); (case side2 => exact Tabs.below HT.out (by repeat (first | (with_reducible first | exact HB.out | apply below_alloc | apply pw_below_drewN | apply below_drew1) | exact HB.out))); rintro e w90 ⟨v222, rfl, ho0, hb⟩; refine ⟨_, rfl, ?_⟩; have n0_ := Aside0.mk (Kd.R_elder' (by (with_reducible repeat (first | apply Kd.R_alloc | apply Kd.R_drewN | apply Kd.R_drew)); exact HO_1.out) (Kd.R_base ho0) hb); have n1_ := Aside0.mk (Kd.R_below (by (with_reducible repeat (first | apply Kd.R_alloc | apply Kd.R_drewN | apply Kd.R_drew)); exact HO220.out) hb); have n2_ := Aside0.mk (Kd.R_lower (Kd.R_new' (Kd.R_mono (ok' := fun k_ => True) ho0 (fun _ hk_ => trivial)) (Kd.R_lt (by (with_reducible repeat (first | apply Kd.R_alloc | apply Kd.R_drewN | apply Kd.R_drew)); exact HO_1.out))) (below_size (by repeat (first | (with_reducible first | exact HB.out | apply below_alloc | apply pw_below_drewN | apply below_drew1) | exact HB.out)))); have n3_ := Aside0.mk (below_step (by repeat (first | (with_reducible first | exact HB.out | apply below_alloc | apply pw_below_drewN | apply below_drew1) | exact HB.out)) hb); clear HO_1; clear HO220; clear HB; have HO_1 := n0_; have HO220 := n1_; have HO223 := n2_; have HB := n3_; clear n0_ n1_ n2_ n3_; (try clear hb); (try clear hb2); (try clear hk); (try clear hi); (try clear ho0)) | ((with_reducible refine gate_callee (f := 14) rfl ?_); refine goesL_ (some 53) rfl rfl Tryd.func14 (by kernel_rfl) rfl #[.string (⟨#[48, 49]⟩ : ByteArray)] rfl (by (try simp only [List.map_toArray, List.map_cons, List.map_nil]); first | done | rfl | (simp only [List.length_drop, List.length_take]; rfl)) ?_; (with_reducible refine (gs1_Fixed.calls (⟨#[48, 49]⟩ : ByteArray) t225 t226 t227 _ ?side1 A16.out).mono ?_); (case side1 => exact Tabs.below HT.out (by repeat (first | (with_reducible first | exact HB.out | apply below_alloc | apply pw_below_drewN | apply below_drew1) | exact HB.out))); rintro e w91 ⟨rfl, hb⟩; refine ⟨_, rfl, ?_⟩; have n0_ := Aside0.mk (Kd.R_below (by (with_reducible repeat (first | apply Kd.R_alloc | apply Kd.R_drewN | apply Kd.R_drew)); exact HO_1.out) hb); have n1_ := Aside0.mk (Kd.R_below (by (with_reducible repeat (first | apply Kd.R_alloc | apply Kd.R_drewN | apply Kd.R_drew)); exact HO220.out) hb); have n2_ := Aside0.mk (Kd.R_below (by (with_reducible repeat (first | apply Kd.R_alloc | apply Kd.R_drewN | apply Kd.R_drew)); exact HO223.out) hb); have n3_ := Aside0.mk (below_step (by repeat (first | (with_reducible first | exact HB.out | apply below_alloc | apply pw_below_drewN | apply below_drew1) | exact HB.out)) hb); clear HO_1; clear HO220; clear HO223; clear HB; have HO_1 := n0_; have HO220 := n1_; have HO223 := n2_; have HB := n3_; clear n0_ n1_ n2_ n3_; (try clear hb); (try clear hb2); (try clear hk); (try clear hi)))
                go_ret
                exact ⟨by first | rfl | (simp [errW_none, errW_some] <;> rfl) | (simp [*, errW_none, errW_some] <;> rfl), by repeat (first | (with_reducible first | exact HB.out | apply below_alloc | apply pw_below_drewN | apply below_drew1) | exact HB.out)⟩
            · rw [if_neg c19] at H
              have c19b0 : (t218 == 0) = false := beq_eq_false_iff_ne.mpr c19
              have c19b1 : (t218 != 0) = true := bne_iff_ne.mpr c19
              obtain rfl := Option.some.inj H
              obtain ⟨Ao92, co92, eo92⟩ := Kd.R_slice HO_1.out
              subst eo92
              go_wp2_with (first | ((with_reducible refine gate_callee (f := 7) rfl ?_); refine goesL_ (some 39) rfl rfl Tryd.func7 (by kernel_rfl) rfl #[.slice Ao92 t209.length co92] rfl (by (try simp only [List.map_toArray, List.map_cons, List.map_nil]); first | done | rfl | (simp only [List.length_drop, List.length_take]; rfl)) ?_; (with_reducible refine (gs1_Format.calls kj1 _ _ t209 t215 t216 _ ?side3 ?side1 ?side2 A13.out).mono ?_); (case side1 => repeat (first | exact (Kd.R_reads' HO_1.out).2.2 | (with_reducible refine Kd.C_alloc ?_ _) | (with_reducible refine Kd.C_drewN ?_ _) | (with_reducible refine Kd.C_drew ?_))); (case side2 => exact (Kd.R_reads' HO_1.out).2.1); (case side3 => exact Tabs.below HT.out (by repeat (first | (with_reducible first | exact HB.out | apply below_alloc | apply pw_below_drewN | apply below_drew1) | exact HB.out))); rintro e w93 ⟨rfl, hb⟩; refine ⟨_, rfl, ?_⟩; have n0_ := Aside0.mk (Kd.R_below (by (with_reducible repeat (first | apply Kd.R_alloc | apply Kd.R_drewN | apply Kd.R_drew)); exact HO_1.out) hb); have n1_ := Aside0.mk (below_step (by repeat (first | (with_reducible first | exact HB.out | apply below_alloc | apply pw_below_drewN | apply below_drew1) | exact HB.out)) hb); clear HO_1; clear HB; have HO_1 := n0_; have HB := n1_; clear n0_ n1_; (try clear hb); (try clear hb2); (try clear hk); (try clear hi)) | ((with_reducible refine gate_callee (f := 10) rfl ?_); refine goesL_ (some 44) rfl rfl Tryd.func10 (by kernel_rfl) rfl #[.slice Ao92 t209.length co92] rfl (by (try simp only [List.map_toArray, List.map_cons, List.map_nil]); first | done | rfl | (simp only [List.length_drop, List.length_take]; rfl)) ?_; (with_reducible refine (gs1_Chars.calls kj1 _ _ t209 t217 t218 _ ?side3 ?side1 ?side2 A14.out).mono ?_); (case side1 => repeat (first | exact (Kd.R_reads' HO_1.out).2.2 | (with_reducible refine Kd.C_alloc ?_ _) | (with_reducible refine Kd.C_drewN ?_ _) | (with_reducible refine Kd.C_drew ?_))); (case side2 => exact (Kd.R_reads' HO_1.out).2.1); (case side3 => exact Tabs.below HT.out (by repeat (first | (with_reducible first | exact HB.out | apply below_alloc | apply pw_below_drewN | apply below_drew1) | exact HB.out))); rintro e w94 ⟨v219, rfl, ho0, hb⟩; refine ⟨_, rfl, ?_⟩; have n0_ := Aside0.mk (Kd.R_below (by (with_reducible repeat (first | apply Kd.R_alloc | apply Kd.R_drewN | apply Kd.R_drew)); exact HO_1.out) hb); have n1_ := Aside0.mk (Kd.R_lower ho0 (below_size (by repeat (first | (with_reducible first | exact HB.out | apply below_alloc | apply pw_below_drewN | apply below_drew1) | exact HB.out)))); have n2_ := Aside0.mk (below_step (by repeat (first | (with_reducible first | exact HB.out | apply below_alloc | apply pw_below_drewN | apply below_drew1) | exact HB.out)) hb); clear HO_1; clear HB; have HO_1 := n0_; have HO220 := n1_; have HB := n2_; clear n0_ n1_ n2_; (try clear hb); (try clear hb2); (try clear hk); (try clear hi); (try clear ho0); obtain ⟨Ao95, co95, eo95⟩ := Kd.R_slice HO220.out; subst eo95) | ((with_reducible refine gate_callee (f := 11) rfl ?_); refine goesL_ (some 49) rfl rfl Tryd.func11 (by kernel_rfl) rfl #[.slice Ao95 t217.length co95] rfl (by (try simp only [List.map_toArray, List.map_cons, List.map_nil]); first | done | rfl | (simp only [List.length_drop, List.length_take]; rfl)) ?_; (with_reducible refine (gs1_FromChars.calls kj1 (fun k_ => some k_ = (.slice Ao95 t217.length co95 : Value).ownBlock) _ _ t217 t221 t224 _ ?side2 ?side1 A15.out).mono ?_); (case side1 => exact Kd.R_V (Kd.R_tight rfl (Kd.R_apart' (HO220.out) (Kd.R_typed HO_1.out) (by decide)))); (case side2 => exact Tabs.below HT.out (by repeat (first | (with_reducible first | exact HB.out | apply below_alloc | apply pw_below_drewN | apply below_drew1) | exact HB.out))); rintro e w96 ⟨v222, rfl, ho0, hb⟩; refine ⟨_, rfl, ?_⟩; have n0_ := Aside0.mk (Kd.R_elder' (by (with_reducible repeat (first | apply Kd.R_alloc | apply Kd.R_drewN | apply Kd.R_drew)); exact HO_1.out) (Kd.R_base ho0) hb); have n1_ := Aside0.mk (Kd.R_below (by (with_reducible repeat (first | apply Kd.R_alloc | apply Kd.R_drewN | apply Kd.R_drew)); exact HO220.out) hb); have n2_ := Aside0.mk (Kd.R_lower (Kd.R_new' (Kd.R_mono (ok' := fun k_ => True) ho0 (fun _ hk_ => trivial)) (Kd.R_lt (by (with_reducible repeat (first | apply Kd.R_alloc | apply Kd.R_drewN | apply Kd.R_drew)); exact HO_1.out))) (below_size (by repeat (first | (with_reducible first | exact HB.out | apply below_alloc | apply pw_below_drewN | apply below_drew1) | exact HB.out)))); have n3_ := Aside0.mk (below_step (by repeat (first | (with_reducible first | exact HB.out | apply below_alloc | apply pw_below_drewN | apply below_drew1) | exact HB.out)) hb); clear HO_1; clear HO220; clear HB; have HO_1 := n0_; have HO220 := n1_; have HO223 := n2_; have HB := n3_; clear n0_ n1_ n2_ n3_; (try clear hb); (try clear hb2); (try clear hk); (try clear hi); (try clear ho0)) | ((with_reducible refine gate_callee (f := 14) rfl ?_); refine goesL_ (some 53) rfl rfl Tryd.func14 (by kernel_rfl) rfl #[.string (⟨#[48, 49]⟩ : ByteArray)] rfl (by (try simp only [List.map_toArray, List.map_cons, List.map_nil]); first | done | rfl | (simp only [List.length_drop, List.length_take]; rfl)) ?_; (with_reducible refine (gs1_Fixed.calls (⟨#[48, 49]⟩ : ByteArray) t225 t226 t227 _ ?side1 A16.out).mono ?_); (case side1 => exact Tabs.below HT.out (by repeat (first | (with_reducible first | exact HB.out | apply below_alloc | apply pw_below_drewN | apply below_drew1) | exact HB.out))); rintro e w97 ⟨rfl, hb⟩; refine ⟨_, rfl, ?_⟩; have n0_ := Aside0.mk (Kd.R_below (by (with_reducible repeat (first | apply Kd.R_alloc | apply Kd.R_drewN | apply Kd.R_drew)); exact HO_1.out) hb); have n1_ := Aside0.mk (Kd.R_below (by (with_reducible repeat (first | apply Kd.R_alloc | apply Kd.R_drewN | apply Kd.R_drew)); exact HO220.out) hb); have n2_ := Aside0.mk (Kd.R_below (by (with_reducible repeat (first | apply Kd.R_alloc | apply Kd.R_drewN | apply Kd.R_drew)); exact HO223.out) hb); have n3_ := Aside0.mk (below_step (by repeat (first | (with_reducible first | exact HB.out | apply below_alloc | apply pw_below_drewN | apply below_drew1) | exact HB.out)) hb); clear HO_1; clear HO220; clear HO223; clear HB; have HO_1 := n0_; have HO220 := n1_; have HO223 := n2_; have HB := n3_; clear n0_ n1_ n2_ n3_; (try clear hb); (try clear hb2); (try clear hk); (try clear hi)))
              go_ret
              exact ⟨by first | rfl | (simp [errW_none, errW_some] <;> rfl) | (simp [*, errW_none, errW_some] <;> rfl), by repeat (first | (with_reducible first | exact HB.out | apply below_alloc | apply pw_below_drewN | apply below_drew1) | exact HB.out)⟩
          · rw [if_neg c18] at H
            have c18b0 : (t215.toList == ([40, 48, 49, 41, 48, 57, 53, 48, 49, 49, 48, 49, 53, 51, 48, 48, 48, 51, 40, 49, 48, 41, 65, 66] : List UInt8)) = false := beq_eq_false_iff_ne.mpr c18
            have c18b1 : (t215.toList != ([40, 48, 49, 41, 48, 57, 53, 48, 49, 49, 48, 49, 53, 51, 48, 48, 48, 51, 40, 49, 48, 41, 65, 66] : List UInt8)) = true := bne_iff_ne.mpr c18
            obtain rfl := Option.some.inj H
            obtain ⟨Ao98, co98, eo98⟩ := Kd.R_slice HO_1.out
            subst eo98
            go_wp2_with (first | ((with_reducible refine gate_callee (f := 7) rfl ?_); refine goesL_ (some 39) rfl rfl Tryd.func7 (by kernel_rfl) rfl #[.slice Ao98 t209.length co98] rfl (by (try simp only [List.map_toArray, List.map_cons, List.map_nil]); first | done | rfl | (simp only [List.length_drop, List.length_take]; rfl)) ?_; (with_reducible refine (gs1_Format.calls kj1 _ _ t209 t215 t216 _ ?side3 ?side1 ?side2 A13.out).mono ?_); (case side1 => repeat (first | exact (Kd.R_reads' HO_1.out).2.2 | (with_reducible refine Kd.C_alloc ?_ _) | (with_reducible refine Kd.C_drewN ?_ _) | (with_reducible refine Kd.C_drew ?_))); (case side2 => exact (Kd.R_reads' HO_1.out).2.1); (case side3 => exact Tabs.below HT.out (by repeat (first | (with_reducible first | exact HB.out | apply below_alloc | apply pw_below_drewN | apply below_drew1) | exact HB.out))); rintro e w99 ⟨rfl, hb⟩; refine ⟨_, rfl, ?_⟩; have n0_ := Aside0.mk (Kd.R_below (by (with_reducible repeat (first | apply Kd.R_alloc | apply Kd.R_drewN | apply Kd.R_drew)); exact HO_1.out) hb); have n1_ := Aside0.mk (below_step (by repeat (first | (with_reducible first | exact HB.out | apply below_alloc | apply pw_below_drewN | apply below_drew1) | exact HB.out)) hb); clear HO_1; clear HB; have HO_1 := n0_; have HB := n1_; clear n0_ n1_; (try clear hb); (try clear hb2); (try clear hk); (try clear hi)) | ((with_reducible refine gate_callee (f := 10) rfl ?_); refine goesL_ (some 44) rfl rfl Tryd.func10 (by kernel_rfl) rfl #[.slice Ao98 t209.length co98] rfl (by (try simp only [List.map_toArray, List.map_cons, List.map_nil]); first | done | rfl | (simp only [List.length_drop, List.length_take]; rfl)) ?_; (with_reducible refine (gs1_Chars.calls kj1 _ _ t209 t217 t218 _ ?side3 ?side1 ?side2 A14.out).mono ?_); (case side1 => repeat (first | exact (Kd.R_reads' HO_1.out).2.2 | (with_reducible refine Kd.C_alloc ?_ _) | (with_reducible refine Kd.C_drewN ?_ _) | (with_reducible refine Kd.C_drew ?_))); (case side2 => exact (Kd.R_reads' HO_1.out).2.1); (case side3 => exact Tabs.below HT.out (by repeat (first | (with_reducible first | exact HB.out | apply below_alloc | apply pw_below_drewN | apply below_drew1) | exact HB.out))); rintro e w100 ⟨v219, rfl, ho0, hb⟩; refine ⟨_, rfl, ?_⟩; have n0_ := Aside0.mk (Kd.R_below (by (with_reducible repeat (first | apply Kd.R_alloc | apply Kd.R_drewN | apply Kd.R_drew)); exact HO_1.out) hb); have n1_ := Aside0.mk (Kd.R_lower ho0 (below_size (by repeat (first | (with_reducible first | exact HB.out | apply below_alloc | apply pw_below_drewN | apply below_drew1) | exact HB.out)))); have n2_ := Aside0.mk (below_step (by repeat (first | (with_reducible first | exact HB.out | apply below_alloc | apply pw_below_drewN | apply below_drew1) | exact HB.out)) hb); clear HO_1; clear HB; have HO_1 := n0_; have HO220 := n1_; have HB := n2_; clear n0_ n1_ n2_; (try clear hb); (try clear hb2); (try clear hk); (try clear hi); (try clear ho0); obtain ⟨Ao101, co101, eo101⟩ := Kd.R_slice HO220.out; subst eo101) | ((with_reducible refine gate_callee (f := 11) rfl ?_); refine goesL_ (some 49) rfl rfl Tryd.func11 (by kernel_rfl) rfl #[.slice Ao101 t217.length co101] rfl (by (try simp only [List.map_toArray, List.map_cons, List.map_nil]); first | done | rfl | (simp only [List.length_drop, List.length_take]; rfl)) ?_; (with_reducible refine (gs1_FromChars.calls kj1 (fun k_ => some k_ = (.slice Ao101 t217.length co101 : Value).ownBlock) _ _ t217 t221 t224 _ ?side2 ?side1 A15.out).mono ?_); (case side1 => exact Kd.R_V (Kd.R_tight rfl (Kd.R_apart' (HO220.out) (Kd.R_typed HO_1.out) (by decide)))); (case side2 => exact Tabs.below HT.out (by repeat (first | (with_reducible first | exact HB.out | apply below_alloc | apply pw_below_drewN | apply below_drew1) | exact HB.out))); rintro e w102 ⟨v222, rfl, ho0, hb⟩; refine ⟨_, rfl, ?_⟩; have n0_ := Aside0.mk (Kd.R_elder' (by (with_reducible repeat (first | apply Kd.R_alloc | apply Kd.R_drewN | apply Kd.R_drew)); exact HO_1.out) (Kd.R_base ho0) hb); have n1_ := Aside0.mk (Kd.R_below (by (with_reducible repeat (first | apply Kd.R_alloc | apply Kd.R_drewN | apply Kd.R_drew)); exact HO220.out) hb); have n2_ := Aside0.mk (Kd.R_lower (Kd.R_new' (Kd.R_mono (ok' := fun k_ => True) ho0 (fun _ hk_ => trivial)) (Kd.R_lt (by (with_reducible repeat (first | apply Kd.R_alloc | apply Kd.R_drewN | apply Kd.R_drew)); exact HO_1.out))) (below_size (by repeat (first | (with_reducible first | exact HB.out | apply below_alloc | apply pw_below_drewN | apply below_drew1) | exact HB.out)))); have n3_ := Aside0.mk (below_step (by repeat (first | (with_reducible first | exact HB.out | apply below_alloc | apply pw_below_drewN | apply below_drew1) | exact HB.out)) hb); clear HO_1; clear HO220; clear HB; have HO_1 := n0_; have HO220 := n1_; have HO223 := n2_; have HB := n3_; clear n0_ n1_ n2_ n3_; (try clear hb); (try clear hb2); (try clear hk); (try clear hi); (try clear ho0)) | ((with_reducible refine gate_callee (f := 14) rfl ?_); refine goesL_ (some 53) rfl rfl Tryd.func14 (by kernel_rfl) rfl #[.string (⟨#[48, 49]⟩ : ByteArray)] rfl (by (try simp only [List.map_toArray, List.map_cons, List.map_nil]); first | done | rfl | (simp only [List.length_drop, List.length_take]; rfl)) ?_; (with_reducible refine (gs1_Fixed.calls (⟨#[48, 49]⟩ : ByteArray) t225 t226 t227 _ ?side1 A16.out).mono ?_); (case side1 => exact Tabs.below HT.out (by repeat (first | (with_reducible first | exact HB.out | apply below_alloc | apply pw_below_drewN | apply below_drew1) | exact HB.out))); rintro e w103 ⟨rfl, hb⟩; refine ⟨_, rfl, ?_⟩; have n0_ := Aside0.mk (Kd.R_below (by (with_reducible repeat (first | apply Kd.R_alloc | apply Kd.R_drewN | apply Kd.R_drew)); exact HO_1.out) hb); have n1_ := Aside0.mk (Kd.R_below (by (with_reducible repeat (first | apply Kd.R_alloc | apply Kd.R_drewN | apply Kd.R_drew)); exact HO220.out) hb); have n2_ := Aside0.mk (Kd.R_below (by (with_reducible repeat (first | apply Kd.R_alloc | apply Kd.R_drewN | apply Kd.R_drew)); exact HO223.out) hb); have n3_ := Aside0.mk (below_step (by repeat (first | (with_reducible first | exact HB.out | apply below_alloc | apply pw_below_drewN | apply below_drew1) | exact HB.out)) hb); clear HO_1; clear HO220; clear HO223; clear HB; have HO_1 := n0_; have HO220 := n1_; have HO223 := n2_; have HB := n3_; clear n0_ n1_ n2_ n3_; (try clear hb); (try clear hb2); (try clear hk); (try clear hi)))
            go_ret
            exact ⟨by first | rfl | (simp [errW_none, errW_some] <;> rfl) | (simp [*, errW_none, errW_some] <;> rfl), by repeat (first | (with_reducible first | exact HB.out | apply below_alloc | apply pw_below_drewN | apply below_drew1) | exact HB.out)⟩
        · rw [if_neg c17] at H
          have c17b0 : (t216 == 0) = false := beq_eq_false_iff_ne.mpr c17
          have c17b1 : (t216 != 0) = true := bne_iff_ne.mpr c17
          obtain rfl := Option.some.inj H
          obtain ⟨Ao104, co104, eo104⟩ := Kd.R_slice HO_1.out
          subst eo104
          go_wp2_with (first | ((with_reducible refine gate_callee (f := 7) rfl ?_); refine goesL_ (some 39) rfl rfl Tryd.func7 (by kernel_rfl) rfl #[.slice Ao104 t209.length co104] rfl (by (try simp only [List.map_toArray, List.map_cons, List.map_nil]); first | done | rfl | (simp only [List.length_drop, List.length_take]; rfl)) ?_; (with_reducible refine (gs1_Format.calls kj1 _ _ t209 t215 t216 _ ?side3 ?side1 ?side2 A13.out).mono ?_); (case side1 => repeat (first | exact (Kd.R_reads' HO_1.out).2.2 | (with_reducible refine Kd.C_alloc ?_ _) | (with_reducible refine Kd.C_drewN ?_ _) | (with_reducible refine Kd.C_drew ?_))); (case side2 => exact (Kd.R_reads' HO_1.out).2.1); (case side3 => exact Tabs.below HT.out (by repeat (first | (with_reducible first | exact HB.out | apply below_alloc | apply pw_below_drewN | apply below_drew1) | exact HB.out))); rintro e w105 ⟨rfl, hb⟩; refine ⟨_, rfl, ?_⟩; have n0_ := Aside0.mk (Kd.R_below (by (with_reducible repeat (first | apply Kd.R_alloc | apply Kd.R_drewN | apply Kd.R_drew)); exact HO_1.out) hb); have n1_ := Aside0.mk (below_step (by repeat (first | (with_reducible first | exact HB.out | apply below_alloc | apply pw_below_drewN | apply below_drew1) | exact HB.out)) hb); clear HO_1; clear HB; have HO_1 := n0_; have HB := n1_; clear n0_ n1_; (try clear hb); (try clear hb2); (try clear hk); (try clear hi)) | ((with_reducible refine gate_callee (f := 10) rfl ?_); refine goesL_ (some 44) rfl rfl Tryd.func10 (by kernel_rfl) rfl #[.slice Ao104 t209.length co104] rfl (by (try simp only [List.map_toArray, List.map_cons, List.map_nil]); first | done | rfl | (simp only [List.length_drop, List.length_take]; rfl)) ?_; (with_reducible refine (gs1_Chars.calls kj1 _ _ t209 t217 t218 _ ?side3 ?side1 ?side2 A14.out).mono ?_); (case side1 => repeat (first | exact (Kd.R_reads' HO_1.out).2.2 | (with_reducible refine Kd.C_alloc ?_ _) | (with_reducible refine Kd.C_drewN ?_ _) | (with_reducible refine Kd.C_drew ?_))); (case side2 => exact (Kd.R_reads' HO_1.out).2.1); (case side3 => exact Tabs.below HT.out (by repeat (first | (with_reducible first | exact HB.out | apply below_alloc | apply pw_below_drewN | apply below_drew1) | exact HB.out))); rintro e w106 ⟨v219, rfl, ho0, hb⟩; refine ⟨_, rfl, ?_⟩; have n0_ := Aside0.mk (Kd.R_below (by (with_reducible repeat (first | apply Kd.R_alloc | apply Kd.R_drewN | apply Kd.R_drew)); exact HO_1.out) hb); have n1_ := Aside0.mk (Kd.R_lower ho0 (below_size (by repeat (first | (with_reducible first | exact HB.out | apply below_alloc | apply pw_below_drewN | apply below_drew1) | exact HB.out)))); have n2_ := Aside0.mk (below_step (by repeat (first | (with_reducible first | exact HB.out | apply below_alloc | apply pw_below_drewN | apply below_drew1) | exact HB.out)) hb); clear HO_1; clear HB; have HO_1 := n0_; have HO220 := n1_; have HB := n2_; clear n0_ n1_ n2_; (try clear hb); (try clear hb2); (try clear hk); (try clear hi); (try clear ho0); obtain ⟨Ao107, co107, eo107⟩ := Kd.R_slice HO220.out; subst eo107) | ((with_reducible refine gate_callee (f := 11) rfl ?_); refine goesL_ (some 49) rfl rfl Tryd.func11 (by kernel_rfl) rfl #[.slice Ao107 t217.length co107] rfl (by (try simp only [List.map_toArray, List.map_cons, List.map_nil]); first | done | rfl | (simp only [List.length_drop, List.length_take]; rfl)) ?_; (with_reducible refine (gs1_FromChars.calls kj1 (fun k_ => some k_ = (.slice Ao107 t217.length co107 : Value).ownBlock) _ _ t217 t221 t224 _ ?side2 ?side1 A15.out).mono ?_); (case side1 => exact Kd.R_V (Kd.R_tight rfl (Kd.R_apart' (HO220.out) (Kd.R_typed HO_1.out) (by decide)))); (case side2 => exact Tabs.below HT.out (by repeat (first | (with_reducible first | exact HB.out | apply below_alloc | apply pw_below_drewN | apply below_drew1) | exact HB.out))); rintro e w108 ⟨v222, rfl, ho0, hb⟩; refine ⟨_, rfl, ?_⟩; have n0_ := Aside0.mk (Kd.R_elder' (by (with_reducible repeat (first | apply Kd.R_alloc | apply Kd.R_drewN | apply Kd.R_drew)); exact HO_1.out) (Kd.R_base ho0) hb); have n1_ := Aside0.mk (Kd.R_below (by (with_reducible repeat (first | apply Kd.R_alloc | apply Kd.R_drewN | apply Kd.R_drew)); exact HO220.out) hb); have n2_ := Aside0.mk (Kd.R_lower (Kd.R_new' (Kd.R_mono (ok' := fun k_ => True) ho0 (fun _ hk_ => trivial)) (Kd.R_lt (by (with_reducible repeat (first | apply Kd.R_alloc | apply Kd.R_drewN | apply Kd.R_drew)); exact HO_1.out))) (below_size (by repeat (first | (with_reducible first | exact HB.out | apply below_alloc | apply pw_below_drewN | apply below_drew1) | exact HB.out)))); have n3_ := Aside0.mk (below_step (by repeat (first | (with_reducible first | exact HB.out | apply below_alloc | apply pw_below_drewN | apply below_drew1) | exact HB.out)) hb); clear HO_1; clear HO220; clear HB; have HO_1 := n0_; have HO220 := n1_; have HO223 := n2_; have HB := n3_; clear n0_ n1_ n2_ n3_; (try clear hb); (try clear hb2); (try clear hk); (try clear hi); (try clear ho0)) | ((with_reducible refine gate_callee (f := 14) rfl ?_); refine goesL_ (some 53) rfl rfl Tryd.func14 (by kernel_rfl) rfl #[.string (⟨#[48, 49]⟩ : ByteArray)] rfl (by (try simp only [List.map_toArray, List.map_cons, List.map_nil]); first | done | rfl | (simp only [List.length_drop, List.length_take]; rfl)) ?_; (with_reducible refine (gs1_Fixed.calls (⟨#[48, 49]⟩ : ByteArray) t225 t226 t227 _ ?side1 A16.out).mono ?_); (case side1 => exact Tabs.below HT.out (by repeat (first | (with_reducible first | exact HB.out | apply below_alloc | apply pw_below_drewN | apply below_drew1) | exact HB.out))); rintro e w109 ⟨rfl, hb⟩; refine ⟨_, rfl, ?_⟩; have n0_ := Aside0.mk (Kd.R_below (by (with_reducible repeat (first | apply Kd.R_alloc | apply Kd.R_drewN | apply Kd.R_drew)); exact HO_1.out) hb); have n1_ := Aside0.mk (Kd.R_below (by (with_reducible repeat (first | apply Kd.R_alloc | apply Kd.R_drewN | apply Kd.R_drew)); exact HO220.out) hb); have n2_ := Aside0.mk (Kd.R_below (by (with_reducible repeat (first | apply Kd.R_alloc | apply Kd.R_drewN | apply Kd.R_drew)); exact HO223.out) hb); have n3_ := Aside0.mk (below_step (by repeat (first | (with_reducible first | exact HB.out | apply below_alloc | apply pw_below_drewN | apply below_drew1) | exact HB.out)) hb); clear HO_1; clear HO220; clear HO223; clear HB; have HO_1 := n0_; have HO220 := n1_; have HO223 := n2_; have HB := n3_; clear n0_ n1_ n2_ n3_; (try clear hb); (try clear hb2); (try clear hk); (try clear hi)))
          go_ret
          exact ⟨by first | rfl | (simp [errW_none, errW_some] <;> rfl) | (simp [*, errW_none, errW_some] <;> rfl), by repeat (first | (with_reducible first | exact HB.out | apply below_alloc | apply pw_below_drewN | apply below_drew1) | exact HB.out)⟩

end Go.Proofs.YtghlbdemlmbijaaDoor.Q

/- Verify of both is one function. -/
namespace Go.Proofs.YtghlbdemlmbijaaDoor.Q
open Go.RowKit Go.Proofs.YtghlbdemlmbijaaDoorW.PrintWords Go.Proofs.YtghlbdemlmbijaaDoorW.PrintLast Go.Proofs.YtghlbdemlmbijaaDoorW.PrintMore
set_option linter.unusedVariables false
set_option linter.unusedSimpArgs false
def okc (f : Int) (c : UInt8) : Bool := if f = 5 then isChr c else isDig c
def tailS (f : Int) (d : ByteArray) : Int := if f = 3 ∧ dateS d = false then 9 else if f = 2 ∧ chkS d = false then 8 else 0
def verT (t : Int × Int) (d : ByteArray) : Int :=
  if (d.size : Int) > t.2 ∨ d.size = 0 ∨ ((d.size : Int) ≠ t.2 ∧ t.1 ≠ 4 ∧ t.1 ≠ 5) then 7 else if (bs d).all (okc t.1) = true then tailS t.1 d else 6
def verS (ai d : ByteArray) : Int := if (tableS (bs ai)).1 = 0 then 29 else verT (tableS (bs ai)) d
def gverS (fixed most : Int) (digits check day : Bool) (d : ByteArray) : Int :=
  if (fixed > 0 ∧ (d.size : Int) ≠ fixed) ∨ d.size = 0 ∨ (d.size : Int) > most then 7
  else if ((bs d).all fun x => decide (x ∈ bs (if digits = true then digitsS else lettersS))) = true then (if day = true ∧ dateS d = false then 9 else if check = true ∧ checkdigit_Verify.f 1 d ≠ some 0 then 8 else 0) else 6
theorem gver_j1 (c : ByteArray) (fixed most : Int) (digits check day x : Bool) (d : ByteArray) (hs : d.size < 4294967296) (h6 : x = false → day = true → d.size = 6) (k : Nat) (hk : d.size + 10 < k) :
    gs1_form_verify.j1 k d c x fixed most digits check day = some (if x = true then 7 else if ((bs d).all fun y => decide (y ∈ bs c)) = true then (if day = true ∧ dateS d = false then 9 else if check = true ∧ checkdigit_Verify.f 1 d ≠ some 0 then 8 else 0) else 6) := by
  obtain ⟨k, rfl⟩ : ∃ m, k = m + 2 := ⟨k - 2, by omega⟩
  simp only [gs1_form_verify.j1]
  cases x with
  | true => rw [if_pos rfl, if_pos rfl]
  | false =>
    simp only [Bool.false_eq_true, if_false]
    rw [gwithin_at d c (by omega) (k + 1) (by omega), Option.bind_some]
    rcases (bs d).all fun y => decide (y ∈ bs c) with _ | _
    · simp only [Bool.false_eq_true, if_false]
    · simp only [if_true]
      simp only [gs1_form_verify.j2]
      have hv : ∃ r, checkdigit_Verify.f 1 d = some r := ⟨_, if_pos rfl⟩
      obtain ⟨r, hr⟩ := hv
      rw [hr, Option.bind_some]
      have hx : (if check = true then (if r = 0 then some (0 : Int) else some 8) else some 0) = some (if check = true ∧ some r ≠ some 0 then 8 else 0) := by
        cases check with
        | false => simp
        | true => by_cases h : r = 0 <;> simp [h]
      cases day with
      | false => simp only [Bool.false_eq_true, if_false, false_and]; exact hx
      | true =>
        simp only [if_true]
        rw [date_at d (h6 rfl rfl) k, Option.bind_some]
        rcases dateS d with _ | _
        · simp only [Bool.not_false, if_true, and_self]
        · simp only [Bool.not_true, Bool.false_eq_true, if_false, and_false]; exact hx
theorem gver_at (fixed most : Int) (digits check day : Bool) (d : ByteArray) (hs : d.size < 4294967296) (h6 : day = true → fixed = 6) (k : Nat) (hk : d.size + 20 < k) :
    gs1_form_verify.f k fixed most digits check day d = some (gverS fixed most digits check day d) := by
  obtain ⟨k, rfl⟩ : ∃ m, k = m + 1 := ⟨k - 1, by omega⟩
  have main : ∀ c : ByteArray, gs1_form_verify.j0 (k + 1) d c fixed most digits check day = some (if (fixed > 0 ∧ (d.size : Int) ≠ fixed) ∨ d.size = 0 ∨ (d.size : Int) > most then 7 else if ((bs d).all fun x => decide (x ∈ bs c)) = true then (if day = true ∧ dateS d = false then 9 else if check = true ∧ checkdigit_Verify.f 1 d ≠ some 0 then 8 else 0) else 6) := by
    intro c
    simp only [gs1_form_verify.j0]
    by_cases a1 : fixed > 0
    · rw [if_pos a1]
      by_cases a2 : (d.size : Int) = fixed
      · rw [if_pos a2]
        by_cases a3 : (d.size : Int) = 0
        · rw [if_pos a3, gver_j1 c fixed most digits check day true d hs (by simp) k (by omega), if_pos rfl, if_pos (show (fixed > 0 ∧ (d.size : Int) ≠ fixed) ∨ d.size = 0 ∨ (d.size : Int) > most by omega)]
        · rw [if_neg a3, gver_j1 c fixed most digits check day (decide ((d.size : Int) > most)) d hs (fun _ h => by have := h6 h; omega) k (by omega)]
          by_cases a4 : (d.size : Int) > most
          · rw [if_pos (decide_eq_true a4), if_pos (show (fixed > 0 ∧ (d.size : Int) ≠ fixed) ∨ d.size = 0 ∨ (d.size : Int) > most by omega)]
          · rw [if_neg (show ¬ decide ((d.size : Int) > most) = true by simpa using a4), if_neg (show ¬ ((fixed > 0 ∧ (d.size : Int) ≠ fixed) ∨ d.size = 0 ∨ (d.size : Int) > most) by omega)]
      · rw [if_neg a2, gver_j1 c fixed most digits check day true d hs (by simp) k (by omega), if_pos rfl, if_pos (Or.inl ⟨a1, a2⟩)]
    · rw [if_neg a1]
      by_cases a3 : (d.size : Int) = 0
      · rw [if_pos a3, gver_j1 c fixed most digits check day true d hs (by simp) k (by omega), if_pos rfl, if_pos (show (fixed > 0 ∧ (d.size : Int) ≠ fixed) ∨ d.size = 0 ∨ (d.size : Int) > most by omega)]
      · rw [if_neg a3, gver_j1 c fixed most digits check day (decide ((d.size : Int) > most)) d hs (fun _ h => by have := h6 h; omega) k (by omega)]
        by_cases a4 : (d.size : Int) > most
        · rw [if_pos (decide_eq_true a4), if_pos (show (fixed > 0 ∧ (d.size : Int) ≠ fixed) ∨ d.size = 0 ∨ (d.size : Int) > most by omega)]
        · rw [if_neg (show ¬ decide ((d.size : Int) > most) = true by simpa using a4), if_neg (show ¬ ((fixed > 0 ∧ (d.size : Int) ≠ fixed) ∨ d.size = 0 ∨ (d.size : Int) > most) by omega)]
  unfold gs1_form_verify.f gverS
  cases digits with
  | true => simp only [if_true]; exact main _
  | false => simp only [Bool.false_eq_true, if_false]; exact main _
theorem dig_all (d : ByteArray) : ((bs d).all fun x => decide (x ∈ bs digitsS)) = (bs d).all isDig := allDig_eq d
theorem check_iff (d : ByteArray) (b1 : 1 < d.size) (b2 : d.size ≤ 18) (b3 : (bs d).all isDig = true) : checkdigit_Verify.f 1 d ≠ some 0 ↔ chkS d = false := by
  unfold checkdigit_Verify.f
  rw [if_pos rfl, if_neg (by omega), if_neg (by omega), if_pos (show allDig d = true from b3)]
  have := check_same d b1 b3
  by_cases hg : gchk (d.extract 0 (d.size - 1)) = d.extract (d.size - 1) d.size
  · rw [if_pos hg, this.1 hg]; simp
  · rw [if_neg hg]
    have : ¬ chkS d = true := fun h => hg (this.2 h)
    simpa using this
theorem okc_dig (d : ByteArray) (f : Int) (hne : f ≠ 5) : (bs d).all (okc f) = (bs d).all isDig := by
  congr 1
  funext c
  unfold okc
  rw [if_neg hne]
theorem gv_fix (m f : Int) (check day : Bool) (d : ByteArray) (hm : 1 < m) (hm2 : m ≤ 18) (h5 : f ≠ 5) (h4 : f ≠ 4) (hday : day = true ↔ f = 3) (hch : check = true ↔ f = 2) : gverS m m true check day d = verT (f, m) d := by
  unfold gverS verT tailS
  simp only [if_true]
  rw [dig_all, okc_dig d f h5]
  by_cases c1 : (d.size : Int) = m
  · rw [if_neg (show ¬ ((m > 0 ∧ (d.size : Int) ≠ m) ∨ d.size = 0 ∨ (d.size : Int) > m) by omega), if_neg (show ¬ ((d.size : Int) > m ∨ d.size = 0 ∨ ((d.size : Int) ≠ m ∧ f ≠ 4 ∧ f ≠ 5)) by omega)]
    by_cases c2 : (bs d).all isDig = true
    · rw [if_pos c2, if_pos c2]
      have := check_iff d (by omega) (by omega) c2
      simp only [hday, hch, this]
    · rw [if_neg c2, if_neg c2]
  · rw [if_pos (show (m > 0 ∧ (d.size : Int) ≠ m) ∨ d.size = 0 ∨ (d.size : Int) > m by omega), if_pos (show (d.size : Int) > m ∨ d.size = 0 ∨ ((d.size : Int) ≠ m ∧ f ≠ 4 ∧ f ≠ 5) from Or.inr (Or.inr ⟨c1, h4, h5⟩))]
theorem gv_num (m : Int) (d : ByteArray) : gverS 0 m true false false d = verT (4, m) d := by
  unfold gverS verT tailS
  simp only [if_true]
  rw [dig_all, okc_dig d 4 (by decide)]
  by_cases c1 : (d.size : Int) > m ∨ d.size = 0
  · rw [if_pos (by omega), if_pos (by omega)]
  · rw [if_neg (show ¬ (((0 : Int) > 0 ∧ (d.size : Int) ≠ 0) ∨ d.size = 0 ∨ (d.size : Int) > m) by omega), if_neg (show ¬ ((d.size : Int) > m ∨ d.size = 0 ∨ ((d.size : Int) ≠ m ∧ (4 : Int) ≠ 4 ∧ (4 : Int) ≠ 5)) by omega)]
    simp
theorem gv_text (m : Int) (d : ByteArray) : gverS 0 m false false false d = verT (5, m) d := by
  unfold gverS verT tailS
  simp only [Bool.false_eq_true, if_false]
  have e : (bs d).all (okc 5) = (bs d).all fun x => decide (x ∈ bs lettersS) := rfl
  rw [e]
  by_cases c1 : (d.size : Int) > m ∨ d.size = 0
  · rw [if_pos (by omega), if_pos (by omega)]
  · rw [if_neg (show ¬ (((0 : Int) > 0 ∧ (d.size : Int) ≠ 0) ∨ d.size = 0 ∨ (d.size : Int) > m) by omega), if_neg (show ¬ ((d.size : Int) > m ∨ d.size = 0 ∨ ((d.size : Int) ≠ m ∧ (5 : Int) ≠ 4 ∧ (5 : Int) ≠ 5)) by omega)]
    simp
theorem gver_verT (t : Int × Int) (hf : t ∈ [(2, 18), (2, 14), (3, 6), (1, 2), (4, 8), (5, 20), (5, 25), (5, 30), (5, 90), (2, 13), (4, 15), (1, 6), ((0 : Int), (0 : Int))]) (h0 : t.1 ≠ 0) (d : ByteArray) :
    gverS (conv t).1 (conv t).2.1 (conv t).2.2.1 (conv t).2.2.2.1 (conv t).2.2.2.2.1 d = verT t d := by
  simp only [List.mem_cons, List.not_mem_nil, or_false] at hf
  rcases hf with rfl | rfl | rfl | rfl | rfl | rfl | rfl | rfl | rfl | rfl | rfl | rfl | rfl
  · exact gv_fix 18 2 true false d (by decide) (by decide) (by decide) (by decide) (by decide) (by decide)
  · exact gv_fix 14 2 true false d (by decide) (by decide) (by decide) (by decide) (by decide) (by decide)
  · exact gv_fix 6 3 false true d (by decide) (by decide) (by decide) (by decide) (by decide) (by decide)
  · exact gv_fix 2 1 false false d (by decide) (by decide) (by decide) (by decide) (by decide) (by decide)
  · exact gv_num 8 d
  · exact gv_text 20 d
  · exact gv_text 25 d
  · exact gv_text 30 d
  · exact gv_text 90 d
  · exact gv_fix 13 2 true false d (by decide) (by decide) (by decide) (by decide) (by decide) (by decide)
  · exact gv_num 15 d
  · exact gv_fix 6 1 false false d (by decide) (by decide) (by decide) (by decide) (by decide) (by decide)
  · exact absurd rfl h0
theorem conv_ok (t : Int × Int) (hf : t ∈ [(2, 18), (2, 14), (3, 6), (1, 2), (4, 8), (5, 20), (5, 25), (5, 30), (5, 90), (2, 13), (4, 15), (1, 6), ((0 : Int), (0 : Int))]) : ((conv t).2.2.2.2.2 = true ↔ t.1 ≠ 0) ∧ ((conv t).2.2.2.2.1 = true → (conv t).1 = 6) := by
  simp only [List.mem_cons, List.not_mem_nil, or_false] at hf
  rcases hf with rfl | rfl | rfl | rfl | rfl | rfl | rfl | rfl | rfl | rfl | rfl | rfl | rfl <;> decide
theorem ver_at (ai d : ByteArray) (ha : ai.size < 4294967281) (hs : d.size < 4294967296) (k : Nat) (hk : d.size + 20 < k) : gs1_Verify.f k ai d = some (verS ai d) := by
  unfold gs1_Verify.f verS
  have hf := tableS_form (bs ai)
  rw [form_at ai ha, Option.bind_some]
  generalize tableS (bs ai) = t at hf
  have hc := conv_ok t hf
  by_cases h0 : t.1 = 0
  · rw [if_neg (fun h => hc.1.1 h h0), if_pos h0]
  · rw [if_pos (hc.1.2 h0), if_neg h0, gver_at _ _ _ _ _ d hs hc.2 k hk, Option.bind_some, gver_verT t hf h0]
set_option maxRecDepth 1000000 in
theorem examples_60 : barscanlaw14_examples.f 60 = some true := by decide +kernel
theorem examples_at (k : Nat) (hk : 60 ≤ k) : barscanlaw14_examples.f k = some true := up_of (F := barscanlaw14_examples.f) barscanlaw14_examples.mono examples_60 k hk
end Go.Proofs.YtghlbdemlmbijaaDoor.Q

namespace Go.Proofs.YtghlbdemlmbijaaDoor.Q
open Go.RowKit Go.Proofs.YtghlbdemlmbijaaDoorW.PrintWords Go.Proofs.YtghlbdemlmbijaaDoorW.PrintLast Go.Proofs.YtghlbdemlmbijaaDoorW.PrintMore

set_option linter.unusedVariables false
set_option linter.unusedSimpArgs false

/-! ### barscanref14_Equal: function 28 -/
def barscanref14_Equal.l0 : Nat → List Int → List Int → Int → Option (Bool)
  | 0, _, _, _ => none
  | k + 1, x0, x1, x5 => if x5 < (x0.length : Int) then (if 0 ≤ x5 then (if x5 < (x1.length : Int) then (if (rd x0 x5) = (rd x1 x5) then (barscanref14_Equal.l0 k x0 x1 (wrap64 (x5 + 1))) else (some false)) else (none)) else (none)) else (some true)
def barscanref14_Equal.f (k : Nat) (l0 : List Int) (l1 : List Int) : Option (Bool) := if (l0.length : Int) = (l1.length : Int) then (barscanref14_Equal.l0 k l0 l1 0) else (some false)
theorem barscanref14_Equal.mono_l : ∀ k, (∀ y0 y1 y2, LeO (barscanref14_Equal.l0 k y0 y1 y2) (barscanref14_Equal.l0 (k + 1) y0 y1 y2))
  | 0 => fun _ _ _ r h => by simp [barscanref14_Equal.l0] at h
  | k + 1 => by
    have ih0 := barscanref14_Equal.mono_l k
    · intro y0 y1 y2
      unfold barscanref14_Equal.l0
      repeat' first
      | (with_reducible exact ih0 _ _ _)
      | (with_reducible exact LeO.refl _)
      | (with_reducible exact LeO.none _)
      | (with_reducible refine LeO.ite ?_ ?_)
      | (with_reducible refine LeO.bind ?_ (fun _ => ?_))
      | exact ih0 _ _ _
      | exact LeO.none _
      | refine LeO.ite ?_ ?_
      | refine LeO.bind ?_ (fun _ => ?_)
theorem barscanref14_Equal.mono : ∀ a0 a1 k, LeO (barscanref14_Equal.f k a0 a1) (barscanref14_Equal.f (k + 1) a0 a1) := by
  intro a0 a1 k
  have ih0 := barscanref14_Equal.mono_l k
  unfold barscanref14_Equal.f
  repeat' first
      | (with_reducible exact ih0 _ _ _)
      | (with_reducible exact LeO.refl _)
      | (with_reducible exact LeO.none _)
      | (with_reducible refine LeO.ite ?_ ?_)
      | (with_reducible refine LeO.bind ?_ (fun _ => ?_))
      | exact ih0 _ _ _
      | exact LeO.none _
      | refine LeO.ite ?_ ?_
      | refine LeO.bind ?_ (fun _ => ?_)
set_option maxHeartbeats 8000000 in
set_option maxRecDepth 100000 in
theorem barscanref14_Equal.calls (k : Nat) (A0 : Option Addr) (c0 : Nat) (l0 : List Int) (A1 : Option Addr) (c1 : Nat) (l1 : List Int) (r : Bool) (w : World) (hr0 : Kd.C (Kd.int .i64) w A0 l0.length l0) (hc0 : l0.length ≤ c0) (hr1 : Kd.C (Kd.int .i64) w A1 l1.length l1) (hc1 : l1.length ≤ c1) (h : barscanref14_Equal.f k l0 l1 = some r) :
    Calls Tryd.prog 28 #[.slice A0 l0.length c0, .slice A1 l1.length c1] w fun e w' => e = .returned (.bool r) ∧ Drawn0 w w' := by
  have HR0 := Aside0.mk hr0
  have HC0 := Aside0.mk hc0
  clear hr0 hc0
  have HR1 := Aside0.mk hr1
  have HC1 := Aside0.mk hc1
  clear hr1 hc1
  have H : (if (l0.length : Int) = (l1.length : Int) then (barscanref14_Equal.l0 k l0 l1 0) else (some false)) = some r := h
  clear h
  by_cases c3 : (l0.length : Int) = (l1.length : Int)
  · rw [if_pos c3] at H
    have c3b0 : ((l0.length : Int) == (l1.length : Int)) = true := beq_iff_eq.mpr c3
    have c3b1 : ((l0.length : Int) != (l1.length : Int)) = false := bne_eq_false_iff_eq.mpr c3
    have c3b2 : (l0.length == l1.length) = true := by first | simpa using c3 | (simp at c3 ⊢; omega)
    clear c3
    have H' := Aside0.mk H
    clear H
    go_enter Tryd.func28, Tryd.ntmps28
    go_wp2
    repeat (go_quiet (fail); try go_wp2)
    go_loopg [5] k (fun kq v5 w' => ∃ (x5_1 : Int), v5 = .int .i64 x5_1 ∧ Aside0 (barscanref14_Equal.l0 kq l0 l1 x5_1 = some r) ∧ Aside0 (kq ≤ k) ∧ Drawn0 w w')
    case atStart => exact ⟨(0), (by first | rfl | (simp; done) | (simp [*]; done)), H', ⟨Nat.le_refl _⟩, by repeat (first | exact Drawn0.refl _ | apply Drawn0.step)⟩
    case round =>
      clear H'
      try clear c1
      try clear c2
      try clear p2
      try clear c3
      try clear c3b0
      try clear c3b1
      try clear c3b2
      obtain ⟨x5_1, rfl, HA, HK1, ⟨m1, rfl⟩⟩ := hrel
      cases gk with
      | zero => exact absurd HA.out (by simp [barscanref14_Equal.l0])
      | succ k1 =>
        have H := HA.out
        clear HA
        simp only [barscanref14_Equal.l0] at H
        by_cases c4 : x5_1 < (l0.length : Int)
        · rw [if_pos c4] at H
          have c4b0 : decide (x5_1 < (l0.length : Int)) = true := decide_eq_true c4
          clear c4
          by_cases c5 : 0 ≤ x5_1
          · rw [if_pos c5] at H
            have c5b0 : decide (0 ≤ x5_1) = true := decide_eq_true c5
            clear c5
            by_cases c6 : x5_1 < (l1.length : Int)
            · rw [if_pos c6] at H
              have c6b0 : decide (x5_1 < (l1.length : Int)) = true := decide_eq_true c6
              clear c6
              by_cases c7 : (rd l0 x5_1) = (rd l1 x5_1)
              · rw [if_pos c7] at H
                have c7b0 : ((rd l0 x5_1) == (rd l1 x5_1)) = true := beq_iff_eq.mpr c7
                have c7b1 : ((rd l0 x5_1) != (rd l1 x5_1)) = false := bne_eq_false_iff_eq.mpr c7
                clear c7
                have H' := Aside0.mk H
                clear H
                have p250 : 0 ≤ (x5_1 : Int) := of_decide_eq_true (by first | (with_reducible assumption) | assumption)
                have q250 : x5_1 < (l0.length : Int) := of_decide_eq_true (by first | (with_reducible assumption) | assumption)
                obtain ⟨ad250, e250, hx250_0⟩ := Kd.at_int HR0.out x5_1 p250 q250
                cases e250
                replace p250 := eq_true p250
                replace q250 := eq_true q250
                (try (have h_ := of_eq_true q250; simp only [ByteArray.size_append, ByteArray.size_extract, Nat.min_self, Int.toNat_natCast, Nat.sub_zero, Int.natCast_add, size_lit, List.length_cons, List.length_nil, Nat.zero_add, Nat.reduceAdd, Int.natCast_one, Int.cast_ofNat_Int] at h_; have q250s := eq_true h_; clear h_))
                have p251 : 0 ≤ (x5_1 : Int) := of_decide_eq_true (by first | (with_reducible assumption) | assumption)
                have q251 : x5_1 < (l1.length : Int) := of_decide_eq_true (by first | (with_reducible assumption) | assumption)
                obtain ⟨ad251, e251, hx251_0⟩ := Kd.at_int HR1.out x5_1 p251 q251
                cases e251
                replace p251 := eq_true p251
                replace q251 := eq_true q251
                (try (have h_ := of_eq_true q251; simp only [ByteArray.size_append, ByteArray.size_extract, Nat.min_self, Int.toNat_natCast, Nat.sub_zero, Int.natCast_add, size_lit, List.length_cons, List.length_nil, Nat.zero_add, Nat.reduceAdd, Int.natCast_one, Int.cast_ofNat_Int] at h_; have q251s := eq_true h_; clear h_))
                go_wp2
                repeat (go_quiet (fail); try go_wp2)
                go_roundg k1
                case measure => have := HK1.out; omega
                case rel => exact ⟨(wrap64 (x5_1 + 1)), (by first | rfl | (simp; done) | (simp [*]; done)), H', ⟨by have := HK1.out; omega⟩, by repeat (first | exact Drawn0.refl _ | apply Drawn0.step)⟩
              · rw [if_neg c7] at H
                have c7b0 : ((rd l0 x5_1) == (rd l1 x5_1)) = false := beq_eq_false_iff_ne.mpr c7
                have c7b1 : ((rd l0 x5_1) != (rd l1 x5_1)) = true := bne_iff_ne.mpr c7
                obtain rfl := Option.some.inj H
                have p250 : 0 ≤ (x5_1 : Int) := of_decide_eq_true (by first | (with_reducible assumption) | assumption)
                have q250 : x5_1 < (l0.length : Int) := of_decide_eq_true (by first | (with_reducible assumption) | assumption)
                obtain ⟨ad250, e250, hx250_0⟩ := Kd.at_int HR0.out x5_1 p250 q250
                cases e250
                replace p250 := eq_true p250
                replace q250 := eq_true q250
                (try (have h_ := of_eq_true q250; simp only [ByteArray.size_append, ByteArray.size_extract, Nat.min_self, Int.toNat_natCast, Nat.sub_zero, Int.natCast_add, size_lit, List.length_cons, List.length_nil, Nat.zero_add, Nat.reduceAdd, Int.natCast_one, Int.cast_ofNat_Int] at h_; have q250s := eq_true h_; clear h_))
                have p251 : 0 ≤ (x5_1 : Int) := of_decide_eq_true (by first | (with_reducible assumption) | assumption)
                have q251 : x5_1 < (l1.length : Int) := of_decide_eq_true (by first | (with_reducible assumption) | assumption)
                obtain ⟨ad251, e251, hx251_0⟩ := Kd.at_int HR1.out x5_1 p251 q251
                cases e251
                replace p251 := eq_true p251
                replace q251 := eq_true q251
                (try (have h_ := of_eq_true q251; simp only [ByteArray.size_append, ByteArray.size_extract, Nat.min_self, Int.toNat_natCast, Nat.sub_zero, Int.natCast_add, size_lit, List.length_cons, List.length_nil, Nat.zero_add, Nat.reduceAdd, Int.natCast_one, Int.cast_ofNat_Int] at h_; have q251s := eq_true h_; clear h_))
                go_wp2
                repeat (go_quiet (fail); try go_wp2)
                go_ret
                exact ⟨by first | rfl | (simp; done) | (simp [*]; done), by repeat (first | exact Drawn0.refl _ | apply Drawn0.step)⟩
            · rw [if_neg c6] at H
              exact absurd H (by simp)
          · rw [if_neg c5] at H
            exact absurd H (by simp)
        · rw [if_neg c4] at H
          have c4b0 : decide (x5_1 < (l0.length : Int)) = false := decide_eq_false c4
          clear c4
          obtain rfl := Option.some.inj H
          go_wp2
          repeat (go_quiet (fail); try go_wp2)
          go_ret
          exact ⟨by first | rfl | (simp; done) | (simp [*]; done), by repeat (first | exact Drawn0.refl _ | apply Drawn0.step)⟩
  · rw [if_neg c3] at H
    have c3b0 : ((l0.length : Int) == (l1.length : Int)) = false := beq_eq_false_iff_ne.mpr c3
    have c3b1 : ((l0.length : Int) != (l1.length : Int)) = true := bne_iff_ne.mpr c3
    have c3b2 : (l0.length == l1.length) = false := by first | simpa using c3 | (simp at c3 ⊢; omega)
    obtain rfl := Option.some.inj H
    go_enter Tryd.func28, Tryd.ntmps28
    go_wp2
    repeat (go_quiet (fail); try go_wp2)
    go_ret
    exact ⟨by first | rfl | (simp; done) | (simp [*]; done), by repeat (first | exact Drawn0.refl _ | apply Drawn0.step)⟩

end Go.Proofs.YtghlbdemlmbijaaDoor.Q

/- Lists of elements: all verified, written as text, written as characters: both sides are one function. -/


namespace Go.Proofs.YtghlbdemlmbijaaDoor.Q
open Go.RowKit Go.Proofs.YtghlbdemlmbijaaDoorW.PrintWords Go.Proofs.YtghlbdemlmbijaaDoorW.PrintLast Go.Proofs.YtghlbdemlmbijaaDoorW.PrintMore
set_option linter.unusedVariables false
set_option linter.unusedSimpArgs false
abbrev El := S38
/-- Every text of the list is short enough for the model. -/
def SzL (l : List El) : Prop := l.length < 1099511627776 ∧ ∀ i : Nat, (rd_T38 l i).f0.size < 1073741824 ∧ (rd_T38 l i).f1.size < 1073741824
theorem ver_ev (a d : ByteArray) (ha : a.size < 1073741824) (hs : d.size < 1073741824) : Ev (fun k => gs1_Verify.f k a d) (verS a d) := ⟨d.size + 21, fun k hk => ver_at a d (by omega) (by omega) k (by omega)⟩
def allR (l : List El) : Nat → Nat → Int
  | 0, _ => 0
  | n + 1, i => if verS (rd_T38 l i).f0 (rd_T38 l i).f1 = 0 then allR l n (i + 1) else verS (rd_T38 l i).f0 (rd_T38 l i).f1
def allS (l : List El) : Int := if l.length = 0 then 5 else allR l l.length 0
theorem gall_l (l : List El) (hz : SzL l) (n : Nat) : ∀ i : Nat, i + n = l.length → Ev (fun k => gs1_verifyAll.l0 k l (l.length : Int) i) (allR l n i) := by
  induction n with
  | zero =>
    intro i h
    refine Ev.succ ?_
    simp only [gs1_verifyAll.l0]
    exact Ev.neg (by omega) (Ev.const rfl)
  | succ n ih =>
    intro i h
    have hz1 := hz.1
    have hz2 := hz.2 i
    refine Ev.succ ?_
    simp only [gs1_verifyAll.l0]
    refine Ev.pos (by omega) (Ev.pos (by omega) (Ev.pos (by omega) (Ev.bind (ver_ev _ _ hz2.1 hz2.2) ?_)))
    show Ev _ (if verS (rd_T38 l i).f0 (rd_T38 l i).f1 = 0 then allR l n (i + 1) else verS (rd_T38 l i).f0 (rd_T38 l i).f1)
    by_cases hv : verS (rd_T38 l i).f0 (rd_T38 l i).f1 = 0
    · rw [if_pos hv]
      refine Ev.pos hv ?_
      rw [wrap_up i (by omega)]
      exact ih (i + 1) (by omega)
    · rw [if_neg hv]
      exact Ev.neg hv (Ev.const rfl)
theorem gall_ev (l : List El) (hz : SzL l) : Ev (fun k => gs1_verifyAll.f k l) (allS l) := by
  unfold gs1_verifyAll.f allS
  by_cases h : l.length = 0
  · rw [if_pos h]
    exact Ev.pos (by omega) (Ev.const rfl)
  · rw [if_neg h]
    exact Ev.neg (by omega) (gall_l l hz l.length 0 (by omega))
/-! ### Characters -/
def fixE (x : El) : Int := (conv (tableS (bs x.f0))).1
theorem fixE_fixedS (x : El) : fixE x = (fixedS (bs x.f0)).1 := by
  unfold fixE fixedS
  have h := tableS_form (bs x.f0)
  simp only [List.mem_cons, List.not_mem_nil, or_false] at h
  rcases h with h | h | h | h | h | h | h | h | h | h | h | h | h <;> rw [h] <;> rfl
def chR (l : List El) : Nat → Nat → List Int → List Int × Int
  | 0, _, out => (out, 0)
  | n + 1, i, out => if ((step l out i (fixE (rd_T38 l i))).length : Int) > 4096 then ([], 4) else chR l n (i + 1) (step l out i (fixE (rd_T38 l i)))
def chS (l : List El) : List Int × Int := if allS l = 0 then chR l l.length 0 [256] else ([], allS l)
theorem gch_l (l : List El) (hz : SzL l) (n : Nat) : ∀ (i : Nat) (out : List Int), i + n = l.length → out.length ≤ 4096 → Ev (fun k => gs1_Chars.l0 k l out i) (chR l n i out) := by
  induction n with
  | zero =>
    intro i out h ho
    refine Ev.succ ?_
    simp only [gs1_Chars.l0]
    exact Ev.neg (by omega) (Ev.const rfl)
  | succ n ih =>
    intro i out h ho
    have hz1 := hz.1
    have hz2 := hz.2 i
    refine Ev.succ ?_
    simp only [gs1_Chars.l0]
    refine Ev.pos (by omega) (Ev.pos ⟨by omega, by omega, by omega, by omega⟩ (Ev.bind (Ev.const (form_at _ (by omega))) ?_))
    show Ev _ (if ((step l out i (fixE (rd_T38 l i))).length : Int) > 4096 then ([], 4) else chR l n (i + 1) (step l out i (fixE (rd_T38 l i))))
    by_cases hv : ((step l out i (fixE (rd_T38 l i))).length : Int) > 4096
    · rw [if_pos hv]
      exact Ev.pos hv (Ev.const rfl)
    · rw [if_neg hv]
      refine Ev.neg hv ?_
      rw [wrap_up i (by omega)]
      exact ih (i + 1) (step l out i (fixE (rd_T38 l i))) (by omega) (by omega)
theorem gch_ev (l : List El) (hz : SzL l) : Ev (fun k => gs1_Chars.f k l) (chS l) := by
  unfold gs1_Chars.f chS
  refine Ev.bind (gall_ev l hz) ?_
  by_cases h : allS l = 0
  · rw [if_pos h]
    exact Ev.pos h (gch_l l hz l.length 0 [256] (by omega) (by simp))
  · rw [if_neg h]
    exact Ev.neg h (Ev.const rfl)
theorem equal_l (l : List Int) (hl : l.length < 4611686018427387904) (n : Nat) : ∀ i : Nat, i + n = l.length → Ev (fun k => barscanref14_Equal.l0 k l l i) true := by
  induction n with
  | zero =>
    intro i h
    refine Ev.succ ?_
    simp only [barscanref14_Equal.l0]
    exact Ev.neg (by omega) (Ev.const rfl)
  | succ n ih =>
    intro i h
    refine Ev.succ ?_
    simp only [barscanref14_Equal.l0]
    refine Ev.pos (by omega) (Ev.pos (by omega) (Ev.pos (by omega) (Ev.pos trivial ?_)))
    rw [wrap_up i (by omega)]
    exact ih (i + 1) (by omega)
theorem equal_ev (l : List Int) (hl : l.length < 4611686018427387904) : Ev (fun k => barscanref14_Equal.f k l l) true := by
  unfold barscanref14_Equal.f
  exact Ev.pos rfl (equal_l l hl l.length 0 (by omega))
theorem same_l (l : List El) (hl : l.length < 4611686018427387904) (n : Nat) : ∀ i : Nat, i + n = l.length → Ev (fun k => barscanref14_Same.l0 k l l i) true := by
  induction n with
  | zero =>
    intro i h
    refine Ev.succ ?_
    simp only [barscanref14_Same.l0]
    exact Ev.neg (by omega) (Ev.const rfl)
  | succ n ih =>
    intro i h
    refine Ev.succ ?_
    simp only [barscanref14_Same.l0]
    refine Ev.pos (by omega) (Ev.pos (by omega) (Ev.pos (by omega) (Ev.neg (by simp) ?_)))
    rw [wrap_up i (by omega)]
    exact ih (i + 1) (by omega)
theorem same_ev (l : List El) (hl : l.length < 4611686018427387904) : Ev (fun k => barscanref14_Same.f k l l) true := by
  unfold barscanref14_Same.f
  exact Ev.pos rfl (same_l l hl l.length 0 (by omega))
theorem chR_len (l : List El) (n : Nat) : ∀ (i : Nat) (out : List Int), out.length ≤ 4096 → (chR l n i out).1.length ≤ 4096 := by
  induction n with
  | zero => intro i out h; exact h
  | succ n ih =>
    intro i out h
    simp only [chR]
    split
    · simp
    · exact ih _ _ (by omega)
theorem chS_len (l : List El) : (chS l).1.length ≤ 4096 := by
  unfold chS
  split
  · exact chR_len l _ _ _ (by simp)
  · simp
/-! ### Text -/
def fmR (l : List El) : Nat → Nat → ByteArray → ByteArray
  | 0, _, out => out
  | n + 1, i, out => fmR l n (i + 1) (out ++ piece (rd_T38 l i))
def fmS (l : List El) : ByteArray × Int := if allS l = 0 then (if ((fmR l l.length 0 ⟨#[]⟩).size : Int) > 4096 then (⟨#[]⟩, 4) else (fmR l l.length 0 ⟨#[]⟩, 0)) else (⟨#[]⟩, allS l)
theorem fmR_grow (l : List El) (n : Nat) : ∀ (i : Nat) (out : ByteArray), out.size ≤ (fmR l n i out).size := by
  induction n with
  | zero => intro i out; exact Nat.le_refl _
  | succ n ih =>
    intro i out
    have := ih (i + 1) (out ++ piece (rd_T38 l i))
    simp only [fmR]
    simp only [ByteArray.size_append] at this
    omega
theorem gfm_l (l : List El) (hz : SzL l) (n : Nat) : ∀ (i : Nat) (out : ByteArray), i + n = l.length → (fmR l n i out).size < 140737488355328 → Ev (fun k => gs1_Format.l0 k l out i) (fmR l n i out) := by
  induction n with
  | zero =>
    intro i out h ho
    refine Ev.succ ?_
    simp only [gs1_Format.l0]
    exact Ev.neg (by omega) (Ev.const rfl)
  | succ n ih =>
    intro i out h ho
    have hz1 := hz.1
    have hz2 := hz.2 i
    have hp : (piece (rd_T38 l i)).size = 2 + (rd_T38 l i).f0.size + (rd_T38 l i).f1.size := by
      unfold piece
      simp only [ByteArray.size_append]
      show 1 + _ + 1 + _ = _
      omega
    refine Ev.succ ?_
    simp only [gs1_Format.l0]
    have hg := fmR_grow l n (i + 1) (out ++ piece (rd_T38 l i))
    have ho2 : (fmR l n (i + 1) (out ++ piece (rd_T38 l i))).size < 140737488355328 := ho
    refine Ev.pos (by omega) (Ev.pos ⟨by omega, by omega, by omega, Nat.le_of_lt (Nat.lt_of_le_of_lt hg ho2)⟩ ?_)
    rw [wrap_up i (by omega)]
    exact ih (i + 1) _ (by omega) ho2
theorem gfm_ev (l : List El) (hz : SzL l) (hl : (fmR l l.length 0 ⟨#[]⟩).size < 140737488355328) : Ev (fun k => gs1_Format.f k l) (fmS l) := by
  unfold gs1_Format.f fmS
  refine Ev.bind (gall_ev l hz) ?_
  by_cases h : allS l = 0
  · rw [if_pos h]
    refine Ev.pos h (Ev.bind (gfm_l l hz l.length 0 ⟨#[]⟩ (by omega) hl) ?_)
    split
    · rename_i hv; exact Ev.const rfl
    · rename_i hv; exact Ev.const rfl
  · rw [if_neg h]
    exact Ev.neg h (Ev.const rfl)
end Go.Proofs.YtghlbdemlmbijaaDoor.Q
