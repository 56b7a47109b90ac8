/- Joined by a program of this work (pack.py) out of the texts QeanreadE, Qeanread, QeanreadAddOn of this seat, in build order. -/
import Derived.Test.YtjmeekceecpemaaGreatDoorPG3
namespace Go.Proofs.YtjmeekceecpemaaGreatDoor.Q
open Go.RowKit Go.Proofs.YtjmeekceecpemaaGreatDoorW.PrintWords Go.Proofs.YtjmeekceecpemaaGreatDoorW.PrintLast Go.Proofs.YtjmeekceecpemaaGreatDoorW.PrintMore

set_option linter.unusedVariables false
set_option linter.unusedSimpArgs false

/-! ### ean_readE: function 105 -/
mutual
def ean_readE.j0 : Nat → ByteArray → ByteArray → Bool → ByteArray → Int → Bool → Option (Int × ByteArray × ByteArray × Int)
 | 0, _, _, _, _, _, _ => none
 | k + 1, x4, x5, x6, x7, x8, x34 => if x34 = true then ((ean_parityE.f).bind fun t395 => ((ean_flipped.f x5 (⟨#[65]⟩ : ByteArray) (⟨#[66]⟩ : ByteArray)).bind fun t398 => ((slices_Index_string_string.f k t395 t398).bind fun t399 => (ean_readE.j1 k x4 x6 (⟨#[49]⟩ : ByteArray) t399)))) else (ean_readE.j1 k x4 x6 x7 x8)
def ean_readE.j1 : Nat → ByteArray → Bool → ByteArray → Int → Option (Int × ByteArray × ByteArray × Int)
 | 0, _, _, _, _ => none
 | k + 1, x4, x6, x7, x8 => if x6 = true then (ean_readE.j2 k x4 x7 x8 (decide (x8 < 0))) else (ean_readE.j2 k x4 x7 x8 true)
def ean_readE.j2 : Nat → ByteArray → ByteArray → Int → Bool → Option (Int × ByteArray × ByteArray × Int)
 | 0, _, _, _, _ => none
 | k + 1, x4, x7, x8, x44 => if x44 = true then (some (0, (⟨#[]⟩ : ByteArray), (⟨#[]⟩ : ByteArray), 18)) else (if x7.size + x4.size ≤ 9223372036854775807 then ((some (([(wrap64 (48 + x8)) % 256] : List Int) : List Int)).bind fun y400 => (if (x7 ++ x4).size + (strOfNums y400).size ≤ 9223372036854775807 then ((ean_complete.f k 4 ((x7 ++ x4) ++ (strOfNums y400))).bind fun t403 => (if t403 = 0 then (some (4, (x7 ++ x4) ++ (strOfNums y400), (⟨#[]⟩ : ByteArray), 0)) else (some (0, (⟨#[]⟩ : ByteArray), (⟨#[]⟩ : ByteArray), 8)))) else (none))) else (none))
end
def ean_readE.f (k : Nat) (a0 : ByteArray) : Option (Int × ByteArray × ByteArray × Int) := if 0 ≤ 3 then (if 3 ≤ (a0.size : Int) then (if (a0.extract 0 3).toList = ([49, 48, 49] : List UInt8) then (if 45 ≤ (a0.size : Int) then (if (a0.extract 45 a0.size).toList = ([48, 49, 48, 49, 48, 49] : List UInt8) then (if 3 ≤ 45 then ((ean_readDigits.f k (a0.extract 3 45) (⟨#[65, 66]⟩ : ByteArray) 7).bind fun bt388 => ((ean_parityE.f).bind fun t391 => ((slices_Index_string_string.f k t391 bt388.2.1).bind fun t394 => (if bt388.2.2 = true then (ean_readE.j0 k bt388.1 bt388.2.1 bt388.2.2 (⟨#[48]⟩ : ByteArray) t394 (decide (t394 < 0))) else (ean_readE.j0 k bt388.1 bt388.2.1 bt388.2.2 (⟨#[48]⟩ : ByteArray) t394 false))))) else (none)) else (some (0, (⟨#[]⟩ : ByteArray), (⟨#[]⟩ : ByteArray), 20))) else (none)) else (some (0, (⟨#[]⟩ : ByteArray), (⟨#[]⟩ : ByteArray), 19))) else (none)) else (none)
theorem ean_readE.mono_l : ∀ k, (∀ y0 y1 y2 y3 y4 y5, LeO (ean_readE.j0 k y0 y1 y2 y3 y4 y5) (ean_readE.j0 (k + 1) y0 y1 y2 y3 y4 y5)) ∧ (∀ y0 y1 y2 y3, LeO (ean_readE.j1 k y0 y1 y2 y3) (ean_readE.j1 (k + 1) y0 y1 y2 y3)) ∧ (∀ y0 y1 y2 y3, LeO (ean_readE.j2 k y0 y1 y2 y3) (ean_readE.j2 (k + 1) y0 y1 y2 y3))
 | 0 => ⟨fun _ _ _ _ _ _ r h => by simp [ean_readE.j0] at h, fun _ _ _ _ r h => by simp [ean_readE.j1] at h, fun _ _ _ _ r h => by simp [ean_readE.j2] at h⟩
 | k + 1 => by
  obtain ⟨ih0, ih1, ih2⟩ := ean_readE.mono_l k
  refine ⟨?_, ?_, ?_⟩
  ·intro y0 y1 y2 y3 y4 y5
   unfold ean_readE.j0
   repeat' first
   | (with_reducible exact ih0 _ _ _ _ _ _)
   | (with_reducible exact ih1 _ _ _ _)
   | (with_reducible exact ih2 _ _ _ _)
   | (with_reducible exact ean_complete.mono _ _ _)
   | (with_reducible exact ean_readDigits.mono _ _ _ _)
   | (with_reducible exact slices_Index_string_string.mono _ _ _)
   | (with_reducible exact LeO.refl _)
   | (with_reducible exact LeO.none _)
   | (with_reducible refine LeO.ite ?_ ?_)
   | (with_reducible refine LeO.bind ?_ (fun _ => ?_))
   | exact ih0 _ _ _ _ _ _
   | exact ih1 _ _ _ _
   | exact ih2 _ _ _ _
   | exact ean_complete.mono _ _ _
   | exact ean_readDigits.mono _ _ _ _
   | exact slices_Index_string_string.mono _ _ _
   | exact LeO.none _
   | refine LeO.ite ?_ ?_
   | refine LeO.bind ?_ (fun _ => ?_)
  ·intro y0 y1 y2 y3
   unfold ean_readE.j1
   repeat' first
   | (with_reducible exact ih0 _ _ _ _ _ _)
   | (with_reducible exact ih1 _ _ _ _)
   | (with_reducible exact ih2 _ _ _ _)
   | (with_reducible exact ean_complete.mono _ _ _)
   | (with_reducible exact ean_readDigits.mono _ _ _ _)
   | (with_reducible exact slices_Index_string_string.mono _ _ _)
   | (with_reducible exact LeO.refl _)
   | (with_reducible exact LeO.none _)
   | (with_reducible refine LeO.ite ?_ ?_)
   | (with_reducible refine LeO.bind ?_ (fun _ => ?_))
   | exact ih0 _ _ _ _ _ _
   | exact ih1 _ _ _ _
   | exact ih2 _ _ _ _
   | exact ean_complete.mono _ _ _
   | exact ean_readDigits.mono _ _ _ _
   | exact slices_Index_string_string.mono _ _ _
   | exact LeO.none _
   | refine LeO.ite ?_ ?_
   | refine LeO.bind ?_ (fun _ => ?_)
  ·intro y0 y1 y2 y3
   unfold ean_readE.j2
   repeat' first
   | (with_reducible exact ih0 _ _ _ _ _ _)
   | (with_reducible exact ih1 _ _ _ _)
   | (with_reducible exact ih2 _ _ _ _)
   | (with_reducible exact ean_complete.mono _ _ _)
   | (with_reducible exact ean_readDigits.mono _ _ _ _)
   | (with_reducible exact slices_Index_string_string.mono _ _ _)
   | (with_reducible exact LeO.refl _)
   | (with_reducible exact LeO.none _)
   | (with_reducible refine LeO.ite ?_ ?_)
   | (with_reducible refine LeO.bind ?_ (fun _ => ?_))
   | exact ih0 _ _ _ _ _ _
   | exact ih1 _ _ _ _
   | exact ih2 _ _ _ _
   | exact ean_complete.mono _ _ _
   | exact ean_readDigits.mono _ _ _ _
   | exact slices_Index_string_string.mono _ _ _
   | exact LeO.none _
   | refine LeO.ite ?_ ?_
   | refine LeO.bind ?_ (fun _ => ?_)
theorem ean_readE.mono : ∀ a0 k, LeO (ean_readE.f k a0) (ean_readE.f (k + 1) a0) := by
 intro a0 k
 obtain ⟨ih0, ih1, ih2⟩ := ean_readE.mono_l k
 unfold ean_readE.f
 repeat' first
   | (with_reducible exact ih0 _ _ _ _ _ _)
   | (with_reducible exact ih1 _ _ _ _)
   | (with_reducible exact ih2 _ _ _ _)
   | (with_reducible exact ean_complete.mono _ _ _)
   | (with_reducible exact ean_readDigits.mono _ _ _ _)
   | (with_reducible exact slices_Index_string_string.mono _ _ _)
   | (with_reducible exact LeO.refl _)
   | (with_reducible exact LeO.none _)
   | (with_reducible refine LeO.ite ?_ ?_)
   | (with_reducible refine LeO.bind ?_ (fun _ => ?_))
   | exact ih0 _ _ _ _ _ _
   | exact ih1 _ _ _ _
   | exact ih2 _ _ _ _
   | exact ean_complete.mono _ _ _
   | exact ean_readDigits.mono _ _ _ _
   | exact slices_Index_string_string.mono _ _ _
   | exact LeO.none _
   | refine LeO.ite ?_ ?_
   | refine LeO.bind ?_ (fun _ => ?_)
set_option maxHeartbeats 8000000 in
set_option maxRecDepth 100000 in
theorem ean_readE.calls (k : Nat) (a0 : ByteArray) (r1 : Int) (r2 : ByteArray) (r3 : ByteArray) (r4 : Int) (w : World) (h : ean_readE.f k a0 = some (r1, r2, r3, r4)) :
  Calls Tryz.prog 105 #[.string a0] w fun e w' => e = .returned (.tuple #[.agg #[.int .i64 r1, .string r2, .string r3], .int .i64 r4]) ∧ Below w.heap.size w w' := by
 have hu31 := Tryz.underlying31
 have HB := Aside0.mk (Below.refl w.heap.size w)
 have H : (if 0 ≤ 3 then (if 3 ≤ (a0.size : Int) then (if (a0.extract 0 3).toList = ([49, 48, 49] : List UInt8) then (if 45 ≤ (a0.size : Int) then (if (a0.extract 45 a0.size).toList = ([48, 49, 48, 49, 48, 49] : List UInt8) then (if 3 ≤ 45 then ((ean_readDigits.f k (a0.extract 3 45) (⟨#[65, 66]⟩ : ByteArray) 7).bind fun bt388 => ((ean_parityE.f).bind fun t391 => ((slices_Index_string_string.f k t391 bt388.2.1).bind fun t394 => (if bt388.2.2 = true then (ean_readE.j0 k bt388.1 bt388.2.1 bt388.2.2 (⟨#[48]⟩ : ByteArray) t394 (decide (t394 < 0))) else (ean_readE.j0 k bt388.1 bt388.2.1 bt388.2.2 (⟨#[48]⟩ : ByteArray) t394 false))))) else (none)) else (some (0, (⟨#[]⟩ : ByteArray), (⟨#[]⟩ : ByteArray), 20))) else (none)) else (some (0, (⟨#[]⟩ : ByteArray), (⟨#[]⟩ : ByteArray), 19))) else (none)) else (none)) = some (r1, r2, r3, r4) := h
 clear h
 by_cases c2 : 0 ≤ 3
 ·rw [if_pos c2] at H
  have c2b0 := eq_true c2
  have c2b1 : decide (0 ≤ 3) = true := decide_eq_true c2
  clear c2
  by_cases c3 : 3 ≤ (a0.size : Int)
  ·rw [if_pos c3] at H
   have c3b0 := eq_true c3
   have c3b1 : decide (3 ≤ (a0.size : Int)) = true := decide_eq_true c3
   clear c3
   by_cases c4 : (a0.extract 0 3).toList = ([49, 48, 49] : List UInt8)
   ·rw [if_pos c4] at H
    have c4b0 : ((a0.extract 0 3).toList == ([49, 48, 49] : List UInt8)) = true := beq_iff_eq.mpr c4
    have c4b1 : ((a0.extract 0 3).toList != ([49, 48, 49] : List UInt8)) = false := bne_eq_false_iff_eq.mpr c4
    clear c4
    by_cases c5 : 45 ≤ (a0.size : Int)
    ·rw [if_pos c5] at H
     have c5b0 := eq_true c5
     have c5b1 : decide (45 ≤ (a0.size : Int)) = true := decide_eq_true c5
     clear c5
     by_cases c6 : (a0.extract 45 a0.size).toList = ([48, 49, 48, 49, 48, 49] : List UInt8)
     ·rw [if_pos c6] at H
      have c6b0 : ((a0.extract 45 a0.size).toList == ([48, 49, 48, 49, 48, 49] : List UInt8)) = true := beq_iff_eq.mpr c6
      have c6b1 : ((a0.extract 45 a0.size).toList != ([48, 49, 48, 49, 48, 49] : List UInt8)) = false := bne_eq_false_iff_eq.mpr c6
      clear c6
      by_cases c7 : 3 ≤ 45
      ·rw [if_pos c7] at H
       have c7b0 := eq_true c7
       have c7b1 : decide (3 ≤ 45) = true := decide_eq_true c7
       clear c7
       have c8b0 := eq_true (of_decide_eq_true (by first | (with_reducible assumption) | assumption) : 45 ≤ (a0.size : Int))
       replace H := Option.bind_eq_some_iff.mp H
       obtain ⟨⟨t388, t389, t390⟩, A90, H⟩ := H
       replace H : ((ean_parityE.f).bind fun t391 => ((slices_Index_string_string.f k t391 t389).bind fun t394 => (if t390 = true then (ean_readE.j0 k t388 t389 t390 (⟨#[48]⟩ : ByteArray) t394 (decide (t394 < 0))) else (ean_readE.j0 k t388 t389 t390 (⟨#[48]⟩ : ByteArray) t394 false)))) = some (r1, r2, r3, r4) := H
       have A9 := Aside0.mk A90
       clear A90
       replace H := Option.bind_eq_some_iff.mp H
       obtain ⟨t391, A100, H⟩ := H
       replace H : ((slices_Index_string_string.f k t391 t389).bind fun t394 => (if t390 = true then (ean_readE.j0 k t388 t389 t390 (⟨#[48]⟩ : ByteArray) t394 (decide (t394 < 0))) else (ean_readE.j0 k t388 t389 t390 (⟨#[48]⟩ : ByteArray) t394 false))) = some (r1, r2, r3, r4) := H
       have A10 := Aside0.mk A100
       clear A100
       replace H := Option.bind_eq_some_iff.mp H
       obtain ⟨t394, A110, H⟩ := H
       replace H : (if t390 = true then (ean_readE.j0 k t388 t389 t390 (⟨#[48]⟩ : ByteArray) t394 (decide (t394 < 0))) else (ean_readE.j0 k t388 t389 t390 (⟨#[48]⟩ : ByteArray) t394 false)) = some (r1, r2, r3, r4) := H
       have A11 := Aside0.mk A110
       clear A110
       have HC12 := Aside0.mk H
       clear H
       go_enter Tryz.func105, Tryz.ntmps105
       go_upto_region 8 with (first | ((with_reducible refine gate_dst (N := 2) rfl ?_); refine box_event ?hg (N := 2) ?hd (cs := #[.int .i64 0, .string (⟨#[]⟩ : ByteArray), .string (⟨#[]⟩ : ByteArray)]) (t := 31) ?hr ?_; (case hd => rfl); (case hg => rfl); (case hr => first | (go_simp; done) | (go_simp; rfl)); intro gb387 hg w13 hbox hb; have n0_ := Aside0.mk (below_step (by repeat (first | (with_reducible first | exact HB.out | apply below_alloc | apply pw_below_drewN | apply below_drew1) | exact HB.out)) hb); have n1_ := Aside0.mk (hbox); have n2_ := Aside0.mk ((by rw [hg]; exact (below_size (by repeat (first | (with_reducible first | exact HB.out | apply below_alloc | apply pw_below_drewN | apply below_drew1) | exact HB.out))) : w.heap.size ≤ gb387)); have n3_ := Aside0.mk ((by rw [hg]; exact (below_size (by repeat (first | (with_reducible first | exact HB.out | apply below_alloc | apply pw_below_drewN | apply below_drew1) | exact HB.out))) : w.heap.size ≤ gb387)); clear HB; have HB := n0_; have BK387 := n1_; have GW387 := n2_; have GE387 := n3_; clear n0_ n1_ n2_ n3_; clear hb hbox hg) | ((with_reducible refine gate_callee (f := 106) rfl ?_); refine goesL_ (some 23) rfl rfl Tryz.func106 (by kernel_rfl) rfl #[.string (a0.extract 3 45), .string (⟨#[65, 66]⟩ : ByteArray), .int .i64 7] rfl (by (try simp only [List.map_toArray, List.map_cons, List.map_nil]); first | done | rfl | (simp only [List.length_drop, List.length_take]; rfl)) ?_; (with_reducible refine (ean_readDigits.calls k (a0.extract 3 45) (⟨#[65, 66]⟩ : ByteArray) 7 t388 t389 t390 _ A9.out).mono ?_); rintro e w14 ⟨rfl, hb⟩; refine ⟨_, rfl, ?_⟩; have n0_ := Aside0.mk (blk_below (g := gb387) (o := .cells #[.int .i64 0, .string (⟨#[]⟩ : ByteArray), .string (⟨#[]⟩ : ByteArray)] 31 (0, 0)) (by (with_reducible repeat (first | refine blk_drewN ?_ _ | refine blk_drew ?_ | refine blk_alloc ?_ _)); exact BK387.out) hb); have n1_ := Aside0.mk (below_step (by repeat (first | (with_reducible first | exact HB.out | apply below_alloc | apply pw_below_drewN | apply below_drew1 | refine below_set ?_ GE387.out) | exact HB.out)) hb); clear BK387; clear HB; have BK387 := n0_; have HB := n1_; clear n0_ n1_; (try clear hb); (try clear hb2); (try clear hk); (try clear hi)) | ((with_reducible refine gate_callee (f := 61) rfl ?_); refine goesL_ (some 27) rfl rfl Tryz.func61 (by kernel_rfl) rfl #[] rfl (by (try simp only [List.map_toArray, List.map_cons, List.map_nil]); first | done | rfl | (simp only [List.length_drop, List.length_take]; rfl)) ?_; (with_reducible refine (ean_parityE.calls  t391 _ A10.out).mono ?_); rintro e w15 ⟨v392, rfl, ho0, hb⟩; refine ⟨_, rfl, ?_⟩; have n0_ := Aside0.mk (Kd.R_lower ho0 (below_size (by repeat (first | (with_reducible first | exact HB.out | apply below_alloc | apply pw_below_drewN | apply below_drew1 | refine below_set ?_ GE387.out) | exact HB.out)))); have n1_ := Aside0.mk (blk_below (g := gb387) (o := .cells #[.int .i64 0, .string (⟨#[]⟩ : ByteArray), .string (⟨#[]⟩ : ByteArray)] 31 (0, 0)) (by (with_reducible repeat (first | refine blk_drewN ?_ _ | refine blk_drew ?_ | refine blk_alloc ?_ _)); exact BK387.out) hb); have n2_ := Aside0.mk (below_step (by repeat (first | (with_reducible first | exact HB.out | apply below_alloc | apply pw_below_drewN | apply below_drew1 | refine below_set ?_ GE387.out) | exact HB.out)) hb); clear BK387; clear HB; have HO393 := n0_; have BK387 := n1_; have HB := n2_; clear n0_ n1_ n2_; (try clear hb); (try clear hb2); (try clear hk); (try clear hi); (try clear ho0); obtain ⟨Ao16, co16, eo16⟩ := Kd.R_slice HO393.out; subst eo16) | ((with_reducible refine gate_callee (f := 107) rfl ?_); refine goesL_ (some 29) rfl rfl Tryz.func107 (by kernel_rfl) rfl #[.slice Ao16 t391.length co16, .string t389] rfl (by (try simp only [List.map_toArray, List.map_cons, List.map_nil]); first | done | rfl | (simp only [List.length_drop, List.length_take]; rfl)) ?_; (with_reducible refine (slices_Index_string_string.calls k _ _ t391 t389 t394 _ ?side1 ?side2 A11.out).mono ?_); (case side1 => repeat (first | exact (Kd.R_reads' HO393.out).2.2 | (with_reducible refine Kd.C_alloc ?_ _) | (with_reducible refine Kd.C_drewN ?_ _) | (with_reducible refine Kd.C_drew ?_))); (case side2 => exact (Kd.R_reads' HO393.out).2.1); rintro e w' ⟨rfl, ⟨nd, rfl⟩⟩; refine ⟨_, rfl, ?_⟩))
       (try simp only [Act.put, List.setIfInBounds_toArray, List.set_cons_zero, List.set_cons_succ])
       go_cut [34] (fun v34 wc => ∃ (kq : Nat) (x34_11 : Bool), v34 = .bool x34_11 ∧ Aside0 (ean_readE.j0 kq t388 t389 t390 (⟨#[48]⟩ : ByteArray) t394 x34_11 = some (r1, r2, r3, r4)) ∧ Aside0 (kq ≤ k) ∧ Aside0 (wc.heap[gb387]? = some (.cells #[.int .i64 0, .string (⟨#[]⟩ : ByteArray), .string (⟨#[]⟩ : ByteArray)] 31 (0, 0))) ∧ Aside0 (Below w.heap.size w wc))
       case first =>
        have H := HC12.out
        clear HC12
        by_cases c17 : t390 = true
        ·subst c17
         have H1 : (ean_readE.j0 k t388 t389 true (⟨#[48]⟩ : ByteArray) t394 (decide (t394 < 0))) = some (r1, r2, r3, r4) := by rw [if_pos rfl] at H; exact H
         clear H
         have H := H1
         clear H1
         have H' := Aside0.mk H
         clear H
         go_wp2
         go_meet
         case rel => exact ⟨_, (decide (t394 < 0)), (by first | rfl | (simp; done) | (simp [*]; done)), H', ⟨by first | omega | exact Nat.le_refl _⟩, ⟨by (with_reducible repeat (first | refine blk_drewN ?_ _ | refine blk_drew ?_ | refine blk_alloc ?_ _)); exact BK387.out⟩, ⟨by repeat (first | (with_reducible first | exact HB.out | apply below_alloc | apply pw_below_drewN | apply below_drew1 | refine below_set ?_ GE387.out) | exact HB.out)⟩⟩
        ·replace c17 := Bool.eq_false_iff.mpr c17
         subst c17
         have H1 : (ean_readE.j0 k t388 t389 false (⟨#[48]⟩ : ByteArray) t394 false) = some (r1, r2, r3, r4) := by rw [if_neg (show ¬ (false = true) by decide)] at H; exact H
         clear H
         have H := H1
         clear H1
         have H' := Aside0.mk H
         clear H
         go_wp2
         go_meet
         case rel => exact ⟨_, (false), (by first | rfl | (simp; done) | (simp [*]; done)), H', ⟨by first | omega | exact Nat.le_refl _⟩, ⟨by (with_reducible repeat (first | refine blk_drewN ?_ _ | refine blk_drew ?_ | refine blk_alloc ?_ _)); exact BK387.out⟩, ⟨by repeat (first | (with_reducible first | exact HB.out | apply below_alloc | apply pw_below_drewN | apply below_drew1 | refine below_set ?_ GE387.out) | exact HB.out)⟩⟩
       case rest =>
        clear HC12
        obtain ⟨kq, x34_11, rfl, HA, HJ11, BK387, HB⟩ := hcut
        cases kq with
        | zero => exact absurd HA.out (by simp [ean_readE.j0])
        | succ kj11 =>
         have H := HA.out
         clear HA
         simp only [ean_readE.j0] at H
         have HC18 := Aside0.mk H
         clear H
         go_upto_if 34 with (fail)
         go_cut [7, 8] (fun v7 v8 wc => ∃ (kq : Nat) (x7_17 : ByteArray) (x8_17 : Int), v7 = .string x7_17 ∧ v8 = .int .i64 x8_17 ∧ Aside0 (ean_readE.j1 kq t388 t390 x7_17 x8_17 = some (r1, r2, r3, r4)) ∧ Aside0 (kq ≤ kj11) ∧ Aside0 (wc.heap[gb387]? = some (.cells #[.int .i64 0, .string (⟨#[]⟩ : ByteArray), .string (⟨#[]⟩ : ByteArray)] 31 (0, 0))) ∧ Aside0 (Below w.heap.size w wc))
         case first =>
          have H := HC18.out
          clear HC18
          by_cases c19 : x34_11 = true
          ·subst c19
           have H1 : ((ean_parityE.f).bind fun t395 => ((ean_flipped.f t389 (⟨#[65]⟩ : ByteArray) (⟨#[66]⟩ : ByteArray)).bind fun t398 => ((slices_Index_string_string.f kj11 t395 t398).bind fun t399 => (ean_readE.j1 kj11 t388 t390 (⟨#[49]⟩ : ByteArray) t399)))) = some (r1, r2, r3, r4) := by rw [if_pos rfl] at H; exact H
           clear H
           have H := H1
           clear H1
           replace H := Option.bind_eq_some_iff.mp H
           obtain ⟨t395, A200, H⟩ := H
           replace H : ((ean_flipped.f t389 (⟨#[65]⟩ : ByteArray) (⟨#[66]⟩ : ByteArray)).bind fun t398 => ((slices_Index_string_string.f kj11 t395 t398).bind fun t399 => (ean_readE.j1 kj11 t388 t390 (⟨#[49]⟩ : ByteArray) t399))) = some (r1, r2, r3, r4) := H
           have A20 := Aside0.mk A200
           clear A200
           replace H := Option.bind_eq_some_iff.mp H
           obtain ⟨t398, A210, H⟩ := H
           replace H : ((slices_Index_string_string.f kj11 t395 t398).bind fun t399 => (ean_readE.j1 kj11 t388 t390 (⟨#[49]⟩ : ByteArray) t399)) = some (r1, r2, r3, r4) := H
           have A21 := Aside0.mk A210
           clear A210
           replace H := Option.bind_eq_some_iff.mp H
           obtain ⟨t399, A220, H⟩ := H
           replace H : (ean_readE.j1 kj11 t388 t390 (⟨#[49]⟩ : ByteArray) t399) = some (r1, r2, r3, r4) := H
           have A22 := Aside0.mk A220
           clear A220
           have H' := Aside0.mk H
           clear H
           go_wp2_with (first | ((with_reducible refine gate_callee (f := 61) rfl ?_); refine goesL_ (some 35) rfl rfl Tryz.func61 (by kernel_rfl) rfl #[] rfl (by (try simp only [List.map_toArray, List.map_cons, List.map_nil]); first | done | rfl | (simp only [List.length_drop, List.length_take]; rfl)) ?_; (with_reducible refine (ean_parityE.calls  t395 _ A20.out).mono ?_); rintro e w23 ⟨v396, rfl, ho0, hb⟩; refine ⟨_, rfl, ?_⟩; have n0_ := Aside0.mk (Kd.R_lower ho0 (below_size (by repeat (first | (with_reducible first | exact HB.out | apply below_alloc | apply pw_below_drewN | apply below_drew1 | refine below_set ?_ GE387.out) | exact HB.out)))); have n1_ := Aside0.mk (blk_below (g := gb387) (o := .cells #[.int .i64 0, .string (⟨#[]⟩ : ByteArray), .string (⟨#[]⟩ : ByteArray)] 31 (0, 0)) (by (with_reducible repeat (first | refine blk_drewN ?_ _ | refine blk_drew ?_ | refine blk_alloc ?_ _)); exact BK387.out) hb); have n2_ := Aside0.mk (below_step (by repeat (first | (with_reducible first | exact HB.out | apply below_alloc | apply pw_below_drewN | apply below_drew1 | refine below_set ?_ GE387.out) | exact HB.out)) hb); clear BK387; clear HB; have HO397 := n0_; have BK387 := n1_; have HB := n2_; clear n0_ n1_ n2_; (try clear hb); (try clear hb2); (try clear hk); (try clear hi); (try clear ho0)) | ((with_reducible refine gate_callee (f := 62) rfl ?_); refine goesL_ (some 37) rfl rfl Tryz.func62 (by kernel_rfl) rfl #[.string t389, .string (⟨#[65]⟩ : ByteArray), .string (⟨#[66]⟩ : ByteArray)] rfl (by (try simp only [List.map_toArray, List.map_cons, List.map_nil]); first | done | rfl | (simp only [List.length_drop, List.length_take]; rfl)) ?_; (with_reducible refine (ean_flipped.calls t389 (⟨#[65]⟩ : ByteArray) (⟨#[66]⟩ : ByteArray) t398 _ A21.out).mono ?_); rintro e w24 ⟨rfl, hb⟩; refine ⟨_, rfl, ?_⟩; have n0_ := Aside0.mk (Kd.R_below (by (with_reducible repeat (first | apply Kd.R_alloc | apply Kd.R_drewN | apply Kd.R_drew)); exact HO397.out) hb); have n1_ := Aside0.mk (blk_below (g := gb387) (o := .cells #[.int .i64 0, .string (⟨#[]⟩ : ByteArray), .string (⟨#[]⟩ : ByteArray)] 31 (0, 0)) (by (with_reducible repeat (first | refine blk_drewN ?_ _ | refine blk_drew ?_ | refine blk_alloc ?_ _)); exact BK387.out) hb); have n2_ := Aside0.mk (below_step (by repeat (first | (with_reducible first | exact HB.out | apply below_alloc | apply pw_below_drewN | apply below_drew1 | refine below_set ?_ GE387.out) | exact HB.out)) hb); clear HO397; clear BK387; clear HB; have HO397 := n0_; have BK387 := n1_; have HB := n2_; clear n0_ n1_ n2_; (try clear hb); (try clear hb2); (try clear hk); (try clear hi); obtain ⟨Ao25, co25, eo25⟩ := Kd.R_slice HO397.out; subst eo25) | ((with_reducible refine gate_callee (f := 107) rfl ?_); refine goesL_ (some 38) rfl rfl Tryz.func107 (by kernel_rfl) rfl #[.slice Ao25 t395.length co25, .string t398] rfl (by (try simp only [List.map_toArray, List.map_cons, List.map_nil]); first | done | rfl | (simp only [List.length_drop, List.length_take]; rfl)) ?_; (with_reducible refine (slices_Index_string_string.calls kj11 _ _ t395 t398 t399 _ ?side1 ?side2 A22.out).mono ?_); (case side1 => repeat (first | exact (Kd.R_reads' HO397.out).2.2 | (with_reducible refine Kd.C_alloc ?_ _) | (with_reducible refine Kd.C_drewN ?_ _) | (with_reducible refine Kd.C_drew ?_))); (case side2 => exact (Kd.R_reads' HO397.out).2.1); rintro e w' ⟨rfl, ⟨nd, rfl⟩⟩; refine ⟨_, rfl, ?_⟩))
           go_meet
           case rel => exact ⟨_, ((⟨#[49]⟩ : ByteArray)), (t399), (by first | rfl | (simp; done) | (simp [*]; done)), (by first | rfl | (simp; done) | (simp [*]; done)), H', ⟨by have := HJ11.out; first | omega | exact Nat.le_refl _⟩, ⟨by (with_reducible repeat (first | refine blk_drewN ?_ _ | refine blk_drew ?_ | refine blk_alloc ?_ _)); exact BK387.out⟩, ⟨by repeat (first | (with_reducible first | exact HB.out | apply below_alloc | apply pw_below_drewN | apply below_drew1 | refine below_set ?_ GE387.out) | exact HB.out)⟩⟩
          ·replace c19 := Bool.eq_false_iff.mpr c19
           subst c19
           have H1 : (ean_readE.j1 kj11 t388 t390 (⟨#[48]⟩ : ByteArray) t394) = some (r1, r2, r3, r4) := by rw [if_neg (show ¬ (false = true) by decide)] at H; exact H
           clear H
           have H := H1
           clear H1
           have H' := Aside0.mk H
           clear H
           go_wp2
           go_meet
           case rel => exact ⟨_, ((⟨#[48]⟩ : ByteArray)), (t394), (by first | rfl | (simp; done) | (simp [*]; done)), (by first | rfl | (simp; done) | (simp [*]; done)), H', ⟨by have := HJ11.out; first | omega | exact Nat.le_refl _⟩, ⟨by (with_reducible repeat (first | refine blk_drewN ?_ _ | refine blk_drew ?_ | refine blk_alloc ?_ _)); exact BK387.out⟩, ⟨by repeat (first | (with_reducible first | exact HB.out | apply below_alloc | apply pw_below_drewN | apply below_drew1 | refine below_set ?_ GE387.out) | exact HB.out)⟩⟩
         case rest =>
          clear HC18
          obtain ⟨kq, x7_17, x8_17, rfl, rfl, HA, HJ17, BK387, HB⟩ := hcut
          cases kq with
          | zero => exact absurd HA.out (by simp [ean_readE.j1])
          | succ kj17 =>
           have H := HA.out
           clear HA
           simp only [ean_readE.j1] at H
           have HC26 := Aside0.mk H
           clear H
           go_upto_region 11 with (fail)
           go_cut [44] (fun v44 wc => ∃ (kq : Nat) (x44_25 : Bool), v44 = .bool x44_25 ∧ Aside0 (ean_readE.j2 kq t388 x7_17 x8_17 x44_25 = some (r1, r2, r3, r4)) ∧ Aside0 (kq ≤ kj17) ∧ Aside0 (wc.heap[gb387]? = some (.cells #[.int .i64 0, .string (⟨#[]⟩ : ByteArray), .string (⟨#[]⟩ : ByteArray)] 31 (0, 0))) ∧ Aside0 (Below w.heap.size w wc))
           case first =>
            have H := HC26.out
            clear HC26
            by_cases c27 : t390 = true
            ·subst c27
             have H1 : (ean_readE.j2 kj17 t388 x7_17 x8_17 (decide (x8_17 < 0))) = some (r1, r2, r3, r4) := by rw [if_pos rfl] at H; exact H
             clear H
             have H := H1
             clear H1
             have H' := Aside0.mk H
             clear H
             go_wp2
             go_meet
             case rel => exact ⟨_, (decide (x8_17 < 0)), (by first | rfl | (simp; done) | (simp [*]; done)), H', ⟨by have := HJ11.out; have := HJ17.out; first | omega | exact Nat.le_refl _⟩, ⟨by (with_reducible repeat (first | refine blk_drewN ?_ _ | refine blk_drew ?_ | refine blk_alloc ?_ _)); exact BK387.out⟩, ⟨by repeat (first | (with_reducible first | exact HB.out | apply below_alloc | apply pw_below_drewN | apply below_drew1 | refine below_set ?_ GE387.out) | exact HB.out)⟩⟩
            ·replace c27 := Bool.eq_false_iff.mpr c27
             subst c27
             have H1 : (ean_readE.j2 kj17 t388 x7_17 x8_17 true) = some (r1, r2, r3, r4) := by rw [if_neg (show ¬ (false = true) by decide)] at H; exact H
             clear H
             have H := H1
             clear H1
             have H' := Aside0.mk H
             clear H
             go_wp2
             go_meet
             case rel => exact ⟨_, (true), (by first | rfl | (simp; done) | (simp [*]; done)), H', ⟨by have := HJ11.out; have := HJ17.out; first | omega | exact Nat.le_refl _⟩, ⟨by (with_reducible repeat (first | refine blk_drewN ?_ _ | refine blk_drew ?_ | refine blk_alloc ?_ _)); exact BK387.out⟩, ⟨by repeat (first | (with_reducible first | exact HB.out | apply below_alloc | apply pw_below_drewN | apply below_drew1 | refine below_set ?_ GE387.out) | exact HB.out)⟩⟩
           case rest =>
            clear HC26
            obtain ⟨kq, x44_25, rfl, HA, HJ25, BK387, HB⟩ := hcut
            cases kq with
            | zero => exact absurd HA.out (by simp [ean_readE.j2])
            | succ kj25 =>
             have H := HA.out
             clear HA
             simp only [ean_readE.j2] at H
             by_cases c28 : x44_25 = true
             ·subst c28
              have H1 : (some (0, (⟨#[]⟩ : ByteArray), (⟨#[]⟩ : ByteArray), 18)) = some (r1, r2, r3, r4) := by rw [if_pos rfl] at H; exact H
              clear H
              have H := H1
              clear H1
              simp only [Option.some.injEq, Prod.mk.injEq] at H
              obtain ⟨rfl, rfl, rfl, rfl⟩ := H
              have hcz29_0 : wc.cell? ⟨gb387, 0, none⟩ = some (.int .i64 0) := (blk_cell BK387.out 0).trans rfl
              have hcz29_1 : wc.cell? ⟨gb387, 1, none⟩ = some (.string (⟨#[]⟩ : ByteArray)) := (blk_cell BK387.out 1).trans rfl
              have hcz29_2 : wc.cell? ⟨gb387, 2, none⟩ = some (.string (⟨#[]⟩ : ByteArray)) := (blk_cell BK387.out 2).trans rfl
              have hfz29_0 := blk_frozen BK387.out 0
              have hfz29_1 := blk_frozen BK387.out 1
              have hfz29_2 := blk_frozen BK387.out 2
              go_wp2
              refine bodyPost_ret (results_ct rfl _ _ gb387 31 #[.int .i64 0, .string (⟨#[]⟩ : ByteArray), .string (⟨#[]⟩ : ByteArray)] (0, 0) _ rfl (by (with_reducible repeat (first | refine blk_drewN ?_ _ | refine blk_drew ?_ | refine blk_alloc ?_ _)); refine blk_put (cs := #[.int .i64 0, .string (⟨#[]⟩ : ByteArray), .string (⟨#[]⟩ : ByteArray)]) ?_ 2 _ rfl; (with_reducible repeat (first | refine blk_drewN ?_ _ | refine blk_drew ?_ | refine blk_alloc ?_ _)); refine blk_put (cs := #[.int .i64 0, .string (⟨#[]⟩ : ByteArray), .string (⟨#[]⟩ : ByteArray)]) ?_ 1 _ rfl; (with_reducible repeat (first | refine blk_drewN ?_ _ | refine blk_drew ?_ | refine blk_alloc ?_ _)); refine blk_put (cs := #[.int .i64 0, .string (⟨#[]⟩ : ByteArray), .string (⟨#[]⟩ : ByteArray)]) ?_ 0 _ rfl; (with_reducible repeat (first | refine blk_drewN ?_ _ | refine blk_drew ?_ | refine blk_alloc ?_ _)); exact BK387.out) Tryz.underlying31 rfl (by kernel_rfl)) rfl ?_
              exact ⟨by first | rfl | (simp [errW_none, errW_some] <;> rfl) | (simp [*, errW_none, errW_some] <;> rfl), by repeat (first | (with_reducible first | exact HB.out | apply below_alloc | apply pw_below_drewN | apply below_drew1 | refine below_set ?_ GE387.out) | exact HB.out)⟩
             ·replace c28 := Bool.eq_false_iff.mpr c28
              subst c28
              have H1 : (if x7_17.size + t388.size ≤ 9223372036854775807 then ((some (([(wrap64 (48 + x8_17)) % 256] : List Int) : List Int)).bind fun y400 => (if (x7_17 ++ t388).size + (strOfNums y400).size ≤ 9223372036854775807 then ((ean_complete.f kj25 4 ((x7_17 ++ t388) ++ (strOfNums y400))).bind fun t403 => (if t403 = 0 then (some (4, (x7_17 ++ t388) ++ (strOfNums y400), (⟨#[]⟩ : ByteArray), 0)) else (some (0, (⟨#[]⟩ : ByteArray), (⟨#[]⟩ : ByteArray), 8)))) else (none))) else (none)) = some (r1, r2, r3, r4) := by rw [if_neg (show ¬ (false = true) by decide)] at H; exact H
              clear H
              have H := H1
              clear H1
              by_cases c30 : x7_17.size + t388.size ≤ 9223372036854775807
              ·rw [if_pos c30] at H
               have c30b0 := eq_true c30
               have c30b1 : decide (x7_17.size + t388.size ≤ 9223372036854775807) = true := decide_eq_true c30
               obtain ⟨y400, hy400⟩ : ∃ y_ : List Int, y_ = (([(wrap64 (48 + x8_17)) % 256] : List Int)) := ⟨_, rfl⟩
               replace H : (if (x7_17 ++ t388).size + (strOfNums y400).size ≤ 9223372036854775807 then ((ean_complete.f kj25 4 ((x7_17 ++ t388) ++ (strOfNums y400))).bind fun t403 => (if t403 = 0 then (some (4, (x7_17 ++ t388) ++ (strOfNums y400), (⟨#[]⟩ : ByteArray), 0)) else (some (0, (⟨#[]⟩ : ByteArray), (⟨#[]⟩ : ByteArray), 8)))) else (none)) = some (r1, r2, r3, r4) := by first | (rw [hy400]; with_reducible exact H) | (have H2_ := (Option.bind_some _ _).symm.trans H; rw [hy400]; with_reducible exact H2_) | (have H2_ := (Option.bind_some _ _).symm.trans H; with_reducible exact H2_) | with_reducible exact H | (rw [hy400]; exact H) | exact H
               have Ny400 := Aside0.mk hy400
               clear hy400
               by_cases c31 : (x7_17 ++ t388).size + (strOfNums y400).size ≤ 9223372036854775807
               ·rw [if_pos c31] at H
                have c31b0 := eq_true c31
                have c31b1 : decide ((x7_17 ++ t388).size + (strOfNums y400).size ≤ 9223372036854775807) = true := decide_eq_true c31
                replace H := Option.bind_eq_some_iff.mp H
                obtain ⟨t403, A320, H⟩ := H
                replace H : (if t403 = 0 then (some (4, (x7_17 ++ t388) ++ (strOfNums y400), (⟨#[]⟩ : ByteArray), 0)) else (some (0, (⟨#[]⟩ : ByteArray), (⟨#[]⟩ : ByteArray), 8))) = some (r1, r2, r3, r4) := H
                have A32 := Aside0.mk A320
                clear A320
                by_cases c33 : t403 = 0
                ·rw [if_pos c33] at H
                 have c33b0 : (t403 == 0) = true := beq_iff_eq.mpr c33
                 have c33b1 : (t403 != 0) = false := bne_eq_false_iff_eq.mpr c33
                 clear c33
                 simp only [Option.some.injEq, Prod.mk.injEq] at H
                 obtain ⟨rfl, rfl, rfl, rfl⟩ := H
                 go_wp2_with (first | ((with_reducible refine gate_dst (N := 52) rfl ?_); refine Kd.R_lit (Kd.int .u8) _ 5 ?hg (N := 52) ?hd (xs := ([(wrap64 (48 + x8_17)) % 256] : List Int)) (inner := [.int .u8 ((wrap64 (48 + x8_17)) % 256)]) (ok := fun _ => True) (okp := fun _ => True) ?hr ?hp (fun _ hk => hk) trivial (Below.refl _ _) (Nat.le_refl _) (by simp) ?_; (case hd => rfl); (case hg => rfl); (case hr => first | (go_simp; done) | (go_simp; rfl)); (case hp => exact (Reps.one (show Kd.M (Kd.int .u8) _ _ _ ((wrap64 (48 + x8_17)) % 256) [.int .u8 ((wrap64 (48 + x8_17)) % 256)] from rfl) (Reps.none _ _))); intro v401 w34 ho35 hb hg_ hnew_; clear hg_ hnew_; (first | rw [← Ny400.out] at ho35 | (simp only [Int.reduceToNat] at ho35; rw [← Ny400.out] at ho35)); have n0_ := Aside0.mk (Kd.R_lower ho35 (below_size (by repeat (first | (with_reducible first | exact HB.out | apply below_alloc | apply pw_below_drewN | apply below_drew1 | refine below_set ?_ GE387.out) | exact HB.out)))); have n1_ := Aside0.mk (blk_below (g := gb387) (o := .cells #[.int .i64 0, .string (⟨#[]⟩ : ByteArray), .string (⟨#[]⟩ : ByteArray)] 31 (0, 0)) (by (with_reducible repeat (first | refine blk_drewN ?_ _ | refine blk_drew ?_ | refine blk_alloc ?_ _)); exact BK387.out) hb); have n2_ := Aside0.mk (below_step (by repeat (first | (with_reducible first | exact HB.out | apply below_alloc | apply pw_below_drewN | apply below_drew1 | refine below_set ?_ GE387.out) | exact HB.out)) hb); clear BK387; clear HB; have HO402 := n0_; have BK387 := n1_; have HB := n2_; clear n0_ n1_ n2_; clear hb ho35; have hcv36 := own_string (P := Tryz.prog) Tryz.underlying40 Tryz.underlying5 Tryz.underlying9 (Kd.own_of_R HO402.out)) | ((with_reducible refine gate_callee (f := 26) rfl ?_); refine goesL_ (some 56) rfl rfl Tryz.func26 (by kernel_rfl) rfl #[.int .i64 4, .string ((x7_17 ++ t388) ++ (strOfNums y400))] rfl (by (try simp only [List.map_toArray, List.map_cons, List.map_nil]); first | done | rfl | (simp only [List.length_drop, List.length_take]; rfl)) ?_; (with_reducible refine (ean_complete.calls kj25 4 ((x7_17 ++ t388) ++ (strOfNums y400)) t403 _ A32.out).mono ?_); rintro e w37 ⟨rfl, hb⟩; refine ⟨_, rfl, ?_⟩; have n0_ := Aside0.mk (Kd.R_below (by (with_reducible repeat (first | apply Kd.R_alloc | apply Kd.R_drewN | apply Kd.R_drew)); exact HO402.out) hb); have n1_ := Aside0.mk (blk_below (g := gb387) (o := .cells #[.int .i64 0, .string (⟨#[]⟩ : ByteArray), .string (⟨#[]⟩ : ByteArray)] 31 (0, 0)) (by (with_reducible repeat (first | refine blk_drewN ?_ _ | refine blk_drew ?_ | refine blk_alloc ?_ _)); exact BK387.out) hb); have n2_ := Aside0.mk (below_step (by repeat (first | (with_reducible first | exact HB.out | apply below_alloc | apply pw_below_drewN | apply below_drew1 | refine below_set ?_ GE387.out) | exact HB.out)) hb); clear HO402; clear BK387; clear HB; have HO402 := n0_; have BK387 := n1_; have HB := n2_; clear n0_ n1_ n2_; (try clear hb); (try clear hb2); (try clear hk); (try clear hi); have hcz38_0 : w37.cell? ⟨gb387, 0, none⟩ = some (.int .i64 0) := (blk_cell BK387.out 0).trans rfl; have hcz38_1 : w37.cell? ⟨gb387, 1, none⟩ = some (.string (⟨#[]⟩ : ByteArray)) := (blk_cell BK387.out 1).trans rfl; have hcz38_2 : w37.cell? ⟨gb387, 2, none⟩ = some (.string (⟨#[]⟩ : ByteArray)) := (blk_cell BK387.out 2).trans rfl; have hfz38_0 := blk_frozen BK387.out 0; have hfz38_1 := blk_frozen BK387.out 1; have hfz38_2 := blk_frozen BK387.out 2))
                 refine bodyPost_ret (results_ct rfl _ _ gb387 31 #[.int .i64 4, .string ((x7_17 ++ t388) ++ (strOfNums y400)), .string (⟨#[]⟩ : ByteArray)] (0, 0) _ rfl (by (with_reducible repeat (first | refine blk_drewN ?_ _ | refine blk_drew ?_ | refine blk_alloc ?_ _)); refine blk_put (cs := #[.int .i64 4, .string ((x7_17 ++ t388) ++ (strOfNums y400)), .string (⟨#[]⟩ : ByteArray)]) ?_ 2 _ rfl; (with_reducible repeat (first | refine blk_drewN ?_ _ | refine blk_drew ?_ | refine blk_alloc ?_ _)); refine blk_put (cs := #[.int .i64 4, .string (⟨#[]⟩ : ByteArray), .string (⟨#[]⟩ : ByteArray)]) ?_ 1 _ rfl; (with_reducible repeat (first | refine blk_drewN ?_ _ | refine blk_drew ?_ | refine blk_alloc ?_ _)); refine blk_put (cs := #[.int .i64 0, .string (⟨#[]⟩ : ByteArray), .string (⟨#[]⟩ : ByteArray)]) ?_ 0 _ rfl; (with_reducible repeat (first | refine blk_drewN ?_ _ | refine blk_drew ?_ | refine blk_alloc ?_ _)); exact BK387.out) Tryz.underlying31 rfl (by kernel_rfl)) rfl ?_
                 exact ⟨by first | rfl | (simp [errW_none, errW_some] <;> rfl) | (simp [*, errW_none, errW_some] <;> rfl), by repeat (first | (with_reducible first | exact HB.out | apply below_alloc | apply pw_below_drewN | apply below_drew1 | refine below_set ?_ GE387.out) | exact HB.out)⟩
                ·rw [if_neg c33] at H
                 have c33b0 : (t403 == 0) = false := beq_eq_false_iff_ne.mpr c33
                 have c33b1 : (t403 != 0) = true := bne_iff_ne.mpr c33
                 simp only [Option.some.injEq, Prod.mk.injEq] at H
                 obtain ⟨rfl, rfl, rfl, rfl⟩ := H
                 go_wp2_with (first | ((with_reducible refine gate_dst (N := 52) rfl ?_); refine Kd.R_lit (Kd.int .u8) _ 5 ?hg (N := 52) ?hd (xs := ([(wrap64 (48 + x8_17)) % 256] : List Int)) (inner := [.int .u8 ((wrap64 (48 + x8_17)) % 256)]) (ok := fun _ => True) (okp := fun _ => True) ?hr ?hp (fun _ hk => hk) trivial (Below.refl _ _) (Nat.le_refl _) (by simp) ?_; (case hd => rfl); (case hg => rfl); (case hr => first | (go_simp; done) | (go_simp; rfl)); (case hp => exact (Reps.one (show Kd.M (Kd.int .u8) _ _ _ ((wrap64 (48 + x8_17)) % 256) [.int .u8 ((wrap64 (48 + x8_17)) % 256)] from rfl) (Reps.none _ _))); intro v401 w39 ho40 hb hg_ hnew_; clear hg_ hnew_; (first | rw [← Ny400.out] at ho40 | (simp only [Int.reduceToNat] at ho40; rw [← Ny400.out] at ho40)); have n0_ := Aside0.mk (Kd.R_lower ho40 (below_size (by repeat (first | (with_reducible first | exact HB.out | apply below_alloc | apply pw_below_drewN | apply below_drew1 | refine below_set ?_ GE387.out) | exact HB.out)))); have n1_ := Aside0.mk (blk_below (g := gb387) (o := .cells #[.int .i64 0, .string (⟨#[]⟩ : ByteArray), .string (⟨#[]⟩ : ByteArray)] 31 (0, 0)) (by (with_reducible repeat (first | refine blk_drewN ?_ _ | refine blk_drew ?_ | refine blk_alloc ?_ _)); exact BK387.out) hb); have n2_ := Aside0.mk (below_step (by repeat (first | (with_reducible first | exact HB.out | apply below_alloc | apply pw_below_drewN | apply below_drew1 | refine below_set ?_ GE387.out) | exact HB.out)) hb); clear BK387; clear HB; have HO402 := n0_; have BK387 := n1_; have HB := n2_; clear n0_ n1_ n2_; clear hb ho40; have hcv41 := own_string (P := Tryz.prog) Tryz.underlying40 Tryz.underlying5 Tryz.underlying9 (Kd.own_of_R HO402.out)) | ((with_reducible refine gate_callee (f := 26) rfl ?_); refine goesL_ (some 56) rfl rfl Tryz.func26 (by kernel_rfl) rfl #[.int .i64 4, .string ((x7_17 ++ t388) ++ (strOfNums y400))] rfl (by (try simp only [List.map_toArray, List.map_cons, List.map_nil]); first | done | rfl | (simp only [List.length_drop, List.length_take]; rfl)) ?_; (with_reducible refine (ean_complete.calls kj25 4 ((x7_17 ++ t388) ++ (strOfNums y400)) t403 _ A32.out).mono ?_); rintro e w42 ⟨rfl, hb⟩; refine ⟨_, rfl, ?_⟩; have n0_ := Aside0.mk (Kd.R_below (by (with_reducible repeat (first | apply Kd.R_alloc | apply Kd.R_drewN | apply Kd.R_drew)); exact HO402.out) hb); have n1_ := Aside0.mk (blk_below (g := gb387) (o := .cells #[.int .i64 0, .string (⟨#[]⟩ : ByteArray), .string (⟨#[]⟩ : ByteArray)] 31 (0, 0)) (by (with_reducible repeat (first | refine blk_drewN ?_ _ | refine blk_drew ?_ | refine blk_alloc ?_ _)); exact BK387.out) hb); have n2_ := Aside0.mk (below_step (by repeat (first | (with_reducible first | exact HB.out | apply below_alloc | apply pw_below_drewN | apply below_drew1 | refine below_set ?_ GE387.out) | exact HB.out)) hb); clear HO402; clear BK387; clear HB; have HO402 := n0_; have BK387 := n1_; have HB := n2_; clear n0_ n1_ n2_; (try clear hb); (try clear hb2); (try clear hk); (try clear hi); have hcz43_0 : w42.cell? ⟨gb387, 0, none⟩ = some (.int .i64 0) := (blk_cell BK387.out 0).trans rfl; have hcz43_1 : w42.cell? ⟨gb387, 1, none⟩ = some (.string (⟨#[]⟩ : ByteArray)) := (blk_cell BK387.out 1).trans rfl; have hcz43_2 : w42.cell? ⟨gb387, 2, none⟩ = some (.string (⟨#[]⟩ : ByteArray)) := (blk_cell BK387.out 2).trans rfl; have hfz43_0 := blk_frozen BK387.out 0; have hfz43_1 := blk_frozen BK387.out 1; have hfz43_2 := blk_frozen BK387.out 2))
                 refine bodyPost_ret (results_ct rfl _ _ gb387 31 #[.int .i64 0, .string (⟨#[]⟩ : ByteArray), .string (⟨#[]⟩ : ByteArray)] (0, 0) _ rfl (by (with_reducible repeat (first | refine blk_drewN ?_ _ | refine blk_drew ?_ | refine blk_alloc ?_ _)); refine blk_put (cs := #[.int .i64 0, .string (⟨#[]⟩ : ByteArray), .string (⟨#[]⟩ : ByteArray)]) ?_ 2 _ rfl; (with_reducible repeat (first | refine blk_drewN ?_ _ | refine blk_drew ?_ | refine blk_alloc ?_ _)); refine blk_put (cs := #[.int .i64 0, .string (⟨#[]⟩ : ByteArray), .string (⟨#[]⟩ : ByteArray)]) ?_ 1 _ rfl; (with_reducible repeat (first | refine blk_drewN ?_ _ | refine blk_drew ?_ | refine blk_alloc ?_ _)); refine blk_put (cs := #[.int .i64 0, .string (⟨#[]⟩ : ByteArray), .string (⟨#[]⟩ : ByteArray)]) ?_ 0 _ rfl; (with_reducible repeat (first | refine blk_drewN ?_ _ | refine blk_drew ?_ | refine blk_alloc ?_ _)); exact BK387.out) Tryz.underlying31 rfl (by kernel_rfl)) rfl ?_
                 exact ⟨by first | rfl | (simp [errW_none, errW_some] <;> rfl) | (simp [*, errW_none, errW_some] <;> rfl), by repeat (first | (with_reducible first | exact HB.out | apply below_alloc | apply pw_below_drewN | apply below_drew1 | refine below_set ?_ GE387.out) | exact HB.out)⟩
               ·rw [if_neg c31] at H
                exact absurd H (by simp)
              ·rw [if_neg c30] at H
               exact absurd H (by simp)
      ·rw [if_neg c7] at H
       exact absurd H (by simp)
     ·rw [if_neg c6] at H
      have c6b0 : ((a0.extract 45 a0.size).toList == ([48, 49, 48, 49, 48, 49] : List UInt8)) = false := beq_eq_false_iff_ne.mpr c6
      have c6b1 : ((a0.extract 45 a0.size).toList != ([48, 49, 48, 49, 48, 49] : List UInt8)) = true := bne_iff_ne.mpr c6
      simp only [Option.some.injEq, Prod.mk.injEq] at H
      obtain ⟨rfl, rfl, rfl, rfl⟩ := H
      go_enter Tryz.func105, Tryz.ntmps105
      go_wp2_with (first | ((with_reducible refine gate_dst (N := 2) rfl ?_); refine box_event ?hg (N := 2) ?hd (cs := #[.int .i64 0, .string (⟨#[]⟩ : ByteArray), .string (⟨#[]⟩ : ByteArray)]) (t := 31) ?hr ?_; (case hd => rfl); (case hg => rfl); (case hr => first | (go_simp; done) | (go_simp; rfl)); intro gb387 hg w44 hbox hb; have n0_ := Aside0.mk (below_step (by repeat (first | (with_reducible first | exact HB.out | apply below_alloc | apply pw_below_drewN | apply below_drew1) | exact HB.out)) hb); have n1_ := Aside0.mk (hbox); have n2_ := Aside0.mk ((by rw [hg]; exact (below_size (by repeat (first | (with_reducible first | exact HB.out | apply below_alloc | apply pw_below_drewN | apply below_drew1) | exact HB.out))) : w.heap.size ≤ gb387)); have n3_ := Aside0.mk ((by rw [hg]; exact (below_size (by repeat (first | (with_reducible first | exact HB.out | apply below_alloc | apply pw_below_drewN | apply below_drew1) | exact HB.out))) : w.heap.size ≤ gb387)); clear HB; have HB := n0_; have BK387 := n1_; have GW387 := n2_; have GE387 := n3_; clear n0_ n1_ n2_ n3_; clear hb hbox hg; have hcz45_0 : w44.cell? ⟨gb387, 0, none⟩ = some (.int .i64 0) := (blk_cell BK387.out 0).trans rfl; have hcz45_1 : w44.cell? ⟨gb387, 1, none⟩ = some (.string (⟨#[]⟩ : ByteArray)) := (blk_cell BK387.out 1).trans rfl; have hcz45_2 : w44.cell? ⟨gb387, 2, none⟩ = some (.string (⟨#[]⟩ : ByteArray)) := (blk_cell BK387.out 2).trans rfl; have hfz45_0 := blk_frozen BK387.out 0; have hfz45_1 := blk_frozen BK387.out 1; have hfz45_2 := blk_frozen BK387.out 2))
      refine bodyPost_ret (results_ct rfl _ _ gb387 31 #[.int .i64 0, .string (⟨#[]⟩ : ByteArray), .string (⟨#[]⟩ : ByteArray)] (0, 0) _ rfl (by (with_reducible repeat (first | refine blk_drewN ?_ _ | refine blk_drew ?_ | refine blk_alloc ?_ _)); refine blk_put (cs := #[.int .i64 0, .string (⟨#[]⟩ : ByteArray), .string (⟨#[]⟩ : ByteArray)]) ?_ 2 _ rfl; (with_reducible repeat (first | refine blk_drewN ?_ _ | refine blk_drew ?_ | refine blk_alloc ?_ _)); refine blk_put (cs := #[.int .i64 0, .string (⟨#[]⟩ : ByteArray), .string (⟨#[]⟩ : ByteArray)]) ?_ 1 _ rfl; (with_reducible repeat (first | refine blk_drewN ?_ _ | refine blk_drew ?_ | refine blk_alloc ?_ _)); refine blk_put (cs := #[.int .i64 0, .string (⟨#[]⟩ : ByteArray), .string (⟨#[]⟩ : ByteArray)]) ?_ 0 _ rfl; (with_reducible repeat (first | refine blk_drewN ?_ _ | refine blk_drew ?_ | refine blk_alloc ?_ _)); exact BK387.out) Tryz.underlying31 rfl (by kernel_rfl)) rfl ?_
      exact ⟨by first | rfl | (simp [errW_none, errW_some] <;> rfl) | (simp [*, errW_none, errW_some] <;> rfl), by repeat (first | (with_reducible first | exact HB.out | apply below_alloc | apply pw_below_drewN | apply below_drew1 | refine below_set ?_ GE387.out) | exact HB.out)⟩
    ·rw [if_neg c5] at H
     exact absurd H (by simp)
   ·rw [if_neg c4] at H
    have c4b0 : ((a0.extract 0 3).toList == ([49, 48, 49] : List UInt8)) = false := beq_eq_false_iff_ne.mpr c4
    have c4b1 : ((a0.extract 0 3).toList != ([49, 48, 49] : List UInt8)) = true := bne_iff_ne.mpr c4
    simp only [Option.some.injEq, Prod.mk.injEq] at H
    obtain ⟨rfl, rfl, rfl, rfl⟩ := H
    go_enter Tryz.func105, Tryz.ntmps105
    go_wp2_with (first | ((with_reducible refine gate_dst (N := 2) rfl ?_); refine box_event ?hg (N := 2) ?hd (cs := #[.int .i64 0, .string (⟨#[]⟩ : ByteArray), .string (⟨#[]⟩ : ByteArray)]) (t := 31) ?hr ?_; (case hd => rfl); (case hg => rfl); (case hr => first | (go_simp; done) | (go_simp; rfl)); intro gb387 hg w46 hbox hb; have n0_ := Aside0.mk (below_step (by repeat (first | (with_reducible first | exact HB.out | apply below_alloc | apply pw_below_drewN | apply below_drew1) | exact HB.out)) hb); have n1_ := Aside0.mk (hbox); have n2_ := Aside0.mk ((by rw [hg]; exact (below_size (by repeat (first | (with_reducible first | exact HB.out | apply below_alloc | apply pw_below_drewN | apply below_drew1) | exact HB.out))) : w.heap.size ≤ gb387)); have n3_ := Aside0.mk ((by rw [hg]; exact (below_size (by repeat (first | (with_reducible first | exact HB.out | apply below_alloc | apply pw_below_drewN | apply below_drew1) | exact HB.out))) : w.heap.size ≤ gb387)); clear HB; have HB := n0_; have BK387 := n1_; have GW387 := n2_; have GE387 := n3_; clear n0_ n1_ n2_ n3_; clear hb hbox hg; have hcz47_0 : w46.cell? ⟨gb387, 0, none⟩ = some (.int .i64 0) := (blk_cell BK387.out 0).trans rfl; have hcz47_1 : w46.cell? ⟨gb387, 1, none⟩ = some (.string (⟨#[]⟩ : ByteArray)) := (blk_cell BK387.out 1).trans rfl; have hcz47_2 : w46.cell? ⟨gb387, 2, none⟩ = some (.string (⟨#[]⟩ : ByteArray)) := (blk_cell BK387.out 2).trans rfl; have hfz47_0 := blk_frozen BK387.out 0; have hfz47_1 := blk_frozen BK387.out 1; have hfz47_2 := blk_frozen BK387.out 2))
    refine bodyPost_ret (results_ct rfl _ _ gb387 31 #[.int .i64 0, .string (⟨#[]⟩ : ByteArray), .string (⟨#[]⟩ : ByteArray)] (0, 0) _ rfl (by (with_reducible repeat (first | refine blk_drewN ?_ _ | refine blk_drew ?_ | refine blk_alloc ?_ _)); refine blk_put (cs := #[.int .i64 0, .string (⟨#[]⟩ : ByteArray), .string (⟨#[]⟩ : ByteArray)]) ?_ 2 _ rfl; (with_reducible repeat (first | refine blk_drewN ?_ _ | refine blk_drew ?_ | refine blk_alloc ?_ _)); refine blk_put (cs := #[.int .i64 0, .string (⟨#[]⟩ : ByteArray), .string (⟨#[]⟩ : ByteArray)]) ?_ 1 _ rfl; (with_reducible repeat (first | refine blk_drewN ?_ _ | refine blk_drew ?_ | refine blk_alloc ?_ _)); refine blk_put (cs := #[.int .i64 0, .string (⟨#[]⟩ : ByteArray), .string (⟨#[]⟩ : ByteArray)]) ?_ 0 _ rfl; (with_reducible repeat (first | refine blk_drewN ?_ _ | refine blk_drew ?_ | refine blk_alloc ?_ _)); exact BK387.out) Tryz.underlying31 rfl (by kernel_rfl)) rfl ?_
    exact ⟨by first | rfl | (simp [errW_none, errW_some] <;> rfl) | (simp [*, errW_none, errW_some] <;> rfl), by repeat (first | (with_reducible first | exact HB.out | apply below_alloc | apply pw_below_drewN | apply below_drew1 | refine below_set ?_ GE387.out) | exact HB.out)⟩
  ·rw [if_neg c3] at H
   exact absurd H (by simp)
 ·rw [if_neg c2] at H
  exact absurd H (by simp)

end Go.Proofs.YtjmeekceecpemaaGreatDoor.Q

namespace Go.Proofs.YtjmeekceecpemaaGreatDoor.Q
open Go.RowKit Go.Proofs.YtjmeekceecpemaaGreatDoorW.PrintWords Go.Proofs.YtjmeekceecpemaaGreatDoorW.PrintLast Go.Proofs.YtjmeekceecpemaaGreatDoorW.PrintMore

set_option linter.unusedVariables false
set_option linter.unusedSimpArgs false

/-! ### ean_read: function 80 -/
mutual
def ean_read.j0 : Nat → ByteArray → Int → ByteArray → Option (Int × ByteArray × ByteArray × Int)
 | 0, _, _, _ => none
 | k + 1, x0, x4, x5 => if 3 ≤ (wrap64 (3 + x4)) then (if (wrap64 (3 + x4)) ≤ (x0.size : Int) then ((ean_readDigits.f k (x0.extract 3 ((wrap64 (3 + x4)) : Int).toNat) x5 7).bind fun bt409 => (if 0 ≤ (wrap64 (8 + x4)) then (if (wrap64 (8 + x4)) ≤ (wrap64 ((x0.size : Int) - 3)) then (if (wrap64 ((x0.size : Int) - 3)) ≤ (x0.size : Int) then ((ean_readDigits.f k (x0.extract ((wrap64 (8 + x4)) : Int).toNat ((wrap64 ((x0.size : Int) - 3)) : Int).toNat) (⟨#[67]⟩ : ByteArray) 7).bind fun bt412 => (if bt409.1.size + bt412.1.size ≤ 9223372036854775807 then (if (x0.size : Int) = 95 then ((ean_parity13.f).bind fun t416 => ((slices_Index_string_string.f k t416 bt409.2.1).bind fun t419 => (if t419 < 0 then (some (0, (⟨#[]⟩ : ByteArray), (⟨#[]⟩ : ByteArray), 18)) else ((some (([(wrap64 (48 + t419)) % 256] : List Int) : List Int)).bind fun y420 => (if (strOfNums y420).size + bt409.1.size ≤ 9223372036854775807 then (if ((strOfNums y420) ++ bt409.1).size + bt412.1.size ≤ 9223372036854775807 then (if t419 = 0 then (ean_read.j1 k bt409.2.2 bt412.2.2 3 (bt409.1 ++ bt412.1) (⟨#[]⟩ : ByteArray)) else (ean_read.j1 k bt409.2.2 bt412.2.2 1 (((strOfNums y420) ++ bt409.1) ++ bt412.1) (⟨#[]⟩ : ByteArray))) else (none)) else (none)))))) else (ean_read.j1 k bt409.2.2 bt412.2.2 2 (bt409.1 ++ bt412.1) (⟨#[]⟩ : ByteArray))) else (none))) else (none)) else (none)) else (none))) else (none)) else (none)
def ean_read.j1 : Nat → Bool → Bool → Int → ByteArray → ByteArray → Option (Int × ByteArray × ByteArray × Int)
 | 0, _, _, _, _, _ => none
 | k + 1, x8, x11, x416000, x416001, x416002 => if x8 = true then (ean_read.j2 k (!x11) x416000 x416001 x416002) else (ean_read.j2 k true x416000 x416001 x416002)
def ean_read.j2 : Nat → Bool → Int → ByteArray → ByteArray → Option (Int × ByteArray × ByteArray × Int)
 | 0, _, _, _, _ => none
 | k + 1, x101, x416000, x416001, x416002 => if x101 = true then (some (0, (⟨#[]⟩ : ByteArray), (⟨#[]⟩ : ByteArray), 18)) else ((ean_complete.f k x416000 x416001).bind fun t423 => (if t423 = 0 then (some (x416000, x416001, x416002, 0)) else (some (0, (⟨#[]⟩ : ByteArray), (⟨#[]⟩ : ByteArray), 8))))
end
def ean_read.f (k : Nat) (a0 : ByteArray) : Option (Int × ByteArray × ByteArray × Int) := if (a0.size : Int) = 51 then ((ean_readE.f k a0).bind fun bt405 => (some (bt405.1, bt405.2.1, bt405.2.2.1, bt405.2.2.2))) else (if 0 ≤ 3 then (if 3 ≤ (a0.size : Int) then (if (a0.extract 0 3).toList = ([49, 48, 49] : List UInt8) then (if 0 ≤ (wrap64 ((a0.size : Int) - 3)) then (if (wrap64 ((a0.size : Int) - 3)) ≤ (a0.size : Int) then (if (a0.extract ((wrap64 ((a0.size : Int) - 3)) : Int).toNat a0.size).toList = ([49, 48, 49] : List UInt8) then (if 0 ≤ (wrap64 (3 + (wrap64 (Int.tdiv (wrap64 ((a0.size : Int) - 11)) 2)))) then (if (wrap64 (3 + (wrap64 (Int.tdiv (wrap64 ((a0.size : Int) - 11)) 2)))) ≤ (wrap64 (8 + (wrap64 (Int.tdiv (wrap64 ((a0.size : Int) - 11)) 2)))) then (if (wrap64 (8 + (wrap64 (Int.tdiv (wrap64 ((a0.size : Int) - 11)) 2)))) ≤ (a0.size : Int) then (if (a0.extract ((wrap64 (3 + (wrap64 (Int.tdiv (wrap64 ((a0.size : Int) - 11)) 2)))) : Int).toNat ((wrap64 (8 + (wrap64 (Int.tdiv (wrap64 ((a0.size : Int) - 11)) 2)))) : Int).toNat).toList = ([48, 49, 48, 49, 48] : List UInt8) then (if (a0.size : Int) = 67 then (ean_read.j0 k a0 (wrap64 (Int.tdiv (wrap64 ((a0.size : Int) - 11)) 2)) (⟨#[65]⟩ : ByteArray)) else (ean_read.j0 k a0 (wrap64 (Int.tdiv (wrap64 ((a0.size : Int) - 11)) 2)) (⟨#[65, 66]⟩ : ByteArray))) else (some (0, (⟨#[]⟩ : ByteArray), (⟨#[]⟩ : ByteArray), 18))) else (none)) else (none)) else (none)) else (some (0, (⟨#[]⟩ : ByteArray), (⟨#[]⟩ : ByteArray), 20))) else (none)) else (none)) else (some (0, (⟨#[]⟩ : ByteArray), (⟨#[]⟩ : ByteArray), 19))) else (none)) else (none))
theorem ean_read.mono_l : ∀ k, (∀ y0 y1 y2, LeO (ean_read.j0 k y0 y1 y2) (ean_read.j0 (k + 1) y0 y1 y2)) ∧ (∀ y0 y1 y2 y3 y4, LeO (ean_read.j1 k y0 y1 y2 y3 y4) (ean_read.j1 (k + 1) y0 y1 y2 y3 y4)) ∧ (∀ y0 y1 y2 y3, LeO (ean_read.j2 k y0 y1 y2 y3) (ean_read.j2 (k + 1) y0 y1 y2 y3))
 | 0 => ⟨fun _ _ _ r h => by simp [ean_read.j0] at h, fun _ _ _ _ _ r h => by simp [ean_read.j1] at h, fun _ _ _ _ r h => by simp [ean_read.j2] at h⟩
 | k + 1 => by
  obtain ⟨ih0, ih1, ih2⟩ := ean_read.mono_l k
  refine ⟨?_, ?_, ?_⟩
  ·intro y0 y1 y2
   unfold ean_read.j0
   repeat' first
   | (with_reducible exact ih0 _ _ _)
   | (with_reducible exact ih1 _ _ _ _ _)
   | (with_reducible exact ih2 _ _ _ _)
   | (with_reducible exact ean_complete.mono _ _ _)
   | (with_reducible exact ean_readDigits.mono _ _ _ _)
   | (with_reducible exact ean_readE.mono _ _)
   | (with_reducible exact slices_Index_string_string.mono _ _ _)
   | (with_reducible exact LeO.refl _)
   | (with_reducible exact LeO.none _)
   | (with_reducible refine LeO.ite ?_ ?_)
   | (with_reducible refine LeO.bind ?_ (fun _ => ?_))
   | exact ih0 _ _ _
   | exact ih1 _ _ _ _ _
   | exact ih2 _ _ _ _
   | exact ean_complete.mono _ _ _
   | exact ean_readDigits.mono _ _ _ _
   | exact ean_readE.mono _ _
   | exact slices_Index_string_string.mono _ _ _
   | exact LeO.none _
   | refine LeO.ite ?_ ?_
   | refine LeO.bind ?_ (fun _ => ?_)
  ·intro y0 y1 y2 y3 y4
   unfold ean_read.j1
   repeat' first
   | (with_reducible exact ih0 _ _ _)
   | (with_reducible exact ih1 _ _ _ _ _)
   | (with_reducible exact ih2 _ _ _ _)
   | (with_reducible exact ean_complete.mono _ _ _)
   | (with_reducible exact ean_readDigits.mono _ _ _ _)
   | (with_reducible exact ean_readE.mono _ _)
   | (with_reducible exact slices_Index_string_string.mono _ _ _)
   | (with_reducible exact LeO.refl _)
   | (with_reducible exact LeO.none _)
   | (with_reducible refine LeO.ite ?_ ?_)
   | (with_reducible refine LeO.bind ?_ (fun _ => ?_))
   | exact ih0 _ _ _
   | exact ih1 _ _ _ _ _
   | exact ih2 _ _ _ _
   | exact ean_complete.mono _ _ _
   | exact ean_readDigits.mono _ _ _ _
   | exact ean_readE.mono _ _
   | exact slices_Index_string_string.mono _ _ _
   | exact LeO.none _
   | refine LeO.ite ?_ ?_
   | refine LeO.bind ?_ (fun _ => ?_)
  ·intro y0 y1 y2 y3
   unfold ean_read.j2
   repeat' first
   | (with_reducible exact ih0 _ _ _)
   | (with_reducible exact ih1 _ _ _ _ _)
   | (with_reducible exact ih2 _ _ _ _)
   | (with_reducible exact ean_complete.mono _ _ _)
   | (with_reducible exact ean_readDigits.mono _ _ _ _)
   | (with_reducible exact ean_readE.mono _ _)
   | (with_reducible exact slices_Index_string_string.mono _ _ _)
   | (with_reducible exact LeO.refl _)
   | (with_reducible exact LeO.none _)
   | (with_reducible refine LeO.ite ?_ ?_)
   | (with_reducible refine LeO.bind ?_ (fun _ => ?_))
   | exact ih0 _ _ _
   | exact ih1 _ _ _ _ _
   | exact ih2 _ _ _ _
   | exact ean_complete.mono _ _ _
   | exact ean_readDigits.mono _ _ _ _
   | exact ean_readE.mono _ _
   | exact slices_Index_string_string.mono _ _ _
   | exact LeO.none _
   | refine LeO.ite ?_ ?_
   | refine LeO.bind ?_ (fun _ => ?_)
theorem ean_read.mono : ∀ a0 k, LeO (ean_read.f k a0) (ean_read.f (k + 1) a0) := by
 intro a0 k
 obtain ⟨ih0, ih1, ih2⟩ := ean_read.mono_l k
 unfold ean_read.f
 repeat' first
   | (with_reducible exact ih0 _ _ _)
   | (with_reducible exact ih1 _ _ _ _ _)
   | (with_reducible exact ih2 _ _ _ _)
   | (with_reducible exact ean_complete.mono _ _ _)
   | (with_reducible exact ean_readDigits.mono _ _ _ _)
   | (with_reducible exact ean_readE.mono _ _)
   | (with_reducible exact slices_Index_string_string.mono _ _ _)
   | (with_reducible exact LeO.refl _)
   | (with_reducible exact LeO.none _)
   | (with_reducible refine LeO.ite ?_ ?_)
   | (with_reducible refine LeO.bind ?_ (fun _ => ?_))
   | exact ih0 _ _ _
   | exact ih1 _ _ _ _ _
   | exact ih2 _ _ _ _
   | exact ean_complete.mono _ _ _
   | exact ean_readDigits.mono _ _ _ _
   | exact ean_readE.mono _ _
   | exact slices_Index_string_string.mono _ _ _
   | exact LeO.none _
   | refine LeO.ite ?_ ?_
   | refine LeO.bind ?_ (fun _ => ?_)
set_option maxHeartbeats 8000000 in
set_option maxRecDepth 100000 in
theorem ean_read.calls (k : Nat) (a0 : ByteArray) (r1 : Int) (r2 : ByteArray) (r3 : ByteArray) (r4 : Int) (w : World) (h : ean_read.f k a0 = some (r1, r2, r3, r4)) :
  Calls Tryz.prog 80 #[.string a0] w fun e w' => e = .returned (.tuple #[.agg #[.int .i64 r1, .string r2, .string r3], .int .i64 r4]) ∧ Below w.heap.size w w' := by
 have hu31 := Tryz.underlying31
 have HB := Aside0.mk (Below.refl w.heap.size w)
 have H : (if (a0.size : Int) = 51 then ((ean_readE.f k a0).bind fun bt405 => (some (bt405.1, bt405.2.1, bt405.2.2.1, bt405.2.2.2))) else (if 0 ≤ 3 then (if 3 ≤ (a0.size : Int) then (if (a0.extract 0 3).toList = ([49, 48, 49] : List UInt8) then (if 0 ≤ (wrap64 ((a0.size : Int) - 3)) then (if (wrap64 ((a0.size : Int) - 3)) ≤ (a0.size : Int) then (if (a0.extract ((wrap64 ((a0.size : Int) - 3)) : Int).toNat a0.size).toList = ([49, 48, 49] : List UInt8) then (if 0 ≤ (wrap64 (3 + (wrap64 (Int.tdiv (wrap64 ((a0.size : Int) - 11)) 2)))) then (if (wrap64 (3 + (wrap64 (Int.tdiv (wrap64 ((a0.size : Int) - 11)) 2)))) ≤ (wrap64 (8 + (wrap64 (Int.tdiv (wrap64 ((a0.size : Int) - 11)) 2)))) then (if (wrap64 (8 + (wrap64 (Int.tdiv (wrap64 ((a0.size : Int) - 11)) 2)))) ≤ (a0.size : Int) then (if (a0.extract ((wrap64 (3 + (wrap64 (Int.tdiv (wrap64 ((a0.size : Int) - 11)) 2)))) : Int).toNat ((wrap64 (8 + (wrap64 (Int.tdiv (wrap64 ((a0.size : Int) - 11)) 2)))) : Int).toNat).toList = ([48, 49, 48, 49, 48] : List UInt8) then (if (a0.size : Int) = 67 then (ean_read.j0 k a0 (wrap64 (Int.tdiv (wrap64 ((a0.size : Int) - 11)) 2)) (⟨#[65]⟩ : ByteArray)) else (ean_read.j0 k a0 (wrap64 (Int.tdiv (wrap64 ((a0.size : Int) - 11)) 2)) (⟨#[65, 66]⟩ : ByteArray))) else (some (0, (⟨#[]⟩ : ByteArray), (⟨#[]⟩ : ByteArray), 18))) else (none)) else (none)) else (none)) else (some (0, (⟨#[]⟩ : ByteArray), (⟨#[]⟩ : ByteArray), 20))) else (none)) else (none)) else (some (0, (⟨#[]⟩ : ByteArray), (⟨#[]⟩ : ByteArray), 19))) else (none)) else (none))) = some (r1, r2, r3, r4) := h
 clear h
 by_cases c2 : (a0.size : Int) = 51
 ·rw [if_pos c2] at H
  have c2b0 : ((a0.size : Int) == 51) = true := beq_iff_eq.mpr c2
  have c2b1 : ((a0.size : Int) != 51) = false := bne_eq_false_iff_eq.mpr c2
  clear c2
  replace H := Option.bind_eq_some_iff.mp H
  obtain ⟨⟨t405, t406, t407, t408⟩, A30, H⟩ := H
  replace H : (some (t405, t406, t407, t408)) = some (r1, r2, r3, r4) := H
  have A3 := Aside0.mk A30
  clear A30
  simp only [Option.some.injEq, Prod.mk.injEq] at H
  obtain ⟨rfl, rfl, rfl, rfl⟩ := H
  go_enter Tryz.func80, Tryz.ntmps80
  go_wp2_with (first | ((with_reducible refine gate_dst (N := 2) rfl ?_); refine box_event ?hg (N := 2) ?hd (cs := #[.int .i64 0, .string (⟨#[]⟩ : ByteArray), .string (⟨#[]⟩ : ByteArray)]) (t := 31) ?hr ?_; (case hd => rfl); (case hg => rfl); (case hr => first | (go_simp; done) | (go_simp; rfl)); intro gb404 hg w4 hbox hb; have n0_ := Aside0.mk (below_step (by repeat (first | (with_reducible first | exact HB.out | apply below_alloc | apply pw_below_drewN | apply below_drew1) | exact HB.out)) hb); have n1_ := Aside0.mk (hbox); have n2_ := Aside0.mk ((by rw [hg]; exact (below_size (by repeat (first | (with_reducible first | exact HB.out | apply below_alloc | apply pw_below_drewN | apply below_drew1) | exact HB.out))) : w.heap.size ≤ gb404)); have n3_ := Aside0.mk ((by rw [hg]; exact (below_size (by repeat (first | (with_reducible first | exact HB.out | apply below_alloc | apply pw_below_drewN | apply below_drew1) | exact HB.out))) : w.heap.size ≤ gb404)); clear HB; have HB := n0_; have BK404 := n1_; have GW404 := n2_; have GE404 := n3_; clear n0_ n1_ n2_ n3_; clear hb hbox hg) | ((with_reducible refine gate_callee (f := 105) rfl ?_); refine goesL_ (some 18) rfl rfl Tryz.func105 (by kernel_rfl) rfl #[.string a0] rfl (by (try simp only [List.map_toArray, List.map_cons, List.map_nil]); first | done | rfl | (simp only [List.length_drop, List.length_take]; rfl)) ?_; (with_reducible refine (ean_readE.calls k a0 t405 t406 t407 t408 _ A3.out).mono ?_); rintro e w5 ⟨rfl, hb⟩; refine ⟨_, rfl, ?_⟩; have n0_ := Aside0.mk (blk_below (g := gb404) (o := .cells #[.int .i64 0, .string (⟨#[]⟩ : ByteArray), .string (⟨#[]⟩ : ByteArray)] 31 (0, 0)) (by (with_reducible repeat (first | refine blk_drewN ?_ _ | refine blk_drew ?_ | refine blk_alloc ?_ _)); exact BK404.out) hb); have n1_ := Aside0.mk (below_step (by repeat (first | (with_reducible first | exact HB.out | apply below_alloc | apply pw_below_drewN | apply below_drew1 | refine below_set ?_ GE404.out) | exact HB.out)) hb); clear BK404; clear HB; have BK404 := n0_; have HB := n1_; clear n0_ n1_; (try clear hb); (try clear hb2); (try clear hk); (try clear hi); have hcz6_0 : w5.cell? ⟨gb404, 0, none⟩ = some (.int .i64 0) := (blk_cell BK404.out 0).trans rfl; have hcz6_1 : w5.cell? ⟨gb404, 1, none⟩ = some (.string (⟨#[]⟩ : ByteArray)) := (blk_cell BK404.out 1).trans rfl; have hcz6_2 : w5.cell? ⟨gb404, 2, none⟩ = some (.string (⟨#[]⟩ : ByteArray)) := (blk_cell BK404.out 2).trans rfl; have hfz6_0 := blk_frozen BK404.out 0; have hfz6_1 := blk_frozen BK404.out 1; have hfz6_2 := blk_frozen BK404.out 2))
  refine bodyPost_ret (results_ct rfl _ _ gb404 31 #[.int .i64 t405, .string t406, .string t407] (0, 0) _ rfl (by (with_reducible repeat (first | refine blk_drewN ?_ _ | refine blk_drew ?_ | refine blk_alloc ?_ _)); refine blk_put (cs := #[.int .i64 t405, .string t406, .string (⟨#[]⟩ : ByteArray)]) ?_ 2 _ rfl; (with_reducible repeat (first | refine blk_drewN ?_ _ | refine blk_drew ?_ | refine blk_alloc ?_ _)); refine blk_put (cs := #[.int .i64 t405, .string (⟨#[]⟩ : ByteArray), .string (⟨#[]⟩ : ByteArray)]) ?_ 1 _ rfl; (with_reducible repeat (first | refine blk_drewN ?_ _ | refine blk_drew ?_ | refine blk_alloc ?_ _)); refine blk_put (cs := #[.int .i64 0, .string (⟨#[]⟩ : ByteArray), .string (⟨#[]⟩ : ByteArray)]) ?_ 0 _ rfl; (with_reducible repeat (first | refine blk_drewN ?_ _ | refine blk_drew ?_ | refine blk_alloc ?_ _)); exact BK404.out) Tryz.underlying31 rfl (by kernel_rfl)) rfl ?_
  exact ⟨by first | rfl | (simp [errW_none, errW_some] <;> rfl) | (simp [*, errW_none, errW_some] <;> rfl), by repeat (first | (with_reducible first | exact HB.out | apply below_alloc | apply pw_below_drewN | apply below_drew1 | refine below_set ?_ GE404.out) | exact HB.out)⟩
 ·rw [if_neg c2] at H
  have c2b0 : ((a0.size : Int) == 51) = false := beq_eq_false_iff_ne.mpr c2
  have c2b1 : ((a0.size : Int) != 51) = true := bne_iff_ne.mpr c2
  by_cases c7 : 0 ≤ 3
  ·rw [if_pos c7] at H
   have c7b0 := eq_true c7
   have c7b1 : decide (0 ≤ 3) = true := decide_eq_true c7
   clear c7
   by_cases c8 : 3 ≤ (a0.size : Int)
   ·rw [if_pos c8] at H
    have c8b0 := eq_true c8
    have c8b1 : decide (3 ≤ (a0.size : Int)) = true := decide_eq_true c8
    clear c8
    by_cases c9 : (a0.extract 0 3).toList = ([49, 48, 49] : List UInt8)
    ·rw [if_pos c9] at H
     have c9b0 : ((a0.extract 0 3).toList == ([49, 48, 49] : List UInt8)) = true := beq_iff_eq.mpr c9
     have c9b1 : ((a0.extract 0 3).toList != ([49, 48, 49] : List UInt8)) = false := bne_eq_false_iff_eq.mpr c9
     clear c9
     obtain ⟨ji10, hji10⟩ : ∃ j_ : Int, (wrap64 ((a0.size : Int) - 3)) = j_ := ⟨_, rfl⟩
     replace H : (if 0 ≤ (ji10) then (if (ji10) ≤ (a0.size : Int) then (if (a0.extract ((ji10) : Int).toNat a0.size).toList = ([49, 48, 49] : List UInt8) then (if 0 ≤ (wrap64 (3 + (wrap64 (Int.tdiv (wrap64 ((a0.size : Int) - 11)) 2)))) then (if (wrap64 (3 + (wrap64 (Int.tdiv (wrap64 ((a0.size : Int) - 11)) 2)))) ≤ (wrap64 (8 + (wrap64 (Int.tdiv (wrap64 ((a0.size : Int) - 11)) 2)))) then (if (wrap64 (8 + (wrap64 (Int.tdiv (wrap64 ((a0.size : Int) - 11)) 2)))) ≤ (a0.size : Int) then (if (a0.extract ((wrap64 (3 + (wrap64 (Int.tdiv (wrap64 ((a0.size : Int) - 11)) 2)))) : Int).toNat ((wrap64 (8 + (wrap64 (Int.tdiv (wrap64 ((a0.size : Int) - 11)) 2)))) : Int).toNat).toList = ([48, 49, 48, 49, 48] : List UInt8) then (if (a0.size : Int) = 67 then (ean_read.j0 k a0 (wrap64 (Int.tdiv (wrap64 ((a0.size : Int) - 11)) 2)) (⟨#[65]⟩ : ByteArray)) else (ean_read.j0 k a0 (wrap64 (Int.tdiv (wrap64 ((a0.size : Int) - 11)) 2)) (⟨#[65, 66]⟩ : ByteArray))) else (some (0, (⟨#[]⟩ : ByteArray), (⟨#[]⟩ : ByteArray), 18))) else (none)) else (none)) else (none)) else (some (0, (⟨#[]⟩ : ByteArray), (⟨#[]⟩ : ByteArray), 20))) else (none)) else (none)) = some (r1, r2, r3, r4) := by first | (rw [hji10] at H; exact H) | (simp only [hji10] at H ⊢; exact H)
     have hji10w : (IntKind.i64.wrap ((a0.size : Int) - 3)) = ji10 := (i64_w _).trans hji10
     by_cases c11 : 0 ≤ (ji10)
     ·rw [if_pos c11] at H
      have c11b0 := eq_true c11
      have c11b1 : decide (0 ≤ (ji10)) = true := decide_eq_true c11
      clear c11
      by_cases c12 : (ji10) ≤ (a0.size : Int)
      ·rw [if_pos c12] at H
       have c12b0 := eq_true c12
       have c12b1 : decide ((ji10) ≤ (a0.size : Int)) = true := decide_eq_true c12
       clear c12
       by_cases c13 : (a0.extract ((ji10) : Int).toNat a0.size).toList = ([49, 48, 49] : List UInt8)
       ·rw [if_pos c13] at H
        have c13b0 : ((a0.extract ((ji10) : Int).toNat a0.size).toList == ([49, 48, 49] : List UInt8)) = true := beq_iff_eq.mpr c13
        have c13b1 : ((a0.extract ((ji10) : Int).toNat a0.size).toList != ([49, 48, 49] : List UInt8)) = false := bne_eq_false_iff_eq.mpr c13
        clear c13
        obtain ⟨ji14, hji14⟩ : ∃ j_ : Int, (wrap64 (3 + (wrap64 (Int.tdiv (wrap64 ((a0.size : Int) - 11)) 2)))) = j_ := ⟨_, rfl⟩
        replace H : (if 0 ≤ (ji14) then (if (ji14) ≤ (wrap64 (8 + (wrap64 (Int.tdiv (wrap64 ((a0.size : Int) - 11)) 2)))) then (if (wrap64 (8 + (wrap64 (Int.tdiv (wrap64 ((a0.size : Int) - 11)) 2)))) ≤ (a0.size : Int) then (if (a0.extract ((ji14) : Int).toNat ((wrap64 (8 + (wrap64 (Int.tdiv (wrap64 ((a0.size : Int) - 11)) 2)))) : Int).toNat).toList = ([48, 49, 48, 49, 48] : List UInt8) then (if (a0.size : Int) = 67 then (ean_read.j0 k a0 (wrap64 (Int.tdiv (wrap64 ((a0.size : Int) - 11)) 2)) (⟨#[65]⟩ : ByteArray)) else (ean_read.j0 k a0 (wrap64 (Int.tdiv (wrap64 ((a0.size : Int) - 11)) 2)) (⟨#[65, 66]⟩ : ByteArray))) else (some (0, (⟨#[]⟩ : ByteArray), (⟨#[]⟩ : ByteArray), 18))) else (none)) else (none)) else (none)) = some (r1, r2, r3, r4) := by first | (rw [hji14] at H; exact H) | (simp only [hji14] at H ⊢; exact H)
        have hji14w : (IntKind.i64.wrap (3 + (wrap64 (Int.tdiv (wrap64 ((a0.size : Int) - 11)) 2)))) = ji14 := (i64_w _).trans hji14
        by_cases c15 : 0 ≤ (ji14)
        ·rw [if_pos c15] at H
         have c15b0 := eq_true c15
         have c15b1 : decide (0 ≤ (ji14)) = true := decide_eq_true c15
         clear c15
         by_cases c16 : (ji14) ≤ (wrap64 (8 + (wrap64 (Int.tdiv (wrap64 ((a0.size : Int) - 11)) 2))))
         ·rw [if_pos c16] at H
          have c16b0 := eq_true c16
          have c16b1 : decide ((ji14) ≤ (wrap64 (8 + (wrap64 (Int.tdiv (wrap64 ((a0.size : Int) - 11)) 2))))) = true := decide_eq_true c16
          by_cases c17 : (wrap64 (8 + (wrap64 (Int.tdiv (wrap64 ((a0.size : Int) - 11)) 2)))) ≤ (a0.size : Int)
          ·rw [if_pos c17] at H
           have c17b0 := eq_true c17
           have c17b1 : decide ((wrap64 (8 + (wrap64 (Int.tdiv (wrap64 ((a0.size : Int) - 11)) 2)))) ≤ (a0.size : Int)) = true := decide_eq_true c17
           by_cases c18 : (a0.extract ((ji14) : Int).toNat ((wrap64 (8 + (wrap64 (Int.tdiv (wrap64 ((a0.size : Int) - 11)) 2)))) : Int).toNat).toList = ([48, 49, 48, 49, 48] : List UInt8)
           ·rw [if_pos c18] at H
            have c18b0 : ((a0.extract ((ji14) : Int).toNat ((wrap64 (8 + (wrap64 (Int.tdiv (wrap64 ((a0.size : Int) - 11)) 2)))) : Int).toNat).toList == ([48, 49, 48, 49, 48] : List UInt8)) = true := beq_iff_eq.mpr c18
            have c18b1 : ((a0.extract ((ji14) : Int).toNat ((wrap64 (8 + (wrap64 (Int.tdiv (wrap64 ((a0.size : Int) - 11)) 2)))) : Int).toNat).toList != ([48, 49, 48, 49, 48] : List UInt8)) = false := bne_eq_false_iff_eq.mpr c18
            clear c18
            have HC19 := Aside0.mk H
            clear H
            go_enter Tryz.func80, Tryz.ntmps80
            go_upto_if 49 with (first | ((with_reducible refine gate_dst (N := 2) rfl ?_); refine box_event ?hg (N := 2) ?hd (cs := #[.int .i64 0, .string (⟨#[]⟩ : ByteArray), .string (⟨#[]⟩ : ByteArray)]) (t := 31) ?hr ?_; (case hd => rfl); (case hg => rfl); (case hr => first | (go_simp; done) | (go_simp; rfl)); intro gb404 hg w20 hbox hb; have n0_ := Aside0.mk (below_step (by repeat (first | (with_reducible first | exact HB.out | apply below_alloc | apply pw_below_drewN | apply below_drew1) | exact HB.out)) hb); have n1_ := Aside0.mk (hbox); have n2_ := Aside0.mk ((by rw [hg]; exact (below_size (by repeat (first | (with_reducible first | exact HB.out | apply below_alloc | apply pw_below_drewN | apply below_drew1) | exact HB.out))) : w.heap.size ≤ gb404)); have n3_ := Aside0.mk ((by rw [hg]; exact (below_size (by repeat (first | (with_reducible first | exact HB.out | apply below_alloc | apply pw_below_drewN | apply below_drew1) | exact HB.out))) : w.heap.size ≤ gb404)); clear HB; have HB := n0_; have BK404 := n1_; have GW404 := n2_; have GE404 := n3_; clear n0_ n1_ n2_ n3_; clear hb hbox hg))
            (try simp only [Act.put, List.setIfInBounds_toArray, List.set_cons_zero, List.set_cons_succ])
            go_cut [5] (fun v5 wc => ∃ (kq : Nat) (x5_18 : ByteArray), v5 = .string x5_18 ∧ Aside0 (ean_read.j0 kq a0 (wrap64 (Int.tdiv (wrap64 ((a0.size : Int) - 11)) 2)) x5_18 = some (r1, r2, r3, r4)) ∧ Aside0 (kq ≤ k) ∧ Aside0 (wc.heap[gb404]? = some (.cells #[.int .i64 0, .string (⟨#[]⟩ : ByteArray), .string (⟨#[]⟩ : ByteArray)] 31 (0, 0))) ∧ Aside0 (Below w.heap.size w wc))
            case first =>
             have H := HC19.out
             clear HC19
             by_cases c21 : (a0.size : Int) = 67
             ·rw [if_pos c21] at H
              have c21b0 : ((a0.size : Int) == 67) = true := beq_iff_eq.mpr c21
              have c21b1 : ((a0.size : Int) != 67) = false := bne_eq_false_iff_eq.mpr c21
              clear c21
              (first | rw [c21b0] | (simp only [i64_w]; rw [c21b0]) | skip)
              have H' := Aside0.mk H
              clear H
              go_wp2
              go_meet
              case rel => exact ⟨_, ((⟨#[65]⟩ : ByteArray)), (by first | rfl | (simp; done) | (simp [*]; done)), H', ⟨by first | omega | exact Nat.le_refl _⟩, ⟨by (with_reducible repeat (first | refine blk_drewN ?_ _ | refine blk_drew ?_ | refine blk_alloc ?_ _)); exact BK404.out⟩, ⟨by repeat (first | (with_reducible first | exact HB.out | apply below_alloc | apply pw_below_drewN | apply below_drew1 | refine below_set ?_ GE404.out) | exact HB.out)⟩⟩
             ·rw [if_neg c21] at H
              have c21b0 : ((a0.size : Int) == 67) = false := beq_eq_false_iff_ne.mpr c21
              have c21b1 : ((a0.size : Int) != 67) = true := bne_iff_ne.mpr c21
              (first | rw [c21b0] | (simp only [i64_w]; rw [c21b0]) | skip)
              have H' := Aside0.mk H
              clear H
              go_wp2
              go_meet
              case rel => exact ⟨_, ((⟨#[65, 66]⟩ : ByteArray)), (by first | rfl | (simp; done) | (simp [*]; done)), H', ⟨by first | omega | exact Nat.le_refl _⟩, ⟨by (with_reducible repeat (first | refine blk_drewN ?_ _ | refine blk_drew ?_ | refine blk_alloc ?_ _)); exact BK404.out⟩, ⟨by repeat (first | (with_reducible first | exact HB.out | apply below_alloc | apply pw_below_drewN | apply below_drew1 | refine below_set ?_ GE404.out) | exact HB.out)⟩⟩
            case rest =>
             clear HC19
             obtain ⟨kq, x5_18, rfl, HA, HJ18, BK404, HB⟩ := hcut
             cases kq with
             | zero => exact absurd HA.out (by simp [ean_read.j0])
             | succ kj18 =>
              have H := HA.out
              clear HA
              simp only [ean_read.j0] at H
              simp only [hji14, hji10] at H
              by_cases c22 : 3 ≤ (ji14)
              ·rw [if_pos c22] at H
               have c22b0 := eq_true c22
               have c22b1 : decide (3 ≤ (ji14)) = true := decide_eq_true c22
               by_cases c23 : (ji14) ≤ (a0.size : Int)
               ·rw [if_pos c23] at H
                have c23b0 := eq_true c23
                have c23b1 : decide ((ji14) ≤ (a0.size : Int)) = true := decide_eq_true c23
                replace H := Option.bind_eq_some_iff.mp H
                obtain ⟨⟨t409, t410, t411⟩, A240, H⟩ := H
                replace H : (if 0 ≤ (wrap64 (8 + (wrap64 (Int.tdiv (wrap64 ((a0.size : Int) - 11)) 2)))) then (if (wrap64 (8 + (wrap64 (Int.tdiv (wrap64 ((a0.size : Int) - 11)) 2)))) ≤ (ji10) then (if (ji10) ≤ (a0.size : Int) then ((ean_readDigits.f kj18 (a0.extract ((wrap64 (8 + (wrap64 (Int.tdiv (wrap64 ((a0.size : Int) - 11)) 2)))) : Int).toNat ((ji10) : Int).toNat) (⟨#[67]⟩ : ByteArray) 7).bind fun bt412 => (if t409.size + bt412.1.size ≤ 9223372036854775807 then (if (a0.size : Int) = 95 then ((ean_parity13.f).bind fun t416 => ((slices_Index_string_string.f kj18 t416 t410).bind fun t419 => (if t419 < 0 then (some (0, (⟨#[]⟩ : ByteArray), (⟨#[]⟩ : ByteArray), 18)) else ((some (([(wrap64 (48 + t419)) % 256] : List Int) : List Int)).bind fun y420 => (if (strOfNums y420).size + t409.size ≤ 9223372036854775807 then (if ((strOfNums y420) ++ t409).size + bt412.1.size ≤ 9223372036854775807 then (if t419 = 0 then (ean_read.j1 kj18 t411 bt412.2.2 3 (t409 ++ bt412.1) (⟨#[]⟩ : ByteArray)) else (ean_read.j1 kj18 t411 bt412.2.2 1 (((strOfNums y420) ++ t409) ++ bt412.1) (⟨#[]⟩ : ByteArray))) else (none)) else (none)))))) else (ean_read.j1 kj18 t411 bt412.2.2 2 (t409 ++ bt412.1) (⟨#[]⟩ : ByteArray))) else (none))) else (none)) else (none)) else (none)) = some (r1, r2, r3, r4) := H
                have A24 := Aside0.mk A240
                clear A240
                obtain ⟨ji25, hji25⟩ : ∃ j_ : Int, (wrap64 (8 + (wrap64 (Int.tdiv (wrap64 ((a0.size : Int) - 11)) 2)))) = j_ := ⟨_, rfl⟩
                replace H : (if 0 ≤ (ji25) then (if (ji25) ≤ (ji10) then (if (ji10) ≤ (a0.size : Int) then ((ean_readDigits.f kj18 (a0.extract ((ji25) : Int).toNat ((ji10) : Int).toNat) (⟨#[67]⟩ : ByteArray) 7).bind fun bt412 => (if t409.size + bt412.1.size ≤ 9223372036854775807 then (if (a0.size : Int) = 95 then ((ean_parity13.f).bind fun t416 => ((slices_Index_string_string.f kj18 t416 t410).bind fun t419 => (if t419 < 0 then (some (0, (⟨#[]⟩ : ByteArray), (⟨#[]⟩ : ByteArray), 18)) else ((some (([(wrap64 (48 + t419)) % 256] : List Int) : List Int)).bind fun y420 => (if (strOfNums y420).size + t409.size ≤ 9223372036854775807 then (if ((strOfNums y420) ++ t409).size + bt412.1.size ≤ 9223372036854775807 then (if t419 = 0 then (ean_read.j1 kj18 t411 bt412.2.2 3 (t409 ++ bt412.1) (⟨#[]⟩ : ByteArray)) else (ean_read.j1 kj18 t411 bt412.2.2 1 (((strOfNums y420) ++ t409) ++ bt412.1) (⟨#[]⟩ : ByteArray))) else (none)) else (none)))))) else (ean_read.j1 kj18 t411 bt412.2.2 2 (t409 ++ bt412.1) (⟨#[]⟩ : ByteArray))) else (none))) else (none)) else (none)) else (none)) = some (r1, r2, r3, r4) := by first | (rw [hji25] at H; exact H) | (simp only [hji25] at H ⊢; exact H)
                (try rw [hji25] at c16b0)
                (try rw [hji25] at c16b1)
                (try rw [hji25] at c16)
                (try rw [hji25] at c17b0)
                (try rw [hji25] at c17b1)
                (try rw [hji25] at c17)
                (try rw [hji25] at c18b0)
                (try rw [hji25] at c18b1)
                (try rw [hji25] at A24)
                have hji25w : (IntKind.i64.wrap (8 + (wrap64 (Int.tdiv (wrap64 ((a0.size : Int) - 11)) 2)))) = ji25 := (i64_w _).trans hji25
                by_cases c26 : 0 ≤ (ji25)
                ·rw [if_pos c26] at H
                 have c26b0 := eq_true c26
                 have c26b1 : decide (0 ≤ (ji25)) = true := decide_eq_true c26
                 clear c26
                 by_cases c27 : (ji25) ≤ (ji10)
                 ·rw [if_pos c27] at H
                  have c27b0 := eq_true c27
                  have c27b1 : decide ((ji25) ≤ (ji10)) = true := decide_eq_true c27
                  clear c27
                  by_cases c28 : (ji10) ≤ (a0.size : Int)
                  ·rw [if_pos c28] at H
                   have c28b0 := eq_true c28
                   have c28b1 : decide ((ji10) ≤ (a0.size : Int)) = true := decide_eq_true c28
                   clear c28
                   replace H := Option.bind_eq_some_iff.mp H
                   obtain ⟨⟨t412, t413, t414⟩, A290, H⟩ := H
                   replace H : (if t409.size + t412.size ≤ 9223372036854775807 then (if (a0.size : Int) = 95 then ((ean_parity13.f).bind fun t416 => ((slices_Index_string_string.f kj18 t416 t410).bind fun t419 => (if t419 < 0 then (some (0, (⟨#[]⟩ : ByteArray), (⟨#[]⟩ : ByteArray), 18)) else ((some (([(wrap64 (48 + t419)) % 256] : List Int) : List Int)).bind fun y420 => (if (strOfNums y420).size + t409.size ≤ 9223372036854775807 then (if ((strOfNums y420) ++ t409).size + t412.size ≤ 9223372036854775807 then (if t419 = 0 then (ean_read.j1 kj18 t411 t414 3 (t409 ++ t412) (⟨#[]⟩ : ByteArray)) else (ean_read.j1 kj18 t411 t414 1 (((strOfNums y420) ++ t409) ++ t412) (⟨#[]⟩ : ByteArray))) else (none)) else (none)))))) else (ean_read.j1 kj18 t411 t414 2 (t409 ++ t412) (⟨#[]⟩ : ByteArray))) else (none)) = some (r1, r2, r3, r4) := H
                   have A29 := Aside0.mk A290
                   clear A290
                   by_cases c30 : t409.size + t412.size ≤ 9223372036854775807
                   ·rw [if_pos c30] at H
                    have c30b0 := eq_true c30
                    have c30b1 : decide (t409.size + t412.size ≤ 9223372036854775807) = true := decide_eq_true c30
                    have HC31 := Aside0.mk H
                    clear H
                    go_upto_if 78 with (first | ((with_reducible refine gate_callee (f := 106) rfl ?_); refine goesL_ (some 56) rfl rfl Tryz.func106 (by kernel_rfl) rfl #[.string (a0.extract 3 ((ji14) : Int).toNat), .string x5_18, .int .i64 7] rfl (by (try simp only [List.map_toArray, List.map_cons, List.map_nil]); first | done | rfl | (simp only [List.length_drop, List.length_take]; rfl)) ?_; (with_reducible refine (ean_readDigits.calls kj18 (a0.extract 3 ((ji14) : Int).toNat) x5_18 7 t409 t410 t411 _ A24.out).mono ?_); rintro e w32 ⟨rfl, hb⟩; refine ⟨_, rfl, ?_⟩; have n0_ := Aside0.mk (blk_below (g := gb404) (o := .cells #[.int .i64 0, .string (⟨#[]⟩ : ByteArray), .string (⟨#[]⟩ : ByteArray)] 31 (0, 0)) (by (with_reducible repeat (first | refine blk_drewN ?_ _ | refine blk_drew ?_ | refine blk_alloc ?_ _)); exact BK404.out) hb); have n1_ := Aside0.mk (below_step (by repeat (first | (with_reducible first | exact HB.out | apply below_alloc | apply pw_below_drewN | apply below_drew1 | refine below_set ?_ GE404.out) | exact HB.out)) hb); clear BK404; clear HB; have BK404 := n0_; have HB := n1_; clear n0_ n1_; (try clear hb); (try clear hb2); (try clear hk); (try clear hi)) | ((with_reducible refine gate_callee (f := 106) rfl ?_); refine goesL_ (some 68) rfl rfl Tryz.func106 (by kernel_rfl) rfl #[.string (a0.extract ((ji25) : Int).toNat ((ji10) : Int).toNat), .string (⟨#[67]⟩ : ByteArray), .int .i64 7] rfl (by (try simp only [List.map_toArray, List.map_cons, List.map_nil]); first | done | (simp only [hji25]; rfl) | rfl | (simp only [List.length_drop, List.length_take]; rfl)) ?_; (with_reducible refine (ean_readDigits.calls kj18 (a0.extract ((ji25) : Int).toNat ((ji10) : Int).toNat) (⟨#[67]⟩ : ByteArray) 7 t412 t413 t414 _ A29.out).mono ?_); rintro e w33 ⟨rfl, hb⟩; refine ⟨_, rfl, ?_⟩; have n0_ := Aside0.mk (blk_below (g := gb404) (o := .cells #[.int .i64 0, .string (⟨#[]⟩ : ByteArray), .string (⟨#[]⟩ : ByteArray)] 31 (0, 0)) (by (with_reducible repeat (first | refine blk_drewN ?_ _ | refine blk_drew ?_ | refine blk_alloc ?_ _)); exact BK404.out) hb); have n1_ := Aside0.mk (below_step (by repeat (first | (with_reducible first | exact HB.out | apply below_alloc | apply pw_below_drewN | apply below_drew1 | refine below_set ?_ GE404.out) | exact HB.out)) hb); clear BK404; clear HB; have BK404 := n0_; have HB := n1_; clear n0_ n1_; (try clear hb); (try clear hb2); (try clear hk); (try clear hi)) | ((with_reducible refine gate_dst (N := 12) rfl ?_); refine box_event ?hg (N := 12) ?hd (cs := #[.int .i64 0, .string (⟨#[]⟩ : ByteArray), .string (⟨#[]⟩ : ByteArray)]) (t := 31) ?hr ?_; (case hd => rfl); (case hg => rfl); (case hr => first | (go_simp; done) | (go_simp; rfl)); intro gb415 hg w34 hbox hb; have n0_ := Aside0.mk (blk_below (g := gb404) (o := .cells #[.int .i64 0, .string (⟨#[]⟩ : ByteArray), .string (⟨#[]⟩ : ByteArray)] 31 (0, 0)) (by (with_reducible repeat (first | refine blk_drewN ?_ _ | refine blk_drew ?_ | refine blk_alloc ?_ _)); exact BK404.out) hb); have n1_ := Aside0.mk (below_step (by repeat (first | (with_reducible first | exact HB.out | apply below_alloc | apply pw_below_drewN | apply below_drew1 | refine below_set ?_ GE404.out) | exact HB.out)) hb); have n2_ := Aside0.mk (hbox); have n3_ := Aside0.mk ((by rw [hg]; exact (below_size (by repeat (first | (with_reducible first | exact HB.out | apply below_alloc | apply pw_below_drewN | apply below_drew1 | refine below_set ?_ GE404.out) | exact HB.out))) : w.heap.size ≤ gb415)); have n4_ := Aside0.mk ((by rw [hg]; exact (below_size (by repeat (first | (with_reducible first | exact HB.out | apply below_alloc | apply pw_below_drewN | apply below_drew1 | refine below_set ?_ GE404.out) | exact HB.out))) : w.heap.size ≤ gb415)); have n5_ := Aside0.mk ((by rw [hg]; exact Nat.ne_of_lt (blk_lt (g := gb404) (o := .cells #[.int .i64 0, .string (⟨#[]⟩ : ByteArray), .string (⟨#[]⟩ : ByteArray)] 31 (0, 0)) (by (with_reducible repeat (first | refine blk_drewN ?_ _ | refine blk_drew ?_ | refine blk_alloc ?_ _)); exact BK404.out)) : gb404 ≠ gb415)); have n6_ := Aside0.mk ((by rw [hg]; exact Nat.ne_of_gt (blk_lt (g := gb404) (o := .cells #[.int .i64 0, .string (⟨#[]⟩ : ByteArray), .string (⟨#[]⟩ : ByteArray)] 31 (0, 0)) (by (with_reducible repeat (first | refine blk_drewN ?_ _ | refine blk_drew ?_ | refine blk_alloc ?_ _)); exact BK404.out)) : gb415 ≠ gb404)); clear BK404; clear HB; have BK404 := n0_; have HB := n1_; have BK415 := n2_; have GW415 := n3_; have GE415 := n4_; have NB404_415 := n5_; have NB415_404 := n6_; clear n0_ n1_ n2_ n3_ n4_ n5_ n6_; clear hb hbox hg; have hnb35 := NB415_404.out; have hnc35 := NB404_415.out; have hcz36_0 : w34.cell? ⟨gb415, 0, none⟩ = some (.int .i64 0) := (blk_cell BK415.out 0).trans rfl; have hcz36_1 : w34.cell? ⟨gb415, 1, none⟩ = some (.string (⟨#[]⟩ : ByteArray)) := (blk_cell BK415.out 1).trans rfl; have hcz36_2 : w34.cell? ⟨gb415, 2, none⟩ = some (.string (⟨#[]⟩ : ByteArray)) := (blk_cell BK415.out 2).trans rfl; have hfz36_0 := blk_frozen BK415.out 0; have hfz36_1 := blk_frozen BK415.out 1; have hfz36_2 := blk_frozen BK415.out 2))
                    (try simp only [Act.put, List.setIfInBounds_toArray, List.set_cons_zero, List.set_cons_succ])
                    go_cut [] (fun wc => ∃ (kq : Nat) (x405000_30 : Int) (x405001_30 : ByteArray) (x405002_30 : ByteArray) (x416000_30 : Int) (x416001_30 : ByteArray) (x416002_30 : ByteArray), Aside0 (ean_read.j1 kq t411 t414 x416000_30 x416001_30 x416002_30 = some (r1, r2, r3, r4)) ∧ Aside0 (kq ≤ kj18) ∧ Aside0 (wc.heap[gb404]? = some (.cells #[.int .i64 x405000_30, .string x405001_30, .string x405002_30] 31 (0, 0))) ∧ Aside0 (wc.heap[gb415]? = some (.cells #[.int .i64 x416000_30, .string x416001_30, .string x416002_30] 31 (0, 0))) ∧ Aside0 (Below w.heap.size w wc))
                    case first =>
                     have H := HC31.out
                     clear HC31
                     by_cases c37 : (a0.size : Int) = 95
                     ·rw [if_pos c37] at H
                      have c37b0 : ((a0.size : Int) == 95) = true := beq_iff_eq.mpr c37
                      have c37b1 : ((a0.size : Int) != 95) = false := bne_eq_false_iff_eq.mpr c37
                      clear c37
                      (first | rw [c37b0] | (simp only [i64_w]; rw [c37b0]) | skip)
                      replace H := Option.bind_eq_some_iff.mp H
                      obtain ⟨t416, A380, H⟩ := H
                      replace H : ((slices_Index_string_string.f kj18 t416 t410).bind fun t419 => (if t419 < 0 then (some (0, (⟨#[]⟩ : ByteArray), (⟨#[]⟩ : ByteArray), 18)) else ((some (([(wrap64 (48 + t419)) % 256] : List Int) : List Int)).bind fun y420 => (if (strOfNums y420).size + t409.size ≤ 9223372036854775807 then (if ((strOfNums y420) ++ t409).size + t412.size ≤ 9223372036854775807 then (if t419 = 0 then (ean_read.j1 kj18 t411 t414 3 (t409 ++ t412) (⟨#[]⟩ : ByteArray)) else (ean_read.j1 kj18 t411 t414 1 (((strOfNums y420) ++ t409) ++ t412) (⟨#[]⟩ : ByteArray))) else (none)) else (none))))) = some (r1, r2, r3, r4) := H
                      have A38 := Aside0.mk A380
                      clear A380
                      replace H := Option.bind_eq_some_iff.mp H
                      obtain ⟨t419, A390, H⟩ := H
                      replace H : (if t419 < 0 then (some (0, (⟨#[]⟩ : ByteArray), (⟨#[]⟩ : ByteArray), 18)) else ((some (([(wrap64 (48 + t419)) % 256] : List Int) : List Int)).bind fun y420 => (if (strOfNums y420).size + t409.size ≤ 9223372036854775807 then (if ((strOfNums y420) ++ t409).size + t412.size ≤ 9223372036854775807 then (if t419 = 0 then (ean_read.j1 kj18 t411 t414 3 (t409 ++ t412) (⟨#[]⟩ : ByteArray)) else (ean_read.j1 kj18 t411 t414 1 (((strOfNums y420) ++ t409) ++ t412) (⟨#[]⟩ : ByteArray))) else (none)) else (none)))) = some (r1, r2, r3, r4) := H
                      have A39 := Aside0.mk A390
                      clear A390
                      by_cases c40 : t419 < 0
                      ·rw [if_pos c40] at H
                       have c40b0 : decide (t419 < 0) = true := decide_eq_true c40
                       clear c40
                       simp only [Option.some.injEq, Prod.mk.injEq] at H
                       obtain ⟨rfl, rfl, rfl, rfl⟩ := H
                       go_wp2_with (first | ((with_reducible refine gate_callee (f := 63) rfl ?_); refine goesL_ (some 79) rfl rfl Tryz.func63 (by kernel_rfl) rfl #[] rfl (by (try simp only [List.map_toArray, List.map_cons, List.map_nil]); first | done | rfl | (simp only [List.length_drop, List.length_take]; rfl)) ?_; (with_reducible refine (ean_parity13.calls  t416 _ A38.out).mono ?_); rintro e w41 ⟨v417, rfl, ho0, hb⟩; refine ⟨_, rfl, ?_⟩; have n0_ := Aside0.mk (Kd.R_lower ho0 (below_size (by repeat (first | (with_reducible first | exact HB.out | apply below_alloc | apply pw_below_drewN | apply below_drew1 | refine below_set ?_ GE404.out | refine below_set ?_ GE415.out) | exact HB.out)))); have n1_ := Aside0.mk (blk_below (g := gb404) (o := .cells #[.int .i64 0, .string (⟨#[]⟩ : ByteArray), .string (⟨#[]⟩ : ByteArray)] 31 (0, 0)) (by (with_reducible repeat (first | refine blk_drewN ?_ _ | refine blk_drew ?_ | refine blk_alloc ?_ _)); refine blk_far ?_ NB404_415.out _; (with_reducible repeat (first | refine blk_drewN ?_ _ | refine blk_drew ?_ | refine blk_alloc ?_ _)); refine blk_far ?_ NB404_415.out _; (with_reducible repeat (first | refine blk_drewN ?_ _ | refine blk_drew ?_ | refine blk_alloc ?_ _)); refine blk_far ?_ NB404_415.out _; (with_reducible repeat (first | refine blk_drewN ?_ _ | refine blk_drew ?_ | refine blk_alloc ?_ _)); exact BK404.out) hb); have n2_ := Aside0.mk (blk_below (g := gb415) (o := .cells #[.int .i64 2, .string (t409 ++ t412), .string (⟨#[]⟩ : ByteArray)] 31 (0, 0)) (by (with_reducible repeat (first | refine blk_drewN ?_ _ | refine blk_drew ?_ | refine blk_alloc ?_ _)); refine blk_put (cs := #[.int .i64 2, .string (t409 ++ t412), .string (⟨#[]⟩ : ByteArray)]) ?_ 2 _ rfl; (with_reducible repeat (first | refine blk_drewN ?_ _ | refine blk_drew ?_ | refine blk_alloc ?_ _)); refine blk_put (cs := #[.int .i64 2, .string (⟨#[]⟩ : ByteArray), .string (⟨#[]⟩ : ByteArray)]) ?_ 1 _ rfl; (with_reducible repeat (first | refine blk_drewN ?_ _ | refine blk_drew ?_ | refine blk_alloc ?_ _)); refine blk_put (cs := #[.int .i64 0, .string (⟨#[]⟩ : ByteArray), .string (⟨#[]⟩ : ByteArray)]) ?_ 0 _ rfl; (with_reducible repeat (first | refine blk_drewN ?_ _ | refine blk_drew ?_ | refine blk_alloc ?_ _)); exact BK415.out) hb); have n3_ := Aside0.mk (below_step (by repeat (first | (with_reducible first | exact HB.out | apply below_alloc | apply pw_below_drewN | apply below_drew1 | refine below_set ?_ GE404.out | refine below_set ?_ GE415.out) | exact HB.out)) hb); clear BK404; clear BK415; clear HB; have HO418 := n0_; have BK404 := n1_; have BK415 := n2_; have HB := n3_; clear n0_ n1_ n2_ n3_; (try clear hb); (try clear hb2); (try clear hk); (try clear hi); (try clear ho0); obtain ⟨Ao42, co42, eo42⟩ := Kd.R_slice HO418.out; subst eo42) | ((with_reducible refine gate_callee (f := 107) rfl ?_); refine goesL_ (some 81) rfl rfl Tryz.func107 (by kernel_rfl) rfl #[.slice Ao42 t416.length co42, .string t410] rfl (by (try simp only [List.map_toArray, List.map_cons, List.map_nil]); first | done | rfl | (simp only [List.length_drop, List.length_take]; rfl)) ?_; (with_reducible refine (slices_Index_string_string.calls kj18 _ _ t416 t410 t419 _ ?side1 ?side2 A39.out).mono ?_); (case side1 => repeat (first | exact (Kd.R_reads' HO418.out).2.2 | (with_reducible refine Kd.C_alloc ?_ _) | (with_reducible refine Kd.C_drewN ?_ _) | (with_reducible refine Kd.C_drew ?_))); (case side2 => exact (Kd.R_reads' HO418.out).2.1); rintro e w' ⟨rfl, ⟨nd, rfl⟩⟩; refine ⟨_, rfl, ?_⟩; (try (rw [drewN_self w41]; generalize hq_ : World.drewN w41 _ = w41; have n0_ : Aside0 (Kd.R Kd.string 9 w41 w.heap.size (fun _ => True) (.slice Ao42 t416.length co42) t416) := ⟨by rw [← hq_]; exact (by (with_reducible repeat (first | apply Kd.R_alloc | apply Kd.R_drewN | apply Kd.R_drew)); exact HO418.out)⟩; have n1_ : Aside0 (w41.heap[gb404]? = some (.cells #[.int .i64 0, .string (⟨#[]⟩ : ByteArray), .string (⟨#[]⟩ : ByteArray)] 31 (0, 0))) := ⟨by rw [← hq_]; exact (by (with_reducible repeat (first | refine blk_drewN ?_ _ | refine blk_drew ?_ | refine blk_alloc ?_ _)); exact BK404.out)⟩; have n2_ : Aside0 (w41.heap[gb415]? = some (.cells #[.int .i64 2, .string (t409 ++ t412), .string (⟨#[]⟩ : ByteArray)] 31 (0, 0))) := ⟨by rw [← hq_]; exact (by (with_reducible repeat (first | refine blk_drewN ?_ _ | refine blk_drew ?_ | refine blk_alloc ?_ _)); exact BK415.out)⟩; have n3_ : Aside0 (Below w.heap.size w w41) := ⟨by rw [← hq_]; exact (by repeat (first | (with_reducible first | exact HB.out | apply below_alloc | apply pw_below_drewN | apply below_drew1 | refine below_set ?_ GE404.out | refine below_set ?_ GE415.out) | exact HB.out))⟩; clear HO418 BK404 BK415 HB hq_; have HO418 := n0_; have BK404 := n1_; have BK415 := n2_; have HB := n3_; clear n0_ n1_ n2_ n3_)); have hnb43 := NB404_415.out; have hnc43 := NB415_404.out; have hcz44_0 : w41.cell? ⟨gb404, 0, none⟩ = some (.int .i64 0) := (blk_cell BK404.out 0).trans rfl; have hcz44_1 : w41.cell? ⟨gb404, 1, none⟩ = some (.string (⟨#[]⟩ : ByteArray)) := (blk_cell BK404.out 1).trans rfl; have hcz44_2 : w41.cell? ⟨gb404, 2, none⟩ = some (.string (⟨#[]⟩ : ByteArray)) := (blk_cell BK404.out 2).trans rfl; have hfz44_0 := blk_frozen BK404.out 0; have hfz44_1 := blk_frozen BK404.out 1; have hfz44_2 := blk_frozen BK404.out 2))
                       refine bodyPost_ret (results_ct rfl _ _ gb404 31 #[.int .i64 0, .string (⟨#[]⟩ : ByteArray), .string (⟨#[]⟩ : ByteArray)] (0, 0) _ rfl (by (with_reducible repeat (first | refine blk_drewN ?_ _ | refine blk_drew ?_ | refine blk_alloc ?_ _)); refine blk_put (cs := #[.int .i64 0, .string (⟨#[]⟩ : ByteArray), .string (⟨#[]⟩ : ByteArray)]) ?_ 2 _ rfl; (with_reducible repeat (first | refine blk_drewN ?_ _ | refine blk_drew ?_ | refine blk_alloc ?_ _)); refine blk_put (cs := #[.int .i64 0, .string (⟨#[]⟩ : ByteArray), .string (⟨#[]⟩ : ByteArray)]) ?_ 1 _ rfl; (with_reducible repeat (first | refine blk_drewN ?_ _ | refine blk_drew ?_ | refine blk_alloc ?_ _)); refine blk_put (cs := #[.int .i64 0, .string (⟨#[]⟩ : ByteArray), .string (⟨#[]⟩ : ByteArray)]) ?_ 0 _ rfl; (with_reducible repeat (first | refine blk_drewN ?_ _ | refine blk_drew ?_ | refine blk_alloc ?_ _)); exact BK404.out) Tryz.underlying31 rfl (by kernel_rfl)) rfl ?_
                       exact ⟨by first | rfl | (simp [errW_none, errW_some] <;> rfl) | (simp only [← hji10, ← hji14, ← hji25]; first | rfl | (simp [errW_none, errW_some] <;> rfl)) | (simp [*, errW_none, errW_some] <;> rfl), by repeat (first | (with_reducible first | exact HB.out | apply below_alloc | apply pw_below_drewN | apply below_drew1 | refine below_set ?_ GE404.out | refine below_set ?_ GE415.out) | exact HB.out)⟩
                      ·rw [if_neg c40] at H
                       have c40b0 : decide (t419 < 0) = false := decide_eq_false c40
                       clear c40
                       obtain ⟨y420, hy420⟩ : ∃ y_ : List Int, y_ = (([(wrap64 (48 + t419)) % 256] : List Int)) := ⟨_, rfl⟩
                       replace H : (if (strOfNums y420).size + t409.size ≤ 9223372036854775807 then (if ((strOfNums y420) ++ t409).size + t412.size ≤ 9223372036854775807 then (if t419 = 0 then (ean_read.j1 kj18 t411 t414 3 (t409 ++ t412) (⟨#[]⟩ : ByteArray)) else (ean_read.j1 kj18 t411 t414 1 (((strOfNums y420) ++ t409) ++ t412) (⟨#[]⟩ : ByteArray))) else (none)) else (none)) = some (r1, r2, r3, r4) := by first | (rw [hy420]; with_reducible exact H) | (have H2_ := (Option.bind_some _ _).symm.trans H; rw [hy420]; with_reducible exact H2_) | (have H2_ := (Option.bind_some _ _).symm.trans H; with_reducible exact H2_) | with_reducible exact H | (rw [hy420]; exact H) | exact H
                       have Ny420 := Aside0.mk hy420
                       clear hy420
                       by_cases c45 : (strOfNums y420).size + t409.size ≤ 9223372036854775807
                       ·rw [if_pos c45] at H
                        have c45b0 := eq_true c45
                        have c45b1 : decide ((strOfNums y420).size + t409.size ≤ 9223372036854775807) = true := decide_eq_true c45
                        by_cases c46 : ((strOfNums y420) ++ t409).size + t412.size ≤ 9223372036854775807
                        ·rw [if_pos c46] at H
                         have c46b0 := eq_true c46
                         have c46b1 : decide (((strOfNums y420) ++ t409).size + t412.size ≤ 9223372036854775807) = true := decide_eq_true c46
                         by_cases c47 : t419 = 0
                         ·rw [if_pos c47] at H
                          have c47b0 : (t419 == 0) = true := beq_iff_eq.mpr c47
                          have c47b1 : (t419 != 0) = false := bne_eq_false_iff_eq.mpr c47
                          clear c47
                          have H' := Aside0.mk H
                          clear H
                          go_wp2_with (first | ((with_reducible refine gate_callee (f := 63) rfl ?_); refine goesL_ (some 79) rfl rfl Tryz.func63 (by kernel_rfl) rfl #[] rfl (by (try simp only [List.map_toArray, List.map_cons, List.map_nil]); first | done | rfl | (simp only [List.length_drop, List.length_take]; rfl)) ?_; (with_reducible refine (ean_parity13.calls  t416 _ A38.out).mono ?_); rintro e w48 ⟨v417, rfl, ho0, hb⟩; refine ⟨_, rfl, ?_⟩; have n0_ := Aside0.mk (Kd.R_lower ho0 (below_size (by repeat (first | (with_reducible first | exact HB.out | apply below_alloc | apply pw_below_drewN | apply below_drew1 | refine below_set ?_ GE404.out | refine below_set ?_ GE415.out) | exact HB.out)))); have n1_ := Aside0.mk (blk_below (g := gb404) (o := .cells #[.int .i64 0, .string (⟨#[]⟩ : ByteArray), .string (⟨#[]⟩ : ByteArray)] 31 (0, 0)) (by (with_reducible repeat (first | refine blk_drewN ?_ _ | refine blk_drew ?_ | refine blk_alloc ?_ _)); refine blk_far ?_ NB404_415.out _; (with_reducible repeat (first | refine blk_drewN ?_ _ | refine blk_drew ?_ | refine blk_alloc ?_ _)); refine blk_far ?_ NB404_415.out _; (with_reducible repeat (first | refine blk_drewN ?_ _ | refine blk_drew ?_ | refine blk_alloc ?_ _)); refine blk_far ?_ NB404_415.out _; (with_reducible repeat (first | refine blk_drewN ?_ _ | refine blk_drew ?_ | refine blk_alloc ?_ _)); exact BK404.out) hb); have n2_ := Aside0.mk (blk_below (g := gb415) (o := .cells #[.int .i64 2, .string (t409 ++ t412), .string (⟨#[]⟩ : ByteArray)] 31 (0, 0)) (by (with_reducible repeat (first | refine blk_drewN ?_ _ | refine blk_drew ?_ | refine blk_alloc ?_ _)); refine blk_put (cs := #[.int .i64 2, .string (t409 ++ t412), .string (⟨#[]⟩ : ByteArray)]) ?_ 2 _ rfl; (with_reducible repeat (first | refine blk_drewN ?_ _ | refine blk_drew ?_ | refine blk_alloc ?_ _)); refine blk_put (cs := #[.int .i64 2, .string (⟨#[]⟩ : ByteArray), .string (⟨#[]⟩ : ByteArray)]) ?_ 1 _ rfl; (with_reducible repeat (first | refine blk_drewN ?_ _ | refine blk_drew ?_ | refine blk_alloc ?_ _)); refine blk_put (cs := #[.int .i64 0, .string (⟨#[]⟩ : ByteArray), .string (⟨#[]⟩ : ByteArray)]) ?_ 0 _ rfl; (with_reducible repeat (first | refine blk_drewN ?_ _ | refine blk_drew ?_ | refine blk_alloc ?_ _)); exact BK415.out) hb); have n3_ := Aside0.mk (below_step (by repeat (first | (with_reducible first | exact HB.out | apply below_alloc | apply pw_below_drewN | apply below_drew1 | refine below_set ?_ GE404.out | refine below_set ?_ GE415.out) | exact HB.out)) hb); clear BK404; clear BK415; clear HB; have HO418 := n0_; have BK404 := n1_; have BK415 := n2_; have HB := n3_; clear n0_ n1_ n2_ n3_; (try clear hb); (try clear hb2); (try clear hk); (try clear hi); (try clear ho0); obtain ⟨Ao49, co49, eo49⟩ := Kd.R_slice HO418.out; subst eo49) | ((with_reducible refine gate_callee (f := 107) rfl ?_); refine goesL_ (some 81) rfl rfl Tryz.func107 (by kernel_rfl) rfl #[.slice Ao49 t416.length co49, .string t410] rfl (by (try simp only [List.map_toArray, List.map_cons, List.map_nil]); first | done | rfl | (simp only [List.length_drop, List.length_take]; rfl)) ?_; (with_reducible refine (slices_Index_string_string.calls kj18 _ _ t416 t410 t419 _ ?side1 ?side2 A39.out).mono ?_); (case side1 => repeat (first | exact (Kd.R_reads' HO418.out).2.2 | (with_reducible refine Kd.C_alloc ?_ _) | (with_reducible refine Kd.C_drewN ?_ _) | (with_reducible refine Kd.C_drew ?_))); (case side2 => exact (Kd.R_reads' HO418.out).2.1); rintro e w' ⟨rfl, ⟨nd, rfl⟩⟩; refine ⟨_, rfl, ?_⟩; (try (rw [drewN_self w48]; generalize hq_ : World.drewN w48 _ = w48; have n0_ : Aside0 (Kd.R Kd.string 9 w48 w.heap.size (fun _ => True) (.slice Ao49 t416.length co49) t416) := ⟨by rw [← hq_]; exact (by (with_reducible repeat (first | apply Kd.R_alloc | apply Kd.R_drewN | apply Kd.R_drew)); exact HO418.out)⟩; have n1_ : Aside0 (w48.heap[gb404]? = some (.cells #[.int .i64 0, .string (⟨#[]⟩ : ByteArray), .string (⟨#[]⟩ : ByteArray)] 31 (0, 0))) := ⟨by rw [← hq_]; exact (by (with_reducible repeat (first | refine blk_drewN ?_ _ | refine blk_drew ?_ | refine blk_alloc ?_ _)); exact BK404.out)⟩; have n2_ : Aside0 (w48.heap[gb415]? = some (.cells #[.int .i64 2, .string (t409 ++ t412), .string (⟨#[]⟩ : ByteArray)] 31 (0, 0))) := ⟨by rw [← hq_]; exact (by (with_reducible repeat (first | refine blk_drewN ?_ _ | refine blk_drew ?_ | refine blk_alloc ?_ _)); exact BK415.out)⟩; have n3_ : Aside0 (Below w.heap.size w w48) := ⟨by rw [← hq_]; exact (by repeat (first | (with_reducible first | exact HB.out | apply below_alloc | apply pw_below_drewN | apply below_drew1 | refine below_set ?_ GE404.out | refine below_set ?_ GE415.out) | exact HB.out))⟩; clear HO418 BK404 BK415 HB hq_; have HO418 := n0_; have BK404 := n1_; have BK415 := n2_; have HB := n3_; clear n0_ n1_ n2_ n3_))) | ((with_reducible refine gate_dst (N := 88) rfl ?_); refine Kd.R_lit (Kd.int .u8) _ 5 ?hg (N := 88) ?hd (xs := ([(wrap64 (48 + t419)) % 256] : List Int)) (inner := [.int .u8 ((wrap64 (48 + t419)) % 256)]) (ok := fun _ => True) (okp := fun _ => True) ?hr ?hp (fun _ hk => hk) trivial (Below.refl _ _) (Nat.le_refl _) (by simp) ?_; (case hd => rfl); (case hg => rfl); (case hr => first | (go_simp; done) | (go_simp; rfl)); (case hp => exact (Reps.one (show Kd.M (Kd.int .u8) _ _ _ ((wrap64 (48 + t419)) % 256) [.int .u8 ((wrap64 (48 + t419)) % 256)] from rfl) (Reps.none _ _))); intro v421 w50 ho51 hb hg_ hnew_; clear hg_ hnew_; (first | rw [← Ny420.out] at ho51 | (simp only [Int.reduceToNat] at ho51; rw [← Ny420.out] at ho51)); have n0_ := Aside0.mk (Kd.R_below (by (with_reducible repeat (first | apply Kd.R_alloc | apply Kd.R_drewN | apply Kd.R_drew)); exact HO418.out) hb); have n1_ := Aside0.mk (Kd.R_lower ho51 (below_size (by repeat (first | (with_reducible first | exact HB.out | apply below_alloc | apply pw_below_drewN | apply below_drew1 | refine below_set ?_ GE404.out | refine below_set ?_ GE415.out) | exact HB.out)))); have n2_ := Aside0.mk (blk_below (g := gb404) (o := .cells #[.int .i64 0, .string (⟨#[]⟩ : ByteArray), .string (⟨#[]⟩ : ByteArray)] 31 (0, 0)) (by (with_reducible repeat (first | refine blk_drewN ?_ _ | refine blk_drew ?_ | refine blk_alloc ?_ _)); exact BK404.out) hb); have n3_ := Aside0.mk (blk_below (g := gb415) (o := .cells #[.int .i64 2, .string (t409 ++ t412), .string (⟨#[]⟩ : ByteArray)] 31 (0, 0)) (by (with_reducible repeat (first | refine blk_drewN ?_ _ | refine blk_drew ?_ | refine blk_alloc ?_ _)); exact BK415.out) hb); have n4_ := Aside0.mk (below_step (by repeat (first | (with_reducible first | exact HB.out | apply below_alloc | apply pw_below_drewN | apply below_drew1 | refine below_set ?_ GE404.out | refine below_set ?_ GE415.out) | exact HB.out)) hb); clear HO418; clear BK404; clear BK415; clear HB; have HO418 := n0_; have HO422 := n1_; have BK404 := n2_; have BK415 := n3_; have HB := n4_; clear n0_ n1_ n2_ n3_ n4_; clear hb ho51; have hcv52 := own_string (P := Tryz.prog) Tryz.underlying40 Tryz.underlying5 Tryz.underlying9 (Kd.own_of_R HO422.out); have hnb53 := NB415_404.out; have hnc53 := NB404_415.out; have hcz54_0 : w50.cell? ⟨gb415, 0, none⟩ = some (.int .i64 2) := (blk_cell BK415.out 0).trans rfl; have hcz54_1 : w50.cell? ⟨gb415, 1, none⟩ = some (.string (t409 ++ t412)) := (blk_cell BK415.out 1).trans rfl; have hcz54_2 : w50.cell? ⟨gb415, 2, none⟩ = some (.string (⟨#[]⟩ : ByteArray)) := (blk_cell BK415.out 2).trans rfl; have hfz54_0 := blk_frozen BK415.out 0; have hfz54_1 := blk_frozen BK415.out 1; have hfz54_2 := blk_frozen BK415.out 2))
                          go_meet
                          case rel => exact ⟨_, (0), ((⟨#[]⟩ : ByteArray)), ((⟨#[]⟩ : ByteArray)), (3), (t409 ++ t412), ((⟨#[]⟩ : ByteArray)), H', ⟨by have := HJ18.out; first | omega | exact Nat.le_refl _⟩, ⟨by (with_reducible repeat (first | refine blk_drewN ?_ _ | refine blk_drew ?_ | refine blk_alloc ?_ _)); refine blk_far ?_ NB404_415.out _; (with_reducible repeat (first | refine blk_drewN ?_ _ | refine blk_drew ?_ | refine blk_alloc ?_ _)); refine blk_far ?_ NB404_415.out _; (with_reducible repeat (first | refine blk_drewN ?_ _ | refine blk_drew ?_ | refine blk_alloc ?_ _)); refine blk_far ?_ NB404_415.out _; (with_reducible repeat (first | refine blk_drewN ?_ _ | refine blk_drew ?_ | refine blk_alloc ?_ _)); refine blk_far ?_ NB404_415.out _; (with_reducible repeat (first | refine blk_drewN ?_ _ | refine blk_drew ?_ | refine blk_alloc ?_ _)); refine blk_far ?_ NB404_415.out _; (with_reducible repeat (first | refine blk_drewN ?_ _ | refine blk_drew ?_ | refine blk_alloc ?_ _)); refine blk_far ?_ NB404_415.out _; (with_reducible repeat (first | refine blk_drewN ?_ _ | refine blk_drew ?_ | refine blk_alloc ?_ _)); exact BK404.out⟩, ⟨by (with_reducible repeat (first | refine blk_drewN ?_ _ | refine blk_drew ?_ | refine blk_alloc ?_ _)); refine blk_put (cs := #[.int .i64 3, .string (t409 ++ t412), .string (⟨#[]⟩ : ByteArray)]) ?_ 2 _ rfl; (with_reducible repeat (first | refine blk_drewN ?_ _ | refine blk_drew ?_ | refine blk_alloc ?_ _)); refine blk_put (cs := #[.int .i64 3, .string (((strOfNums y420) ++ t409) ++ t412), .string (⟨#[]⟩ : ByteArray)]) ?_ 1 _ rfl; (with_reducible repeat (first | refine blk_drewN ?_ _ | refine blk_drew ?_ | refine blk_alloc ?_ _)); refine blk_put (cs := #[.int .i64 1, .string (((strOfNums y420) ++ t409) ++ t412), .string (⟨#[]⟩ : ByteArray)]) ?_ 0 _ rfl; (with_reducible repeat (first | refine blk_drewN ?_ _ | refine blk_drew ?_ | refine blk_alloc ?_ _)); refine blk_put (cs := #[.int .i64 1, .string (((strOfNums y420) ++ t409) ++ t412), .string (⟨#[]⟩ : ByteArray)]) ?_ 2 _ rfl; (with_reducible repeat (first | refine blk_drewN ?_ _ | refine blk_drew ?_ | refine blk_alloc ?_ _)); refine blk_put (cs := #[.int .i64 1, .string (t409 ++ t412), .string (⟨#[]⟩ : ByteArray)]) ?_ 1 _ rfl; (with_reducible repeat (first | refine blk_drewN ?_ _ | refine blk_drew ?_ | refine blk_alloc ?_ _)); refine blk_put (cs := #[.int .i64 2, .string (t409 ++ t412), .string (⟨#[]⟩ : ByteArray)]) ?_ 0 _ rfl; (with_reducible repeat (first | refine blk_drewN ?_ _ | refine blk_drew ?_ | refine blk_alloc ?_ _)); exact BK415.out⟩, ⟨by repeat (first | (with_reducible first | exact HB.out | apply below_alloc | apply pw_below_drewN | apply below_drew1 | refine below_set ?_ GE404.out | refine below_set ?_ GE415.out) | exact HB.out)⟩⟩
                         ·rw [if_neg c47] at H
                          have c47b0 : (t419 == 0) = false := beq_eq_false_iff_ne.mpr c47
                          have c47b1 : (t419 != 0) = true := bne_iff_ne.mpr c47
                          have H' := Aside0.mk H
                          clear H
                          go_wp2_with (first | ((with_reducible refine gate_callee (f := 63) rfl ?_); refine goesL_ (some 79) rfl rfl Tryz.func63 (by kernel_rfl) rfl #[] rfl (by (try simp only [List.map_toArray, List.map_cons, List.map_nil]); first | done | rfl | (simp only [List.length_drop, List.length_take]; rfl)) ?_; (with_reducible refine (ean_parity13.calls  t416 _ A38.out).mono ?_); rintro e w55 ⟨v417, rfl, ho0, hb⟩; refine ⟨_, rfl, ?_⟩; have n0_ := Aside0.mk (Kd.R_lower ho0 (below_size (by repeat (first | (with_reducible first | exact HB.out | apply below_alloc | apply pw_below_drewN | apply below_drew1 | refine below_set ?_ GE404.out | refine below_set ?_ GE415.out) | exact HB.out)))); have n1_ := Aside0.mk (blk_below (g := gb404) (o := .cells #[.int .i64 0, .string (⟨#[]⟩ : ByteArray), .string (⟨#[]⟩ : ByteArray)] 31 (0, 0)) (by (with_reducible repeat (first | refine blk_drewN ?_ _ | refine blk_drew ?_ | refine blk_alloc ?_ _)); refine blk_far ?_ NB404_415.out _; (with_reducible repeat (first | refine blk_drewN ?_ _ | refine blk_drew ?_ | refine blk_alloc ?_ _)); refine blk_far ?_ NB404_415.out _; (with_reducible repeat (first | refine blk_drewN ?_ _ | refine blk_drew ?_ | refine blk_alloc ?_ _)); refine blk_far ?_ NB404_415.out _; (with_reducible repeat (first | refine blk_drewN ?_ _ | refine blk_drew ?_ | refine blk_alloc ?_ _)); exact BK404.out) hb); have n2_ := Aside0.mk (blk_below (g := gb415) (o := .cells #[.int .i64 2, .string (t409 ++ t412), .string (⟨#[]⟩ : ByteArray)] 31 (0, 0)) (by (with_reducible repeat (first | refine blk_drewN ?_ _ | refine blk_drew ?_ | refine blk_alloc ?_ _)); refine blk_put (cs := #[.int .i64 2, .string (t409 ++ t412), .string (⟨#[]⟩ : ByteArray)]) ?_ 2 _ rfl; (with_reducible repeat (first | refine blk_drewN ?_ _ | refine blk_drew ?_ | refine blk_alloc ?_ _)); refine blk_put (cs := #[.int .i64 2, .string (⟨#[]⟩ : ByteArray), .string (⟨#[]⟩ : ByteArray)]) ?_ 1 _ rfl; (with_reducible repeat (first | refine blk_drewN ?_ _ | refine blk_drew ?_ | refine blk_alloc ?_ _)); refine blk_put (cs := #[.int .i64 0, .string (⟨#[]⟩ : ByteArray), .string (⟨#[]⟩ : ByteArray)]) ?_ 0 _ rfl; (with_reducible repeat (first | refine blk_drewN ?_ _ | refine blk_drew ?_ | refine blk_alloc ?_ _)); exact BK415.out) hb); have n3_ := Aside0.mk (below_step (by repeat (first | (with_reducible first | exact HB.out | apply below_alloc | apply pw_below_drewN | apply below_drew1 | refine below_set ?_ GE404.out | refine below_set ?_ GE415.out) | exact HB.out)) hb); clear BK404; clear BK415; clear HB; have HO418 := n0_; have BK404 := n1_; have BK415 := n2_; have HB := n3_; clear n0_ n1_ n2_ n3_; (try clear hb); (try clear hb2); (try clear hk); (try clear hi); (try clear ho0); obtain ⟨Ao56, co56, eo56⟩ := Kd.R_slice HO418.out; subst eo56) | ((with_reducible refine gate_callee (f := 107) rfl ?_); refine goesL_ (some 81) rfl rfl Tryz.func107 (by kernel_rfl) rfl #[.slice Ao56 t416.length co56, .string t410] rfl (by (try simp only [List.map_toArray, List.map_cons, List.map_nil]); first | done | rfl | (simp only [List.length_drop, List.length_take]; rfl)) ?_; (with_reducible refine (slices_Index_string_string.calls kj18 _ _ t416 t410 t419 _ ?side1 ?side2 A39.out).mono ?_); (case side1 => repeat (first | exact (Kd.R_reads' HO418.out).2.2 | (with_reducible refine Kd.C_alloc ?_ _) | (with_reducible refine Kd.C_drewN ?_ _) | (with_reducible refine Kd.C_drew ?_))); (case side2 => exact (Kd.R_reads' HO418.out).2.1); rintro e w' ⟨rfl, ⟨nd, rfl⟩⟩; refine ⟨_, rfl, ?_⟩; (try (rw [drewN_self w55]; generalize hq_ : World.drewN w55 _ = w55; have n0_ : Aside0 (Kd.R Kd.string 9 w55 w.heap.size (fun _ => True) (.slice Ao56 t416.length co56) t416) := ⟨by rw [← hq_]; exact (by (with_reducible repeat (first | apply Kd.R_alloc | apply Kd.R_drewN | apply Kd.R_drew)); exact HO418.out)⟩; have n1_ : Aside0 (w55.heap[gb404]? = some (.cells #[.int .i64 0, .string (⟨#[]⟩ : ByteArray), .string (⟨#[]⟩ : ByteArray)] 31 (0, 0))) := ⟨by rw [← hq_]; exact (by (with_reducible repeat (first | refine blk_drewN ?_ _ | refine blk_drew ?_ | refine blk_alloc ?_ _)); exact BK404.out)⟩; have n2_ : Aside0 (w55.heap[gb415]? = some (.cells #[.int .i64 2, .string (t409 ++ t412), .string (⟨#[]⟩ : ByteArray)] 31 (0, 0))) := ⟨by rw [← hq_]; exact (by (with_reducible repeat (first | refine blk_drewN ?_ _ | refine blk_drew ?_ | refine blk_alloc ?_ _)); exact BK415.out)⟩; have n3_ : Aside0 (Below w.heap.size w w55) := ⟨by rw [← hq_]; exact (by repeat (first | (with_reducible first | exact HB.out | apply below_alloc | apply pw_below_drewN | apply below_drew1 | refine below_set ?_ GE404.out | refine below_set ?_ GE415.out) | exact HB.out))⟩; clear HO418 BK404 BK415 HB hq_; have HO418 := n0_; have BK404 := n1_; have BK415 := n2_; have HB := n3_; clear n0_ n1_ n2_ n3_))) | ((with_reducible refine gate_dst (N := 88) rfl ?_); refine Kd.R_lit (Kd.int .u8) _ 5 ?hg (N := 88) ?hd (xs := ([(wrap64 (48 + t419)) % 256] : List Int)) (inner := [.int .u8 ((wrap64 (48 + t419)) % 256)]) (ok := fun _ => True) (okp := fun _ => True) ?hr ?hp (fun _ hk => hk) trivial (Below.refl _ _) (Nat.le_refl _) (by simp) ?_; (case hd => rfl); (case hg => rfl); (case hr => first | (go_simp; done) | (go_simp; rfl)); (case hp => exact (Reps.one (show Kd.M (Kd.int .u8) _ _ _ ((wrap64 (48 + t419)) % 256) [.int .u8 ((wrap64 (48 + t419)) % 256)] from rfl) (Reps.none _ _))); intro v421 w57 ho58 hb hg_ hnew_; clear hg_ hnew_; (first | rw [← Ny420.out] at ho58 | (simp only [Int.reduceToNat] at ho58; rw [← Ny420.out] at ho58)); have n0_ := Aside0.mk (Kd.R_below (by (with_reducible repeat (first | apply Kd.R_alloc | apply Kd.R_drewN | apply Kd.R_drew)); exact HO418.out) hb); have n1_ := Aside0.mk (Kd.R_lower ho58 (below_size (by repeat (first | (with_reducible first | exact HB.out | apply below_alloc | apply pw_below_drewN | apply below_drew1 | refine below_set ?_ GE404.out | refine below_set ?_ GE415.out) | exact HB.out)))); have n2_ := Aside0.mk (blk_below (g := gb404) (o := .cells #[.int .i64 0, .string (⟨#[]⟩ : ByteArray), .string (⟨#[]⟩ : ByteArray)] 31 (0, 0)) (by (with_reducible repeat (first | refine blk_drewN ?_ _ | refine blk_drew ?_ | refine blk_alloc ?_ _)); exact BK404.out) hb); have n3_ := Aside0.mk (blk_below (g := gb415) (o := .cells #[.int .i64 2, .string (t409 ++ t412), .string (⟨#[]⟩ : ByteArray)] 31 (0, 0)) (by (with_reducible repeat (first | refine blk_drewN ?_ _ | refine blk_drew ?_ | refine blk_alloc ?_ _)); exact BK415.out) hb); have n4_ := Aside0.mk (below_step (by repeat (first | (with_reducible first | exact HB.out | apply below_alloc | apply pw_below_drewN | apply below_drew1 | refine below_set ?_ GE404.out | refine below_set ?_ GE415.out) | exact HB.out)) hb); clear HO418; clear BK404; clear BK415; clear HB; have HO418 := n0_; have HO422 := n1_; have BK404 := n2_; have BK415 := n3_; have HB := n4_; clear n0_ n1_ n2_ n3_ n4_; clear hb ho58; have hcv59 := own_string (P := Tryz.prog) Tryz.underlying40 Tryz.underlying5 Tryz.underlying9 (Kd.own_of_R HO422.out); have hnb60 := NB415_404.out; have hnc60 := NB404_415.out; have hcz61_0 : w57.cell? ⟨gb415, 0, none⟩ = some (.int .i64 2) := (blk_cell BK415.out 0).trans rfl; have hcz61_1 : w57.cell? ⟨gb415, 1, none⟩ = some (.string (t409 ++ t412)) := (blk_cell BK415.out 1).trans rfl; have hcz61_2 : w57.cell? ⟨gb415, 2, none⟩ = some (.string (⟨#[]⟩ : ByteArray)) := (blk_cell BK415.out 2).trans rfl; have hfz61_0 := blk_frozen BK415.out 0; have hfz61_1 := blk_frozen BK415.out 1; have hfz61_2 := blk_frozen BK415.out 2))
                          go_meet
                          case rel => exact ⟨_, (0), ((⟨#[]⟩ : ByteArray)), ((⟨#[]⟩ : ByteArray)), (1), (((strOfNums y420) ++ t409) ++ t412), ((⟨#[]⟩ : ByteArray)), H', ⟨by have := HJ18.out; first | omega | exact Nat.le_refl _⟩, ⟨by (with_reducible repeat (first | refine blk_drewN ?_ _ | refine blk_drew ?_ | refine blk_alloc ?_ _)); refine blk_far ?_ NB404_415.out _; (with_reducible repeat (first | refine blk_drewN ?_ _ | refine blk_drew ?_ | refine blk_alloc ?_ _)); refine blk_far ?_ NB404_415.out _; (with_reducible repeat (first | refine blk_drewN ?_ _ | refine blk_drew ?_ | refine blk_alloc ?_ _)); refine blk_far ?_ NB404_415.out _; (with_reducible repeat (first | refine blk_drewN ?_ _ | refine blk_drew ?_ | refine blk_alloc ?_ _)); exact BK404.out⟩, ⟨by (with_reducible repeat (first | refine blk_drewN ?_ _ | refine blk_drew ?_ | refine blk_alloc ?_ _)); refine blk_put (cs := #[.int .i64 1, .string (((strOfNums y420) ++ t409) ++ t412), .string (⟨#[]⟩ : ByteArray)]) ?_ 2 _ rfl; (with_reducible repeat (first | refine blk_drewN ?_ _ | refine blk_drew ?_ | refine blk_alloc ?_ _)); refine blk_put (cs := #[.int .i64 1, .string (t409 ++ t412), .string (⟨#[]⟩ : ByteArray)]) ?_ 1 _ rfl; (with_reducible repeat (first | refine blk_drewN ?_ _ | refine blk_drew ?_ | refine blk_alloc ?_ _)); refine blk_put (cs := #[.int .i64 2, .string (t409 ++ t412), .string (⟨#[]⟩ : ByteArray)]) ?_ 0 _ rfl; (with_reducible repeat (first | refine blk_drewN ?_ _ | refine blk_drew ?_ | refine blk_alloc ?_ _)); exact BK415.out⟩, ⟨by repeat (first | (with_reducible first | exact HB.out | apply below_alloc | apply pw_below_drewN | apply below_drew1 | refine below_set ?_ GE404.out | refine below_set ?_ GE415.out) | exact HB.out)⟩⟩
                        ·rw [if_neg c46] at H
                         exact absurd H (by simp)
                       ·rw [if_neg c45] at H
                        exact absurd H (by simp)
                     ·rw [if_neg c37] at H
                      have c37b0 : ((a0.size : Int) == 95) = false := beq_eq_false_iff_ne.mpr c37
                      have c37b1 : ((a0.size : Int) != 95) = true := bne_iff_ne.mpr c37
                      (first | rw [c37b0] | (simp only [i64_w]; rw [c37b0]) | skip)
                      have H' := Aside0.mk H
                      clear H
                      go_wp2
                      go_meet
                      case rel => exact ⟨_, (0), ((⟨#[]⟩ : ByteArray)), ((⟨#[]⟩ : ByteArray)), (2), (t409 ++ t412), ((⟨#[]⟩ : ByteArray)), H', ⟨by have := HJ18.out; first | omega | exact Nat.le_refl _⟩, ⟨by (with_reducible repeat (first | refine blk_drewN ?_ _ | refine blk_drew ?_ | refine blk_alloc ?_ _)); refine blk_far ?_ NB404_415.out _; (with_reducible repeat (first | refine blk_drewN ?_ _ | refine blk_drew ?_ | refine blk_alloc ?_ _)); refine blk_far ?_ NB404_415.out _; (with_reducible repeat (first | refine blk_drewN ?_ _ | refine blk_drew ?_ | refine blk_alloc ?_ _)); refine blk_far ?_ NB404_415.out _; (with_reducible repeat (first | refine blk_drewN ?_ _ | refine blk_drew ?_ | refine blk_alloc ?_ _)); exact BK404.out⟩, ⟨by (with_reducible repeat (first | refine blk_drewN ?_ _ | refine blk_drew ?_ | refine blk_alloc ?_ _)); refine blk_put (cs := #[.int .i64 2, .string (t409 ++ t412), .string (⟨#[]⟩ : ByteArray)]) ?_ 2 _ rfl; (with_reducible repeat (first | refine blk_drewN ?_ _ | refine blk_drew ?_ | refine blk_alloc ?_ _)); refine blk_put (cs := #[.int .i64 2, .string (⟨#[]⟩ : ByteArray), .string (⟨#[]⟩ : ByteArray)]) ?_ 1 _ rfl; (with_reducible repeat (first | refine blk_drewN ?_ _ | refine blk_drew ?_ | refine blk_alloc ?_ _)); refine blk_put (cs := #[.int .i64 0, .string (⟨#[]⟩ : ByteArray), .string (⟨#[]⟩ : ByteArray)]) ?_ 0 _ rfl; (with_reducible repeat (first | refine blk_drewN ?_ _ | refine blk_drew ?_ | refine blk_alloc ?_ _)); exact BK415.out⟩, ⟨by repeat (first | (with_reducible first | exact HB.out | apply below_alloc | apply pw_below_drewN | apply below_drew1 | refine below_set ?_ GE404.out | refine below_set ?_ GE415.out) | exact HB.out)⟩⟩
                    case rest =>
                     clear HC31
                     obtain ⟨kq, x405000_30, x405001_30, x405002_30, x416000_30, x416001_30, x416002_30, HA, HJ30, BK404, BK415, HB⟩ := hcut
                     cases kq with
                     | zero => exact absurd HA.out (by simp [ean_read.j1])
                     | succ kj30 =>
                      have H := HA.out
                      clear HA
                      simp only [ean_read.j1] at H
                      have HC62 := Aside0.mk H
                      clear H
                      go_upto_region 23 with (fail)
                      go_cut [101] (fun v101 wc => ∃ (kq : Nat) (x101_61 : Bool), v101 = .bool x101_61 ∧ Aside0 (ean_read.j2 kq x101_61 x416000_30 x416001_30 x416002_30 = some (r1, r2, r3, r4)) ∧ Aside0 (kq ≤ kj30) ∧ Aside0 (wc.heap[gb404]? = some (.cells #[.int .i64 x405000_30, .string x405001_30, .string x405002_30] 31 (0, 0))) ∧ Aside0 (wc.heap[gb415]? = some (.cells #[.int .i64 x416000_30, .string x416001_30, .string x416002_30] 31 (0, 0))) ∧ Aside0 (Below w.heap.size w wc))
                      case first =>
                       have H := HC62.out
                       clear HC62
                       by_cases c63 : t411 = true
                       ·subst c63
                        have H1 : (ean_read.j2 kj30 (!t414) x416000_30 x416001_30 x416002_30) = some (r1, r2, r3, r4) := by rw [if_pos rfl] at H; exact H
                        clear H
                        have H := H1
                        clear H1
                        have H' := Aside0.mk H
                        clear H
                        go_wp2
                        go_meet
                        case rel => exact ⟨_, (!t414), (by first | rfl | (simp; done) | (simp [*]; done)), H', ⟨by have := HJ18.out; have := HJ30.out; first | omega | exact Nat.le_refl _⟩, ⟨by (with_reducible repeat (first | refine blk_drewN ?_ _ | refine blk_drew ?_ | refine blk_alloc ?_ _)); exact BK404.out⟩, ⟨by (with_reducible repeat (first | refine blk_drewN ?_ _ | refine blk_drew ?_ | refine blk_alloc ?_ _)); exact BK415.out⟩, ⟨by repeat (first | (with_reducible first | exact HB.out | apply below_alloc | apply pw_below_drewN | apply below_drew1 | refine below_set ?_ GE404.out | refine below_set ?_ GE415.out) | exact HB.out)⟩⟩
                       ·replace c63 := Bool.eq_false_iff.mpr c63
                        subst c63
                        have H1 : (ean_read.j2 kj30 true x416000_30 x416001_30 x416002_30) = some (r1, r2, r3, r4) := by rw [if_neg (show ¬ (false = true) by decide)] at H; exact H
                        clear H
                        have H := H1
                        clear H1
                        have H' := Aside0.mk H
                        clear H
                        go_wp2
                        go_meet
                        case rel => exact ⟨_, (true), (by first | rfl | (simp; done) | (simp [*]; done)), H', ⟨by have := HJ18.out; have := HJ30.out; first | omega | exact Nat.le_refl _⟩, ⟨by (with_reducible repeat (first | refine blk_drewN ?_ _ | refine blk_drew ?_ | refine blk_alloc ?_ _)); exact BK404.out⟩, ⟨by (with_reducible repeat (first | refine blk_drewN ?_ _ | refine blk_drew ?_ | refine blk_alloc ?_ _)); exact BK415.out⟩, ⟨by repeat (first | (with_reducible first | exact HB.out | apply below_alloc | apply pw_below_drewN | apply below_drew1 | refine below_set ?_ GE404.out | refine below_set ?_ GE415.out) | exact HB.out)⟩⟩
                      case rest =>
                       clear HC62
                       obtain ⟨kq, x101_61, rfl, HA, HJ61, BK404, BK415, HB⟩ := hcut
                       cases kq with
                       | zero => exact absurd HA.out (by simp [ean_read.j2])
                       | succ kj61 =>
                        have H := HA.out
                        clear HA
                        simp only [ean_read.j2] at H
                        by_cases c64 : x101_61 = true
                        ·subst c64
                         have H1 : (some (0, (⟨#[]⟩ : ByteArray), (⟨#[]⟩ : ByteArray), 18)) = some (r1, r2, r3, r4) := by rw [if_pos rfl] at H; exact H
                         clear H
                         have H := H1
                         clear H1
                         simp only [Option.some.injEq, Prod.mk.injEq] at H
                         obtain ⟨rfl, rfl, rfl, rfl⟩ := H
                         have hnb65 := NB404_415.out
                         have hnc65 := NB415_404.out
                         have hcz66_0 : wc.cell? ⟨gb404, 0, none⟩ = some (.int .i64 x405000_30) := (blk_cell BK404.out 0).trans rfl
                         have hcz66_1 : wc.cell? ⟨gb404, 1, none⟩ = some (.string x405001_30) := (blk_cell BK404.out 1).trans rfl
                         have hcz66_2 : wc.cell? ⟨gb404, 2, none⟩ = some (.string x405002_30) := (blk_cell BK404.out 2).trans rfl
                         have hfz66_0 := blk_frozen BK404.out 0
                         have hfz66_1 := blk_frozen BK404.out 1
                         have hfz66_2 := blk_frozen BK404.out 2
                         go_wp2
                         refine bodyPost_ret (results_ct rfl _ _ gb404 31 #[.int .i64 0, .string (⟨#[]⟩ : ByteArray), .string (⟨#[]⟩ : ByteArray)] (0, 0) _ rfl (by (with_reducible repeat (first | refine blk_drewN ?_ _ | refine blk_drew ?_ | refine blk_alloc ?_ _)); refine blk_put (cs := #[.int .i64 0, .string (⟨#[]⟩ : ByteArray), .string x405002_30]) ?_ 2 _ rfl; (with_reducible repeat (first | refine blk_drewN ?_ _ | refine blk_drew ?_ | refine blk_alloc ?_ _)); refine blk_put (cs := #[.int .i64 0, .string x405001_30, .string x405002_30]) ?_ 1 _ rfl; (with_reducible repeat (first | refine blk_drewN ?_ _ | refine blk_drew ?_ | refine blk_alloc ?_ _)); refine blk_put (cs := #[.int .i64 x405000_30, .string x405001_30, .string x405002_30]) ?_ 0 _ rfl; (with_reducible repeat (first | refine blk_drewN ?_ _ | refine blk_drew ?_ | refine blk_alloc ?_ _)); exact BK404.out) Tryz.underlying31 rfl (by kernel_rfl)) rfl ?_
                         exact ⟨by first | rfl | (simp [errW_none, errW_some] <;> rfl) | (simp only [← hji10, ← hji14, ← hji25]; first | rfl | (simp [errW_none, errW_some] <;> rfl)) | (simp [*, errW_none, errW_some] <;> rfl), by repeat (first | (with_reducible first | exact HB.out | apply below_alloc | apply pw_below_drewN | apply below_drew1 | refine below_set ?_ GE404.out | refine below_set ?_ GE415.out) | exact HB.out)⟩
                        ·replace c64 := Bool.eq_false_iff.mpr c64
                         subst c64
                         have H1 : ((ean_complete.f kj61 x416000_30 x416001_30).bind fun t423 => (if t423 = 0 then (some (x416000_30, x416001_30, x416002_30, 0)) else (some (0, (⟨#[]⟩ : ByteArray), (⟨#[]⟩ : ByteArray), 8)))) = some (r1, r2, r3, r4) := by rw [if_neg (show ¬ (false = true) by decide)] at H; exact H
                         clear H
                         have H := H1
                         clear H1
                         replace H := Option.bind_eq_some_iff.mp H
                         obtain ⟨t423, A670, H⟩ := H
                         replace H : (if t423 = 0 then (some (x416000_30, x416001_30, x416002_30, 0)) else (some (0, (⟨#[]⟩ : ByteArray), (⟨#[]⟩ : ByteArray), 8))) = some (r1, r2, r3, r4) := H
                         have A67 := Aside0.mk A670
                         clear A670
                         by_cases c68 : t423 = 0
                         ·rw [if_pos c68] at H
                          have c68b0 : (t423 == 0) = true := beq_iff_eq.mpr c68
                          have c68b1 : (t423 != 0) = false := bne_eq_false_iff_eq.mpr c68
                          clear c68
                          simp only [Option.some.injEq, Prod.mk.injEq] at H
                          obtain ⟨rfl, rfl, rfl, rfl⟩ := H
                          have hnb69 := NB415_404.out
                          have hnc69 := NB404_415.out
                          have hcz70_0 : wc.cell? ⟨gb415, 0, none⟩ = some (.int .i64 x416000_30) := (blk_cell BK415.out 0).trans rfl
                          have hcz70_1 : wc.cell? ⟨gb415, 1, none⟩ = some (.string x416001_30) := (blk_cell BK415.out 1).trans rfl
                          have hcz70_2 : wc.cell? ⟨gb415, 2, none⟩ = some (.string x416002_30) := (blk_cell BK415.out 2).trans rfl
                          have hfz70_0 := blk_frozen BK415.out 0
                          have hfz70_1 := blk_frozen BK415.out 1
                          have hfz70_2 := blk_frozen BK415.out 2
                          go_wp2_with (first | ((with_reducible refine gate_callee (f := 26) rfl ?_); refine goesL_ (some 114) rfl rfl Tryz.func26 (by kernel_rfl) rfl #[.int .i64 x416000_30, .string x416001_30] rfl (by (try simp only [List.map_toArray, List.map_cons, List.map_nil]); first | done | rfl | (simp only [List.length_drop, List.length_take]; rfl)) ?_; (with_reducible refine (ean_complete.calls kj61 x416000_30 x416001_30 t423 _ A67.out).mono ?_); rintro e w71 ⟨rfl, hb⟩; refine ⟨_, rfl, ?_⟩; have n0_ := Aside0.mk (blk_below (g := gb404) (o := .cells #[.int .i64 x405000_30, .string x405001_30, .string x405002_30] 31 (0, 0)) (by (with_reducible repeat (first | refine blk_drewN ?_ _ | refine blk_drew ?_ | refine blk_alloc ?_ _)); exact BK404.out) hb); have n1_ := Aside0.mk (blk_below (g := gb415) (o := .cells #[.int .i64 x416000_30, .string x416001_30, .string x416002_30] 31 (0, 0)) (by (with_reducible repeat (first | refine blk_drewN ?_ _ | refine blk_drew ?_ | refine blk_alloc ?_ _)); exact BK415.out) hb); have n2_ := Aside0.mk (below_step (by repeat (first | (with_reducible first | exact HB.out | apply below_alloc | apply pw_below_drewN | apply below_drew1 | refine below_set ?_ GE404.out | refine below_set ?_ GE415.out) | exact HB.out)) hb); clear BK404; clear BK415; clear HB; have BK404 := n0_; have BK415 := n1_; have HB := n2_; clear n0_ n1_ n2_; (try clear hb); (try clear hb2); (try clear hk); (try clear hi); have hcz72_0 : w71.cell? ⟨gb415, 0, none⟩ = some (.int .i64 x416000_30) := (blk_cell BK415.out 0).trans rfl; have hcz72_1 : w71.cell? ⟨gb415, 1, none⟩ = some (.string x416001_30) := (blk_cell BK415.out 1).trans rfl; have hcz72_2 : w71.cell? ⟨gb415, 2, none⟩ = some (.string x416002_30) := (blk_cell BK415.out 2).trans rfl; have hfz72_0 := blk_frozen BK415.out 0; have hfz72_1 := blk_frozen BK415.out 1; have hfz72_2 := blk_frozen BK415.out 2; have hcz73_0 : w71.cell? ⟨gb404, 0, none⟩ = some (.int .i64 x405000_30) := (blk_cell BK404.out 0).trans rfl; have hcz73_1 : w71.cell? ⟨gb404, 1, none⟩ = some (.string x405001_30) := (blk_cell BK404.out 1).trans rfl; have hcz73_2 : w71.cell? ⟨gb404, 2, none⟩ = some (.string x405002_30) := (blk_cell BK404.out 2).trans rfl; have hfz73_0 := blk_frozen BK404.out 0; have hfz73_1 := blk_frozen BK404.out 1; have hfz73_2 := blk_frozen BK404.out 2))
                          refine bodyPost_ret (results_ct rfl _ _ gb404 31 #[.int .i64 x416000_30, .string x416001_30, .string x416002_30] (0, 0) _ rfl (by (with_reducible repeat (first | refine blk_drewN ?_ _ | refine blk_drew ?_ | refine blk_alloc ?_ _)); refine blk_put (cs := #[.int .i64 x416000_30, .string x416001_30, .string x405002_30]) ?_ 2 _ rfl; (with_reducible repeat (first | refine blk_drewN ?_ _ | refine blk_drew ?_ | refine blk_alloc ?_ _)); refine blk_put (cs := #[.int .i64 x416000_30, .string x405001_30, .string x405002_30]) ?_ 1 _ rfl; (with_reducible repeat (first | refine blk_drewN ?_ _ | refine blk_drew ?_ | refine blk_alloc ?_ _)); refine blk_put (cs := #[.int .i64 x405000_30, .string x405001_30, .string x405002_30]) ?_ 0 _ rfl; (with_reducible repeat (first | refine blk_drewN ?_ _ | refine blk_drew ?_ | refine blk_alloc ?_ _)); exact BK404.out) Tryz.underlying31 rfl (by kernel_rfl)) rfl ?_
                          exact ⟨by first | rfl | (simp [errW_none, errW_some] <;> rfl) | (simp only [← hji10, ← hji14, ← hji25]; first | rfl | (simp [errW_none, errW_some] <;> rfl)) | (simp [*, errW_none, errW_some] <;> rfl), by repeat (first | (with_reducible first | exact HB.out | apply below_alloc | apply pw_below_drewN | apply below_drew1 | refine below_set ?_ GE404.out | refine below_set ?_ GE415.out) | exact HB.out)⟩
                         ·rw [if_neg c68] at H
                          have c68b0 : (t423 == 0) = false := beq_eq_false_iff_ne.mpr c68
                          have c68b1 : (t423 != 0) = true := bne_iff_ne.mpr c68
                          simp only [Option.some.injEq, Prod.mk.injEq] at H
                          obtain ⟨rfl, rfl, rfl, rfl⟩ := H
                          have hnb74 := NB415_404.out
                          have hnc74 := NB404_415.out
                          have hcz75_0 : wc.cell? ⟨gb415, 0, none⟩ = some (.int .i64 x416000_30) := (blk_cell BK415.out 0).trans rfl
                          have hcz75_1 : wc.cell? ⟨gb415, 1, none⟩ = some (.string x416001_30) := (blk_cell BK415.out 1).trans rfl
                          have hcz75_2 : wc.cell? ⟨gb415, 2, none⟩ = some (.string x416002_30) := (blk_cell BK415.out 2).trans rfl
                          have hfz75_0 := blk_frozen BK415.out 0
                          have hfz75_1 := blk_frozen BK415.out 1
                          have hfz75_2 := blk_frozen BK415.out 2
                          go_wp2_with (first | ((with_reducible refine gate_callee (f := 26) rfl ?_); refine goesL_ (some 114) rfl rfl Tryz.func26 (by kernel_rfl) rfl #[.int .i64 x416000_30, .string x416001_30] rfl (by (try simp only [List.map_toArray, List.map_cons, List.map_nil]); first | done | rfl | (simp only [List.length_drop, List.length_take]; rfl)) ?_; (with_reducible refine (ean_complete.calls kj61 x416000_30 x416001_30 t423 _ A67.out).mono ?_); rintro e w76 ⟨rfl, hb⟩; refine ⟨_, rfl, ?_⟩; have n0_ := Aside0.mk (blk_below (g := gb404) (o := .cells #[.int .i64 x405000_30, .string x405001_30, .string x405002_30] 31 (0, 0)) (by (with_reducible repeat (first | refine blk_drewN ?_ _ | refine blk_drew ?_ | refine blk_alloc ?_ _)); exact BK404.out) hb); have n1_ := Aside0.mk (blk_below (g := gb415) (o := .cells #[.int .i64 x416000_30, .string x416001_30, .string x416002_30] 31 (0, 0)) (by (with_reducible repeat (first | refine blk_drewN ?_ _ | refine blk_drew ?_ | refine blk_alloc ?_ _)); exact BK415.out) hb); have n2_ := Aside0.mk (below_step (by repeat (first | (with_reducible first | exact HB.out | apply below_alloc | apply pw_below_drewN | apply below_drew1 | refine below_set ?_ GE404.out | refine below_set ?_ GE415.out) | exact HB.out)) hb); clear BK404; clear BK415; clear HB; have BK404 := n0_; have BK415 := n1_; have HB := n2_; clear n0_ n1_ n2_; (try clear hb); (try clear hb2); (try clear hk); (try clear hi); have hcz77_0 : w76.cell? ⟨gb404, 0, none⟩ = some (.int .i64 x405000_30) := (blk_cell BK404.out 0).trans rfl; have hcz77_1 : w76.cell? ⟨gb404, 1, none⟩ = some (.string x405001_30) := (blk_cell BK404.out 1).trans rfl; have hcz77_2 : w76.cell? ⟨gb404, 2, none⟩ = some (.string x405002_30) := (blk_cell BK404.out 2).trans rfl; have hfz77_0 := blk_frozen BK404.out 0; have hfz77_1 := blk_frozen BK404.out 1; have hfz77_2 := blk_frozen BK404.out 2))
                          refine bodyPost_ret (results_ct rfl _ _ gb404 31 #[.int .i64 0, .string (⟨#[]⟩ : ByteArray), .string (⟨#[]⟩ : ByteArray)] (0, 0) _ rfl (by (with_reducible repeat (first | refine blk_drewN ?_ _ | refine blk_drew ?_ | refine blk_alloc ?_ _)); refine blk_put (cs := #[.int .i64 0, .string (⟨#[]⟩ : ByteArray), .string x405002_30]) ?_ 2 _ rfl; (with_reducible repeat (first | refine blk_drewN ?_ _ | refine blk_drew ?_ | refine blk_alloc ?_ _)); refine blk_put (cs := #[.int .i64 0, .string x405001_30, .string x405002_30]) ?_ 1 _ rfl; (with_reducible repeat (first | refine blk_drewN ?_ _ | refine blk_drew ?_ | refine blk_alloc ?_ _)); refine blk_put (cs := #[.int .i64 x405000_30, .string x405001_30, .string x405002_30]) ?_ 0 _ rfl; (with_reducible repeat (first | refine blk_drewN ?_ _ | refine blk_drew ?_ | refine blk_alloc ?_ _)); exact BK404.out) Tryz.underlying31 rfl (by kernel_rfl)) rfl ?_
                          exact ⟨by first | rfl | (simp [errW_none, errW_some] <;> rfl) | (simp only [← hji10, ← hji14, ← hji25]; first | rfl | (simp [errW_none, errW_some] <;> rfl)) | (simp [*, errW_none, errW_some] <;> rfl), by repeat (first | (with_reducible first | exact HB.out | apply below_alloc | apply pw_below_drewN | apply below_drew1 | refine below_set ?_ GE404.out | refine below_set ?_ GE415.out) | exact HB.out)⟩
                   ·rw [if_neg c30] at H
                    exact absurd H (by simp)
                  ·rw [if_neg c28] at H
                   exact absurd H (by simp)
                 ·rw [if_neg c27] at H
                  exact absurd H (by simp)
                ·rw [if_neg c26] at H
                 exact absurd H (by simp)
               ·rw [if_neg c23] at H
                exact absurd H (by simp)
              ·rw [if_neg c22] at H
               exact absurd H (by simp)
           ·rw [if_neg c18] at H
            have c18b0 : ((a0.extract ((ji14) : Int).toNat ((wrap64 (8 + (wrap64 (Int.tdiv (wrap64 ((a0.size : Int) - 11)) 2)))) : Int).toNat).toList == ([48, 49, 48, 49, 48] : List UInt8)) = false := beq_eq_false_iff_ne.mpr c18
            have c18b1 : ((a0.extract ((ji14) : Int).toNat ((wrap64 (8 + (wrap64 (Int.tdiv (wrap64 ((a0.size : Int) - 11)) 2)))) : Int).toNat).toList != ([48, 49, 48, 49, 48] : List UInt8)) = true := bne_iff_ne.mpr c18
            simp only [Option.some.injEq, Prod.mk.injEq] at H
            obtain ⟨rfl, rfl, rfl, rfl⟩ := H
            go_enter Tryz.func80, Tryz.ntmps80
            go_wp2_with (first | ((with_reducible refine gate_dst (N := 2) rfl ?_); refine box_event ?hg (N := 2) ?hd (cs := #[.int .i64 0, .string (⟨#[]⟩ : ByteArray), .string (⟨#[]⟩ : ByteArray)]) (t := 31) ?hr ?_; (case hd => rfl); (case hg => rfl); (case hr => first | (go_simp; done) | (go_simp; rfl)); intro gb404 hg w78 hbox hb; have n0_ := Aside0.mk (below_step (by repeat (first | (with_reducible first | exact HB.out | apply below_alloc | apply pw_below_drewN | apply below_drew1) | exact HB.out)) hb); have n1_ := Aside0.mk (hbox); have n2_ := Aside0.mk ((by rw [hg]; exact (below_size (by repeat (first | (with_reducible first | exact HB.out | apply below_alloc | apply pw_below_drewN | apply below_drew1) | exact HB.out))) : w.heap.size ≤ gb404)); have n3_ := Aside0.mk ((by rw [hg]; exact (below_size (by repeat (first | (with_reducible first | exact HB.out | apply below_alloc | apply pw_below_drewN | apply below_drew1) | exact HB.out))) : w.heap.size ≤ gb404)); clear HB; have HB := n0_; have BK404 := n1_; have GW404 := n2_; have GE404 := n3_; clear n0_ n1_ n2_ n3_; clear hb hbox hg; have hcz79_0 : w78.cell? ⟨gb404, 0, none⟩ = some (.int .i64 0) := (blk_cell BK404.out 0).trans rfl; have hcz79_1 : w78.cell? ⟨gb404, 1, none⟩ = some (.string (⟨#[]⟩ : ByteArray)) := (blk_cell BK404.out 1).trans rfl; have hcz79_2 : w78.cell? ⟨gb404, 2, none⟩ = some (.string (⟨#[]⟩ : ByteArray)) := (blk_cell BK404.out 2).trans rfl; have hfz79_0 := blk_frozen BK404.out 0; have hfz79_1 := blk_frozen BK404.out 1; have hfz79_2 := blk_frozen BK404.out 2))
            refine bodyPost_ret (results_ct rfl _ _ gb404 31 #[.int .i64 0, .string (⟨#[]⟩ : ByteArray), .string (⟨#[]⟩ : ByteArray)] (0, 0) _ rfl (by (with_reducible repeat (first | refine blk_drewN ?_ _ | refine blk_drew ?_ | refine blk_alloc ?_ _)); refine blk_put (cs := #[.int .i64 0, .string (⟨#[]⟩ : ByteArray), .string (⟨#[]⟩ : ByteArray)]) ?_ 2 _ rfl; (with_reducible repeat (first | refine blk_drewN ?_ _ | refine blk_drew ?_ | refine blk_alloc ?_ _)); refine blk_put (cs := #[.int .i64 0, .string (⟨#[]⟩ : ByteArray), .string (⟨#[]⟩ : ByteArray)]) ?_ 1 _ rfl; (with_reducible repeat (first | refine blk_drewN ?_ _ | refine blk_drew ?_ | refine blk_alloc ?_ _)); refine blk_put (cs := #[.int .i64 0, .string (⟨#[]⟩ : ByteArray), .string (⟨#[]⟩ : ByteArray)]) ?_ 0 _ rfl; (with_reducible repeat (first | refine blk_drewN ?_ _ | refine blk_drew ?_ | refine blk_alloc ?_ _)); exact BK404.out) Tryz.underlying31 rfl (by kernel_rfl)) rfl ?_
            exact ⟨by first | rfl | (simp [errW_none, errW_some] <;> rfl) | (simp only [← hji10, ← hji14]; first | rfl | (simp [errW_none, errW_some] <;> rfl)) | (simp [*, errW_none, errW_some] <;> rfl), by repeat (first | (with_reducible first | exact HB.out | apply below_alloc | apply pw_below_drewN | apply below_drew1 | refine below_set ?_ GE404.out) | exact HB.out)⟩
          ·rw [if_neg c17] at H
           exact absurd H (by simp)
         ·rw [if_neg c16] at H
          exact absurd H (by simp)
        ·rw [if_neg c15] at H
         exact absurd H (by simp)
       ·rw [if_neg c13] at H
        have c13b0 : ((a0.extract ((ji10) : Int).toNat a0.size).toList == ([49, 48, 49] : List UInt8)) = false := beq_eq_false_iff_ne.mpr c13
        have c13b1 : ((a0.extract ((ji10) : Int).toNat a0.size).toList != ([49, 48, 49] : List UInt8)) = true := bne_iff_ne.mpr c13
        simp only [Option.some.injEq, Prod.mk.injEq] at H
        obtain ⟨rfl, rfl, rfl, rfl⟩ := H
        go_enter Tryz.func80, Tryz.ntmps80
        go_wp2_with (first | ((with_reducible refine gate_dst (N := 2) rfl ?_); refine box_event ?hg (N := 2) ?hd (cs := #[.int .i64 0, .string (⟨#[]⟩ : ByteArray), .string (⟨#[]⟩ : ByteArray)]) (t := 31) ?hr ?_; (case hd => rfl); (case hg => rfl); (case hr => first | (go_simp; done) | (go_simp; rfl)); intro gb404 hg w80 hbox hb; have n0_ := Aside0.mk (below_step (by repeat (first | (with_reducible first | exact HB.out | apply below_alloc | apply pw_below_drewN | apply below_drew1) | exact HB.out)) hb); have n1_ := Aside0.mk (hbox); have n2_ := Aside0.mk ((by rw [hg]; exact (below_size (by repeat (first | (with_reducible first | exact HB.out | apply below_alloc | apply pw_below_drewN | apply below_drew1) | exact HB.out))) : w.heap.size ≤ gb404)); have n3_ := Aside0.mk ((by rw [hg]; exact (below_size (by repeat (first | (with_reducible first | exact HB.out | apply below_alloc | apply pw_below_drewN | apply below_drew1) | exact HB.out))) : w.heap.size ≤ gb404)); clear HB; have HB := n0_; have BK404 := n1_; have GW404 := n2_; have GE404 := n3_; clear n0_ n1_ n2_ n3_; clear hb hbox hg; have hcz81_0 : w80.cell? ⟨gb404, 0, none⟩ = some (.int .i64 0) := (blk_cell BK404.out 0).trans rfl; have hcz81_1 : w80.cell? ⟨gb404, 1, none⟩ = some (.string (⟨#[]⟩ : ByteArray)) := (blk_cell BK404.out 1).trans rfl; have hcz81_2 : w80.cell? ⟨gb404, 2, none⟩ = some (.string (⟨#[]⟩ : ByteArray)) := (blk_cell BK404.out 2).trans rfl; have hfz81_0 := blk_frozen BK404.out 0; have hfz81_1 := blk_frozen BK404.out 1; have hfz81_2 := blk_frozen BK404.out 2))
        refine bodyPost_ret (results_ct rfl _ _ gb404 31 #[.int .i64 0, .string (⟨#[]⟩ : ByteArray), .string (⟨#[]⟩ : ByteArray)] (0, 0) _ rfl (by (with_reducible repeat (first | refine blk_drewN ?_ _ | refine blk_drew ?_ | refine blk_alloc ?_ _)); refine blk_put (cs := #[.int .i64 0, .string (⟨#[]⟩ : ByteArray), .string (⟨#[]⟩ : ByteArray)]) ?_ 2 _ rfl; (with_reducible repeat (first | refine blk_drewN ?_ _ | refine blk_drew ?_ | refine blk_alloc ?_ _)); refine blk_put (cs := #[.int .i64 0, .string (⟨#[]⟩ : ByteArray), .string (⟨#[]⟩ : ByteArray)]) ?_ 1 _ rfl; (with_reducible repeat (first | refine blk_drewN ?_ _ | refine blk_drew ?_ | refine blk_alloc ?_ _)); refine blk_put (cs := #[.int .i64 0, .string (⟨#[]⟩ : ByteArray), .string (⟨#[]⟩ : ByteArray)]) ?_ 0 _ rfl; (with_reducible repeat (first | refine blk_drewN ?_ _ | refine blk_drew ?_ | refine blk_alloc ?_ _)); exact BK404.out) Tryz.underlying31 rfl (by kernel_rfl)) rfl ?_
        exact ⟨by first | rfl | (simp [errW_none, errW_some] <;> rfl) | (simp only [← hji10]; first | rfl | (simp [errW_none, errW_some] <;> rfl)) | (simp [*, errW_none, errW_some] <;> rfl), by repeat (first | (with_reducible first | exact HB.out | apply below_alloc | apply pw_below_drewN | apply below_drew1 | refine below_set ?_ GE404.out) | exact HB.out)⟩
      ·rw [if_neg c12] at H
       exact absurd H (by simp)
     ·rw [if_neg c11] at H
      exact absurd H (by simp)
    ·rw [if_neg c9] at H
     have c9b0 : ((a0.extract 0 3).toList == ([49, 48, 49] : List UInt8)) = false := beq_eq_false_iff_ne.mpr c9
     have c9b1 : ((a0.extract 0 3).toList != ([49, 48, 49] : List UInt8)) = true := bne_iff_ne.mpr c9
     simp only [Option.some.injEq, Prod.mk.injEq] at H
     obtain ⟨rfl, rfl, rfl, rfl⟩ := H
     go_enter Tryz.func80, Tryz.ntmps80
     go_wp2_with (first | ((with_reducible refine gate_dst (N := 2) rfl ?_); refine box_event ?hg (N := 2) ?hd (cs := #[.int .i64 0, .string (⟨#[]⟩ : ByteArray), .string (⟨#[]⟩ : ByteArray)]) (t := 31) ?hr ?_; (case hd => rfl); (case hg => rfl); (case hr => first | (go_simp; done) | (go_simp; rfl)); intro gb404 hg w82 hbox hb; have n0_ := Aside0.mk (below_step (by repeat (first | (with_reducible first | exact HB.out | apply below_alloc | apply pw_below_drewN | apply below_drew1) | exact HB.out)) hb); have n1_ := Aside0.mk (hbox); have n2_ := Aside0.mk ((by rw [hg]; exact (below_size (by repeat (first | (with_reducible first | exact HB.out | apply below_alloc | apply pw_below_drewN | apply below_drew1) | exact HB.out))) : w.heap.size ≤ gb404)); have n3_ := Aside0.mk ((by rw [hg]; exact (below_size (by repeat (first | (with_reducible first | exact HB.out | apply below_alloc | apply pw_below_drewN | apply below_drew1) | exact HB.out))) : w.heap.size ≤ gb404)); clear HB; have HB := n0_; have BK404 := n1_; have GW404 := n2_; have GE404 := n3_; clear n0_ n1_ n2_ n3_; clear hb hbox hg; have hcz83_0 : w82.cell? ⟨gb404, 0, none⟩ = some (.int .i64 0) := (blk_cell BK404.out 0).trans rfl; have hcz83_1 : w82.cell? ⟨gb404, 1, none⟩ = some (.string (⟨#[]⟩ : ByteArray)) := (blk_cell BK404.out 1).trans rfl; have hcz83_2 : w82.cell? ⟨gb404, 2, none⟩ = some (.string (⟨#[]⟩ : ByteArray)) := (blk_cell BK404.out 2).trans rfl; have hfz83_0 := blk_frozen BK404.out 0; have hfz83_1 := blk_frozen BK404.out 1; have hfz83_2 := blk_frozen BK404.out 2))
     refine bodyPost_ret (results_ct rfl _ _ gb404 31 #[.int .i64 0, .string (⟨#[]⟩ : ByteArray), .string (⟨#[]⟩ : ByteArray)] (0, 0) _ rfl (by (with_reducible repeat (first | refine blk_drewN ?_ _ | refine blk_drew ?_ | refine blk_alloc ?_ _)); refine blk_put (cs := #[.int .i64 0, .string (⟨#[]⟩ : ByteArray), .string (⟨#[]⟩ : ByteArray)]) ?_ 2 _ rfl; (with_reducible repeat (first | refine blk_drewN ?_ _ | refine blk_drew ?_ | refine blk_alloc ?_ _)); refine blk_put (cs := #[.int .i64 0, .string (⟨#[]⟩ : ByteArray), .string (⟨#[]⟩ : ByteArray)]) ?_ 1 _ rfl; (with_reducible repeat (first | refine blk_drewN ?_ _ | refine blk_drew ?_ | refine blk_alloc ?_ _)); refine blk_put (cs := #[.int .i64 0, .string (⟨#[]⟩ : ByteArray), .string (⟨#[]⟩ : ByteArray)]) ?_ 0 _ rfl; (with_reducible repeat (first | refine blk_drewN ?_ _ | refine blk_drew ?_ | refine blk_alloc ?_ _)); exact BK404.out) Tryz.underlying31 rfl (by kernel_rfl)) rfl ?_
     exact ⟨by first | rfl | (simp [errW_none, errW_some] <;> rfl) | (simp [*, errW_none, errW_some] <;> rfl), by repeat (first | (with_reducible first | exact HB.out | apply below_alloc | apply pw_below_drewN | apply below_drew1 | refine below_set ?_ GE404.out) | exact HB.out)⟩
   ·rw [if_neg c8] at H
    exact absurd H (by simp)
  ·rw [if_neg c7] at H
   exact absurd H (by simp)

end Go.Proofs.YtjmeekceecpemaaGreatDoor.Q

namespace Go.Proofs.YtjmeekceecpemaaGreatDoor.Q
open Go.RowKit Go.Proofs.YtjmeekceecpemaaGreatDoorW.PrintWords Go.Proofs.YtjmeekceecpemaaGreatDoorW.PrintLast Go.Proofs.YtjmeekceecpemaaGreatDoorW.PrintMore

set_option linter.unusedVariables false
set_option linter.unusedSimpArgs false

/-! ### ean_readAddOn: function 82 -/
def ean_readAddOn.l0 : Nat → ByteArray → Int → Option (ByteArray × Int)
 | 0, _, _ => none
 | k + 1, x0, x4 => if x4 < (x0.size : Int) then (if 0 ≤ x4 then (if x4 ≤ (wrap64 (x4 + 2)) then (if (wrap64 (x4 + 2)) ≤ (x0.size : Int) then (if (x0.extract (x4 : Int).toNat ((wrap64 (x4 + 2)) : Int).toNat).toList = ([48, 49] : List UInt8) then (ean_readAddOn.l0 k x0 (wrap64 (x4 + 9))) else (some ((⟨#[]⟩ : ByteArray), 18))) else (none)) else (none)) else (none)) else (if 4 ≤ (x0.size : Int) then ((ean_readDigits.f k (x0.extract 4 x0.size) (⟨#[65, 66]⟩ : ByteArray) 9).bind fun bt424 => (if bt424.2.2 = true then ((ean_setsOf.f k bt424.1).bind fun t427 => (if bt424.2.1.toList = t427.toList then (some (bt424.1, 0)) else (some ((⟨#[]⟩ : ByteArray), 8)))) else (some ((⟨#[]⟩ : ByteArray), 18)))) else (none))
def ean_readAddOn.f (k : Nat) (a0 : ByteArray) : Option (ByteArray × Int) := if 0 ≤ 4 then (if 4 ≤ (a0.size : Int) then (if (a0.extract 0 4).toList = ([49, 48, 49, 49] : List UInt8) then (ean_readAddOn.l0 k a0 11) else (some ((⟨#[]⟩ : ByteArray), 19))) else (none)) else (none)
theorem ean_readAddOn.mono_l : ∀ k, (∀ y0 y1, LeO (ean_readAddOn.l0 k y0 y1) (ean_readAddOn.l0 (k + 1) y0 y1))
 | 0 => fun _ _ r h => by simp [ean_readAddOn.l0] at h
 | k + 1 => by
  have ih0 := ean_readAddOn.mono_l k
  ·intro y0 y1
   unfold ean_readAddOn.l0
   repeat' first
   | (with_reducible exact ih0 _ _)
   | (with_reducible exact ean_readDigits.mono _ _ _ _)
   | (with_reducible exact ean_setsOf.mono _ _)
   | (with_reducible exact LeO.refl _)
   | (with_reducible exact LeO.none _)
   | (with_reducible refine LeO.ite ?_ ?_)
   | (with_reducible refine LeO.bind ?_ (fun _ => ?_))
   | exact ih0 _ _
   | exact ean_readDigits.mono _ _ _ _
   | exact ean_setsOf.mono _ _
   | exact LeO.none _
   | refine LeO.ite ?_ ?_
   | refine LeO.bind ?_ (fun _ => ?_)
theorem ean_readAddOn.mono : ∀ a0 k, LeO (ean_readAddOn.f k a0) (ean_readAddOn.f (k + 1) a0) := by
 intro a0 k
 have ih0 := ean_readAddOn.mono_l k
 unfold ean_readAddOn.f
 repeat' first
   | (with_reducible exact ih0 _ _)
   | (with_reducible exact ean_readDigits.mono _ _ _ _)
   | (with_reducible exact ean_setsOf.mono _ _)
   | (with_reducible exact LeO.refl _)
   | (with_reducible exact LeO.none _)
   | (with_reducible refine LeO.ite ?_ ?_)
   | (with_reducible refine LeO.bind ?_ (fun _ => ?_))
   | exact ih0 _ _
   | exact ean_readDigits.mono _ _ _ _
   | exact ean_setsOf.mono _ _
   | exact LeO.none _
   | refine LeO.ite ?_ ?_
   | refine LeO.bind ?_ (fun _ => ?_)
set_option maxHeartbeats 8000000 in
set_option maxRecDepth 100000 in
theorem ean_readAddOn.calls (k : Nat) (a0 : ByteArray) (r1 : ByteArray) (r2 : Int) (w : World) (h : ean_readAddOn.f k a0 = some (r1, r2)) :
  Calls Tryz.prog 82 #[.string a0] w fun e w' => e = .returned (.tuple #[.string r1, .int .i64 r2]) ∧ Below w.heap.size w w' := by
 have HB := Aside0.mk (Below.refl w.heap.size w)
 have H : (if 0 ≤ 4 then (if 4 ≤ (a0.size : Int) then (if (a0.extract 0 4).toList = ([49, 48, 49, 49] : List UInt8) then (ean_readAddOn.l0 k a0 11) else (some ((⟨#[]⟩ : ByteArray), 19))) else (none)) else (none)) = some (r1, r2) := h
 clear h
 by_cases c2 : 0 ≤ 4
 ·rw [if_pos c2] at H
  have c2b0 := eq_true c2
  have c2b1 : decide (0 ≤ 4) = true := decide_eq_true c2
  clear c2
  by_cases c3 : 4 ≤ (a0.size : Int)
  ·rw [if_pos c3] at H
   have c3b0 := eq_true c3
   have c3b1 : decide (4 ≤ (a0.size : Int)) = true := decide_eq_true c3
   clear c3
   by_cases c4 : (a0.extract 0 4).toList = ([49, 48, 49, 49] : List UInt8)
   ·rw [if_pos c4] at H
    have c4b0 : ((a0.extract 0 4).toList == ([49, 48, 49, 49] : List UInt8)) = true := beq_iff_eq.mpr c4
    have c4b1 : ((a0.extract 0 4).toList != ([49, 48, 49, 49] : List UInt8)) = false := bne_eq_false_iff_eq.mpr c4
    clear c4
    have H' := Aside0.mk H
    clear H
    go_enter Tryz.func82, Tryz.ntmps82
    go_wp2
    go_loopg [4] k (fun kq v4 w' => ∃ (x4_1 : Int), v4 = .int .i64 x4_1 ∧ Aside0 (ean_readAddOn.l0 kq a0 x4_1 = some (r1, r2)) ∧ Aside0 (kq ≤ k) ∧ Aside0 (Below w.heap.size w w'))
    case atStart => exact ⟨(11), (by first | rfl | (simp; done) | (simp [*]; done)), H', ⟨Nat.le_refl _⟩, ⟨by repeat (first | (with_reducible first | exact HB.out | apply below_alloc | apply pw_below_drewN | apply below_drew1) | exact HB.out)⟩⟩
    case round =>
     clear H'
     obtain ⟨x4_1, rfl, HA, HK1, HB⟩ := hrel
     cases gk with
     | zero => exact absurd HA.out (by simp [ean_readAddOn.l0])
     | succ k1 =>
      have H := HA.out
      clear HA
      simp only [ean_readAddOn.l0] at H
      by_cases c5 : x4_1 < (a0.size : Int)
      ·rw [if_pos c5] at H
       have c5b0 : decide (x4_1 < (a0.size : Int)) = true := decide_eq_true c5
       clear c5
       by_cases c6 : 0 ≤ x4_1
       ·rw [if_pos c6] at H
        have c6b0 := eq_true c6
        have c6b1 : decide (0 ≤ x4_1) = true := decide_eq_true c6
        clear c6
        by_cases c7 : x4_1 ≤ (wrap64 (x4_1 + 2))
        ·rw [if_pos c7] at H
         have c7b0 := eq_true c7
         have c7b1 : decide (x4_1 ≤ (wrap64 (x4_1 + 2))) = true := decide_eq_true c7
         by_cases c8 : (wrap64 (x4_1 + 2)) ≤ (a0.size : Int)
         ·rw [if_pos c8] at H
          have c8b0 := eq_true c8
          have c8b1 : decide ((wrap64 (x4_1 + 2)) ≤ (a0.size : Int)) = true := decide_eq_true c8
          by_cases c9 : (a0.extract (x4_1 : Int).toNat ((wrap64 (x4_1 + 2)) : Int).toNat).toList = ([48, 49] : List UInt8)
          ·rw [if_pos c9] at H
           have c9b0 : ((a0.extract (x4_1 : Int).toNat ((wrap64 (x4_1 + 2)) : Int).toNat).toList == ([48, 49] : List UInt8)) = true := beq_iff_eq.mpr c9
           have c9b1 : ((a0.extract (x4_1 : Int).toNat ((wrap64 (x4_1 + 2)) : Int).toNat).toList != ([48, 49] : List UInt8)) = false := bne_eq_false_iff_eq.mpr c9
           clear c9
           have H' := Aside0.mk H
           clear H
           go_wp2
           go_roundg k1
           case measure => have := HK1.out; omega
           case rel => exact ⟨(wrap64 (x4_1 + 9)), (by first | rfl | (simp; done) | (simp [*]; done)), H', ⟨by have := HK1.out; omega⟩, ⟨by repeat (first | (with_reducible first | exact HB.out | apply below_alloc | apply pw_below_drewN | apply below_drew1) | exact HB.out)⟩⟩
          ·rw [if_neg c9] at H
           have c9b0 : ((a0.extract (x4_1 : Int).toNat ((wrap64 (x4_1 + 2)) : Int).toNat).toList == ([48, 49] : List UInt8)) = false := beq_eq_false_iff_ne.mpr c9
           have c9b1 : ((a0.extract (x4_1 : Int).toNat ((wrap64 (x4_1 + 2)) : Int).toNat).toList != ([48, 49] : List UInt8)) = true := bne_iff_ne.mpr c9
           simp only [Option.some.injEq, Prod.mk.injEq] at H
           obtain ⟨rfl, rfl⟩ := H
           go_wp2
           go_ret2
           exact ⟨by first | rfl | (simp [errW_none, errW_some] <;> rfl) | (simp [*, errW_none, errW_some] <;> rfl), by repeat (first | (with_reducible first | exact HB.out | apply below_alloc | apply pw_below_drewN | apply below_drew1) | exact HB.out)⟩
         ·rw [if_neg c8] at H
          exact absurd H (by simp)
        ·rw [if_neg c7] at H
         exact absurd H (by simp)
       ·rw [if_neg c6] at H
        exact absurd H (by simp)
      ·rw [if_neg c5] at H
       have c5b0 : decide (x4_1 < (a0.size : Int)) = false := decide_eq_false c5
       clear c5
       by_cases c10 : 4 ≤ (a0.size : Int)
       ·rw [if_pos c10] at H
        have c10b0 := eq_true c10
        have c10b1 : decide (4 ≤ (a0.size : Int)) = true := decide_eq_true c10
        clear c10
        replace H := Option.bind_eq_some_iff.mp H
        obtain ⟨⟨t424, t425, t426⟩, A110, H⟩ := H
        replace H : (if t426 = true then ((ean_setsOf.f k1 t424).bind fun t427 => (if t425.toList = t427.toList then (some (t424, 0)) else (some ((⟨#[]⟩ : ByteArray), 8)))) else (some ((⟨#[]⟩ : ByteArray), 18))) = some (r1, r2) := H
        have A11 := Aside0.mk A110
        clear A110
        by_cases c12 : t426 = true
        ·subst c12
         have H1 : ((ean_setsOf.f k1 t424).bind fun t427 => (if t425.toList = t427.toList then (some (t424, 0)) else (some ((⟨#[]⟩ : ByteArray), 8)))) = some (r1, r2) := by rw [if_pos rfl] at H; exact H
         clear H
         have H := H1
         clear H1
         replace H := Option.bind_eq_some_iff.mp H
         obtain ⟨t427, A130, H⟩ := H
         replace H : (if t425.toList = t427.toList then (some (t424, 0)) else (some ((⟨#[]⟩ : ByteArray), 8))) = some (r1, r2) := H
         have A13 := Aside0.mk A130
         clear A130
         by_cases c14 : t425.toList = t427.toList
         ·rw [if_pos c14] at H
          have c14b0 : (t425.toList == t427.toList) = true := beq_iff_eq.mpr c14
          have c14b1 : (t425.toList != t427.toList) = false := bne_eq_false_iff_eq.mpr c14
          clear c14
          simp only [Option.some.injEq, Prod.mk.injEq] at H
          obtain ⟨rfl, rfl⟩ := H
          go_wp2_with (first | ((with_reducible refine gate_callee (f := 106) rfl ?_); refine goesL_ (some 26) rfl rfl Tryz.func106 (by kernel_rfl) rfl #[.string (a0.extract 4 a0.size), .string (⟨#[65, 66]⟩ : ByteArray), .int .i64 9] rfl (by (try simp only [List.map_toArray, List.map_cons, List.map_nil]); first | done | rfl | (simp only [List.length_drop, List.length_take]; rfl)) ?_; (with_reducible refine (ean_readDigits.calls k1 (a0.extract 4 a0.size) (⟨#[65, 66]⟩ : ByteArray) 9 t424 t425 true _ A11.out).mono ?_); rintro e w15 ⟨rfl, hb⟩; refine ⟨_, rfl, ?_⟩; have n0_ := Aside0.mk (below_step (by repeat (first | (with_reducible first | exact HB.out | apply below_alloc | apply pw_below_drewN | apply below_drew1) | exact HB.out)) hb); clear HB; have HB := n0_; clear n0_; (try clear hb); (try clear hb2); (try clear hk); (try clear hi)) | ((with_reducible refine gate_callee (f := 32) rfl ?_); refine goesL_ (some 36) rfl rfl Tryz.func32 (by kernel_rfl) rfl #[.string t424] rfl (by (try simp only [List.map_toArray, List.map_cons, List.map_nil]); first | done | rfl | (simp only [List.length_drop, List.length_take]; rfl)) ?_; (with_reducible refine (ean_setsOf.calls k1 t424 t427 _ A13.out).mono ?_); rintro e w16 ⟨rfl, hb⟩; refine ⟨_, rfl, ?_⟩; have n0_ := Aside0.mk (below_step (by repeat (first | (with_reducible first | exact HB.out | apply below_alloc | apply pw_below_drewN | apply below_drew1) | exact HB.out)) hb); clear HB; have HB := n0_; clear n0_; (try clear hb); (try clear hb2); (try clear hk); (try clear hi)))
          go_ret2
          exact ⟨by first | rfl | (simp [errW_none, errW_some] <;> rfl) | (simp [*, errW_none, errW_some] <;> rfl), by repeat (first | (with_reducible first | exact HB.out | apply below_alloc | apply pw_below_drewN | apply below_drew1) | exact HB.out)⟩
         ·rw [if_neg c14] at H
          have c14b0 : (t425.toList == t427.toList) = false := beq_eq_false_iff_ne.mpr c14
          have c14b1 : (t425.toList != t427.toList) = true := bne_iff_ne.mpr c14
          simp only [Option.some.injEq, Prod.mk.injEq] at H
          obtain ⟨rfl, rfl⟩ := H
          go_wp2_with (first | ((with_reducible refine gate_callee (f := 106) rfl ?_); refine goesL_ (some 26) rfl rfl Tryz.func106 (by kernel_rfl) rfl #[.string (a0.extract 4 a0.size), .string (⟨#[65, 66]⟩ : ByteArray), .int .i64 9] rfl (by (try simp only [List.map_toArray, List.map_cons, List.map_nil]); first | done | rfl | (simp only [List.length_drop, List.length_take]; rfl)) ?_; (with_reducible refine (ean_readDigits.calls k1 (a0.extract 4 a0.size) (⟨#[65, 66]⟩ : ByteArray) 9 t424 t425 true _ A11.out).mono ?_); rintro e w17 ⟨rfl, hb⟩; refine ⟨_, rfl, ?_⟩; have n0_ := Aside0.mk (below_step (by repeat (first | (with_reducible first | exact HB.out | apply below_alloc | apply pw_below_drewN | apply below_drew1) | exact HB.out)) hb); clear HB; have HB := n0_; clear n0_; (try clear hb); (try clear hb2); (try clear hk); (try clear hi)) | ((with_reducible refine gate_callee (f := 32) rfl ?_); refine goesL_ (some 36) rfl rfl Tryz.func32 (by kernel_rfl) rfl #[.string t424] rfl (by (try simp only [List.map_toArray, List.map_cons, List.map_nil]); first | done | rfl | (simp only [List.length_drop, List.length_take]; rfl)) ?_; (with_reducible refine (ean_setsOf.calls k1 t424 t427 _ A13.out).mono ?_); rintro e w18 ⟨rfl, hb⟩; refine ⟨_, rfl, ?_⟩; have n0_ := Aside0.mk (below_step (by repeat (first | (with_reducible first | exact HB.out | apply below_alloc | apply pw_below_drewN | apply below_drew1) | exact HB.out)) hb); clear HB; have HB := n0_; clear n0_; (try clear hb); (try clear hb2); (try clear hk); (try clear hi)))
          go_ret2
          exact ⟨by first | rfl | (simp [errW_none, errW_some] <;> rfl) | (simp [*, errW_none, errW_some] <;> rfl), by repeat (first | (with_reducible first | exact HB.out | apply below_alloc | apply pw_below_drewN | apply below_drew1) | exact HB.out)⟩
        ·replace c12 := Bool.eq_false_iff.mpr c12
         subst c12
         have H1 : (some ((⟨#[]⟩ : ByteArray), 18)) = some (r1, r2) := by rw [if_neg (show ¬ (false = true) by decide)] at H; exact H
         clear H
         have H := H1
         clear H1
         simp only [Option.some.injEq, Prod.mk.injEq] at H
         obtain ⟨rfl, rfl⟩ := H
         go_wp2_with (first | ((with_reducible refine gate_callee (f := 106) rfl ?_); refine goesL_ (some 26) rfl rfl Tryz.func106 (by kernel_rfl) rfl #[.string (a0.extract 4 a0.size), .string (⟨#[65, 66]⟩ : ByteArray), .int .i64 9] rfl (by (try simp only [List.map_toArray, List.map_cons, List.map_nil]); first | done | rfl | (simp only [List.length_drop, List.length_take]; rfl)) ?_; (with_reducible refine (ean_readDigits.calls k1 (a0.extract 4 a0.size) (⟨#[65, 66]⟩ : ByteArray) 9 t424 t425 false _ A11.out).mono ?_); rintro e w19 ⟨rfl, hb⟩; refine ⟨_, rfl, ?_⟩; have n0_ := Aside0.mk (below_step (by repeat (first | (with_reducible first | exact HB.out | apply below_alloc | apply pw_below_drewN | apply below_drew1) | exact HB.out)) hb); clear HB; have HB := n0_; clear n0_; (try clear hb); (try clear hb2); (try clear hk); (try clear hi)))
         go_ret2
         exact ⟨by first | rfl | (simp [errW_none, errW_some] <;> rfl) | (simp [*, errW_none, errW_some] <;> rfl), by repeat (first | (with_reducible first | exact HB.out | apply below_alloc | apply pw_below_drewN | apply below_drew1) | exact HB.out)⟩
       ·rw [if_neg c10] at H
        exact absurd H (by simp)
   ·rw [if_neg c4] at H
    have c4b0 : ((a0.extract 0 4).toList == ([49, 48, 49, 49] : List UInt8)) = false := beq_eq_false_iff_ne.mpr c4
    have c4b1 : ((a0.extract 0 4).toList != ([49, 48, 49, 49] : List UInt8)) = true := bne_iff_ne.mpr c4
    simp only [Option.some.injEq, Prod.mk.injEq] at H
    obtain ⟨rfl, rfl⟩ := H
    go_enter Tryz.func82, Tryz.ntmps82
    go_wp2
    go_ret2
    exact ⟨by first | rfl | (simp [errW_none, errW_some] <;> rfl) | (simp [*, errW_none, errW_some] <;> rfl), by repeat (first | (with_reducible first | exact HB.out | apply below_alloc | apply pw_below_drewN | apply below_drew1) | exact HB.out)⟩
  ·rw [if_neg c3] at H
   exact absurd H (by simp)
 ·rw [if_neg c2] at H
  exact absurd H (by simp)

end Go.Proofs.YtjmeekceecpemaaGreatDoor.Q
