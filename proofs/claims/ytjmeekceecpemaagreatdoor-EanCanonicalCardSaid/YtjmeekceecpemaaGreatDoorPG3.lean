/- Joined by a program of this work (pack.py) out of the texts Qeanread, QeanreadAddOn, Qeanshape, QeanDecode, QeanComplete of this seat, in build order. -/
import Derived.Test.YtjmeekceecpemaaGreatDoorPG2
namespace Go.Proofs.YtjmeekceecpemaaGreatDoor.Q
open Go.RowKit Go.Proofs.YtjmeekceecpemaaGreatDoorW.PrintWords Go.Proofs.YtjmeekceecpemaaGreatDoorW.PrintLast Go.Proofs.YtjmeekceecpemaaGreatDoorW.PrintMore

set_option linter.unusedVariables false
set_option linter.unusedSimpArgs false

/-! ### ean_read: function 80 -/
mutual
def ean_read.j0 : Nat → ByteArray → Int → ByteArray → Option (Int × ByteArray × ByteArray × Int)
 | 0, _, _, _ => none
 | k + 1, x0, x4, x5 => if 3 ≤ (wrap64 (3 + x4)) then (if (wrap64 (3 + x4)) ≤ (x0.size : Int) then ((ean_readDigits.f k (x0.extract 3 ((wrap64 (3 + x4)) : Int).toNat) x5 7).bind fun bt409 => (if 0 ≤ (wrap64 (8 + x4)) then (if (wrap64 (8 + x4)) ≤ (wrap64 ((x0.size : Int) - 3)) then (if (wrap64 ((x0.size : Int) - 3)) ≤ (x0.size : Int) then ((ean_readDigits.f k (x0.extract ((wrap64 (8 + x4)) : Int).toNat ((wrap64 ((x0.size : Int) - 3)) : Int).toNat) (⟨#[67]⟩ : ByteArray) 7).bind fun bt412 => (if bt409.1.size + bt412.1.size ≤ 9223372036854775807 then (if (x0.size : Int) = 95 then ((ean_parity13.f).bind fun t416 => ((slices_Index_string_string.f k t416 bt409.2.1).bind fun t419 => (if t419 < 0 then (some (0, (⟨#[]⟩ : ByteArray), (⟨#[]⟩ : ByteArray), 18)) else ((some (([(wrap64 (48 + t419)) % 256] : List Int) : List Int)).bind fun y420 => (if (strOfNums y420).size + bt409.1.size ≤ 9223372036854775807 then (if ((strOfNums y420) ++ bt409.1).size + bt412.1.size ≤ 9223372036854775807 then (if t419 = 0 then (ean_read.j1 k bt409.2.2 bt412.2.2 3 (bt409.1 ++ bt412.1) (⟨#[]⟩ : ByteArray)) else (ean_read.j1 k bt409.2.2 bt412.2.2 1 (((strOfNums y420) ++ bt409.1) ++ bt412.1) (⟨#[]⟩ : ByteArray))) else (none)) else (none)))))) else (ean_read.j1 k bt409.2.2 bt412.2.2 2 (bt409.1 ++ bt412.1) (⟨#[]⟩ : ByteArray))) else (none))) else (none)) else (none)) else (none))) else (none)) else (none)
def ean_read.j1 : Nat → Bool → Bool → Int → ByteArray → ByteArray → Option (Int × ByteArray × ByteArray × Int)
 | 0, _, _, _, _, _ => none
 | k + 1, x8, x11, x416000, x416001, x416002 => if x8 = true then (ean_read.j2 k (!x11) x416000 x416001 x416002) else (ean_read.j2 k true x416000 x416001 x416002)
def ean_read.j2 : Nat → Bool → Int → ByteArray → ByteArray → Option (Int × ByteArray × ByteArray × Int)
 | 0, _, _, _, _ => none
 | k + 1, x101, x416000, x416001, x416002 => if x101 = true then (some (0, (⟨#[]⟩ : ByteArray), (⟨#[]⟩ : ByteArray), 18)) else ((ean_complete.f k x416000 x416001).bind fun t423 => (if t423 = 0 then (some (x416000, x416001, x416002, 0)) else (some (0, (⟨#[]⟩ : ByteArray), (⟨#[]⟩ : ByteArray), 8))))
end
def ean_read.f (k : Nat) (a0 : ByteArray) : Option (Int × ByteArray × ByteArray × Int) := if (a0.size : Int) = 51 then ((ean_readE.f k a0).bind fun bt405 => (some (bt405.1, bt405.2.1, bt405.2.2.1, bt405.2.2.2))) else (if 0 ≤ 3 then (if 3 ≤ (a0.size : Int) then (if (a0.extract 0 3).toList = ([49, 48, 49] : List UInt8) then (if 0 ≤ (wrap64 ((a0.size : Int) - 3)) then (if (wrap64 ((a0.size : Int) - 3)) ≤ (a0.size : Int) then (if (a0.extract ((wrap64 ((a0.size : Int) - 3)) : Int).toNat a0.size).toList = ([49, 48, 49] : List UInt8) then (if 0 ≤ (wrap64 (3 + (wrap64 (Int.tdiv (wrap64 ((a0.size : Int) - 11)) 2)))) then (if (wrap64 (3 + (wrap64 (Int.tdiv (wrap64 ((a0.size : Int) - 11)) 2)))) ≤ (wrap64 (8 + (wrap64 (Int.tdiv (wrap64 ((a0.size : Int) - 11)) 2)))) then (if (wrap64 (8 + (wrap64 (Int.tdiv (wrap64 ((a0.size : Int) - 11)) 2)))) ≤ (a0.size : Int) then (if (a0.extract ((wrap64 (3 + (wrap64 (Int.tdiv (wrap64 ((a0.size : Int) - 11)) 2)))) : Int).toNat ((wrap64 (8 + (wrap64 (Int.tdiv (wrap64 ((a0.size : Int) - 11)) 2)))) : Int).toNat).toList = ([48, 49, 48, 49, 48] : List UInt8) then (if (a0.size : Int) = 67 then (ean_read.j0 k a0 (wrap64 (Int.tdiv (wrap64 ((a0.size : Int) - 11)) 2)) (⟨#[65]⟩ : ByteArray)) else (ean_read.j0 k a0 (wrap64 (Int.tdiv (wrap64 ((a0.size : Int) - 11)) 2)) (⟨#[65, 66]⟩ : ByteArray))) else (some (0, (⟨#[]⟩ : ByteArray), (⟨#[]⟩ : ByteArray), 18))) else (none)) else (none)) else (none)) else (some (0, (⟨#[]⟩ : ByteArray), (⟨#[]⟩ : ByteArray), 20))) else (none)) else (none)) else (some (0, (⟨#[]⟩ : ByteArray), (⟨#[]⟩ : ByteArray), 19))) else (none)) else (none))
theorem ean_read.mono_l : ∀ k, (∀ y0 y1 y2, LeO (ean_read.j0 k y0 y1 y2) (ean_read.j0 (k + 1) y0 y1 y2)) ∧ (∀ y0 y1 y2 y3 y4, LeO (ean_read.j1 k y0 y1 y2 y3 y4) (ean_read.j1 (k + 1) y0 y1 y2 y3 y4)) ∧ (∀ y0 y1 y2 y3, LeO (ean_read.j2 k y0 y1 y2 y3) (ean_read.j2 (k + 1) y0 y1 y2 y3))
 | 0 => ⟨fun _ _ _ r h => by simp [ean_read.j0] at h, fun _ _ _ _ _ r h => by simp [ean_read.j1] at h, fun _ _ _ _ r h => by simp [ean_read.j2] at h⟩
 | k + 1 => by
  obtain ⟨ih0, ih1, ih2⟩ := ean_read.mono_l k
  refine ⟨?_, ?_, ?_⟩
  ·intro y0 y1 y2
   unfold ean_read.j0
   repeat' with_reducible first | exact ih0 _ _ _ | exact ih1 _ _ _ _ _ | exact ih2 _ _ _ _ | exact ean_complete.mono _ _ _ | exact ean_readDigits.mono _ _ _ _ | exact ean_readE.mono _ _ | exact slices_Index_string_string.mono _ _ _ | exact LeO.refl _ | exact LeO.none _ | refine LeO.ite ?_ ?_ | refine LeO.bind ?_ (fun _ => ?_)
  ·intro y0 y1 y2 y3 y4
   unfold ean_read.j1
   repeat' with_reducible first | exact ih0 _ _ _ | exact ih1 _ _ _ _ _ | exact ih2 _ _ _ _ | exact ean_complete.mono _ _ _ | exact ean_readDigits.mono _ _ _ _ | exact ean_readE.mono _ _ | exact slices_Index_string_string.mono _ _ _ | exact LeO.refl _ | exact LeO.none _ | refine LeO.ite ?_ ?_ | refine LeO.bind ?_ (fun _ => ?_)
  ·intro y0 y1 y2 y3
   unfold ean_read.j2
   repeat' with_reducible first | exact ih0 _ _ _ | exact ih1 _ _ _ _ _ | exact ih2 _ _ _ _ | exact ean_complete.mono _ _ _ | exact ean_readDigits.mono _ _ _ _ | exact ean_readE.mono _ _ | exact slices_Index_string_string.mono _ _ _ | exact LeO.refl _ | exact LeO.none _ | refine LeO.ite ?_ ?_ | refine LeO.bind ?_ (fun _ => ?_)
theorem ean_read.mono : ∀ a0 k, LeO (ean_read.f k a0) (ean_read.f (k + 1) a0) := by
 intro a0 k
 obtain ⟨ih0, ih1, ih2⟩ := ean_read.mono_l k
 unfold ean_read.f
 repeat' with_reducible first | exact ih0 _ _ _ | exact ih1 _ _ _ _ _ | exact ih2 _ _ _ _ | exact ean_complete.mono _ _ _ | exact ean_readDigits.mono _ _ _ _ | exact ean_readE.mono _ _ | exact slices_Index_string_string.mono _ _ _ | exact LeO.refl _ | exact LeO.none _ | refine LeO.ite ?_ ?_ | refine LeO.bind ?_ (fun _ => ?_)
set_option maxHeartbeats 8000000 in
set_option maxRecDepth 100000 in
theorem ean_read.calls (k : Nat) (a0 : ByteArray) (r1 : Int) (r2 : ByteArray) (r3 : ByteArray) (r4 : Int) (w : World) (h : ean_read.f k a0 = some (r1, r2, r3, r4)) :
  Calls Tryz.prog 80 #[.string a0] w fun e w' => e = .returned (.tuple #[.agg #[.int .i64 r1, .string r2, .string r3], .int .i64 r4]) ∧ Below w.heap.size w w' := by
 have hu31 := Tryz.underlying31
 have HB := Aside0.mk (Below.refl w.heap.size w)
 have H := h
 clear h
 unfold ean_read.f at H
 replace H := ifc H
 obtain ⟨c2, H⟩ | ⟨c2, H⟩ := H
 ·have c2b0 : ((a0.size : Int) == 51) = true := beq_iff_eq.mpr c2
  have c2b1 : ((a0.size : Int) != 51) = false := bne_eq_false_iff_eq.mpr c2
  clear c2
  replace H := bd H
  obtain ⟨⟨t405, t406, t407, t408⟩, A3, H⟩ := H
  simp only [Option.some.injEq, Prod.mk.injEq] at H
  obtain ⟨rfl, rfl, rfl, rfl⟩ := H
  go_enter Tryz.func80, Tryz.ntmps80
  go_wp2_with (first | ((with_reducible refine gate_dst (N := 2) rfl ?_); refine box_event ?hg (N := 2) ?hd (cs := #[.int .i64 0, .string (⟨#[]⟩ : ByteArray), .string (⟨#[]⟩ : ByteArray)]) (t := 31) ?hr ?_; (case hd => rfl); (case hg => rfl); (case hr => first | (go_simp; done) | (go_simp; rfl)); intro gb404 hg w4 hbox hb; have n0_ := Aside0.mk (below_step bw hb); have n1_ := Aside0.mk (hbox); have n2_ := Aside0.mk ((by rw [hg]; exact (below_size bw) : w.heap.size ≤ gb404)); have n3_ := Aside0.mk ((by rw [hg]; exact (below_size bw) : w.heap.size ≤ gb404)); clear HB; have HB := n0_; have BK404 := n1_; have GW404 := n2_; have GE404 := n3_; clear n0_ n1_ n2_ n3_; clear hb hbox hg) | ((with_reducible refine gate_callee (f := 105) rfl ?_); refine goesL_ (some 18) rfl rfl Tryz.func105 kr rfl #[.string a0] rfl ar ?_; (with_reducible refine (ean_readE.calls k a0 t405 t406 t407 t408 _ A3.out).mono ?_); rintro e w5 ⟨rfl, hb⟩; refine ⟨_, rfl, ?_⟩; replace BK404 := Aside0.mk (blk_below (g := gb404) (o := .cells #[.int .i64 0, .string (⟨#[]⟩ : ByteArray), .string (⟨#[]⟩ : ByteArray)] 31 (0, 0)) (bk BK404) hb); replace HB := Aside0.mk (below_step bw hb); clear hb; have hcz6_0 : w5.cell? ⟨gb404, 0, none⟩ = some (.int .i64 0) := (blk_cell BK404.out 0).trans rfl; have hcz6_1 : w5.cell? ⟨gb404, 1, none⟩ = some (.string (⟨#[]⟩ : ByteArray)) := (blk_cell BK404.out 1).trans rfl; have hcz6_2 : w5.cell? ⟨gb404, 2, none⟩ = some (.string (⟨#[]⟩ : ByteArray)) := (blk_cell BK404.out 2).trans rfl; have hfz6_0 := blk_frozen BK404.out 0; have hfz6_1 := blk_frozen BK404.out 1; have hfz6_2 := blk_frozen BK404.out 2))
  refine bodyPost_ret (results_ct rfl _ _ gb404 31 #[.int .i64 t405, .string t406, .string t407] (0, 0) _ rfl (by (with_reducible repeat (first | refine blk_drewN ?_ _ | refine blk_drew ?_ | refine blk_alloc ?_ _)); refine blk_put (cs := #[.int .i64 t405, .string t406, .string (⟨#[]⟩ : ByteArray)]) ?_ 2 _ rfl; (with_reducible repeat (first | refine blk_drewN ?_ _ | refine blk_drew ?_ | refine blk_alloc ?_ _)); refine blk_put (cs := #[.int .i64 t405, .string (⟨#[]⟩ : ByteArray), .string (⟨#[]⟩ : ByteArray)]) ?_ 1 _ rfl; (with_reducible repeat (first | refine blk_drewN ?_ _ | refine blk_drew ?_ | refine blk_alloc ?_ _)); refine blk_put (cs := #[.int .i64 0, .string (⟨#[]⟩ : ByteArray), .string (⟨#[]⟩ : ByteArray)]) ?_ 0 _ rfl; (with_reducible repeat (first | refine blk_drewN ?_ _ | refine blk_drew ?_ | refine blk_alloc ?_ _)); exact BK404.out) Tryz.underlying31 rfl kr) rfl ?_
  exact ⟨es, bw⟩
 have c2b0 : ((a0.size : Int) == 51) = false := beq_eq_false_iff_ne.mpr c2
 have c2b1 : ((a0.size : Int) != 51) = true := bne_iff_ne.mpr c2
 replace H := ifc H
 obtain ⟨c7, H⟩ | ⟨c7, H⟩ := H
 rotate_left
 ·exact absurd H (by simp)
 have c7b0 := eq_true c7
 have c7b1 : decide (0 ≤ 3) = true := decide_eq_true c7
 clear c7
 replace H := ifn H
 obtain ⟨c8, H⟩ := H
 have c8b0 := eq_true c8
 have c8b1 : decide (3 ≤ (a0.size : Int)) = true := decide_eq_true c8
 clear c8
 by_cases c9 : (a0.extract 0 3).toList = ([49, 48, 49] : List UInt8)
 rotate_left
 ·rw [if_neg c9] at H
  have c9b0 : ((a0.extract 0 3).toList == ([49, 48, 49] : List UInt8)) = false := beq_eq_false_iff_ne.mpr c9
  have c9b1 : ((a0.extract 0 3).toList != ([49, 48, 49] : List UInt8)) = true := bne_iff_ne.mpr c9
  simp only [Option.some.injEq, Prod.mk.injEq] at H
  obtain ⟨rfl, rfl, rfl, rfl⟩ := H
  go_enter Tryz.func80, Tryz.ntmps80
  go_wp2_with (first | ((with_reducible refine gate_dst (N := 2) rfl ?_); refine box_event ?hg (N := 2) ?hd (cs := #[.int .i64 0, .string (⟨#[]⟩ : ByteArray), .string (⟨#[]⟩ : ByteArray)]) (t := 31) ?hr ?_; (case hd => rfl); (case hg => rfl); (case hr => first | (go_simp; done) | (go_simp; rfl)); intro gb404 hg w82 hbox hb; have n0_ := Aside0.mk (below_step bw hb); have n1_ := Aside0.mk (hbox); have n2_ := Aside0.mk ((by rw [hg]; exact (below_size bw) : w.heap.size ≤ gb404)); have n3_ := Aside0.mk ((by rw [hg]; exact (below_size bw) : w.heap.size ≤ gb404)); clear HB; have HB := n0_; have BK404 := n1_; have GW404 := n2_; have GE404 := n3_; clear n0_ n1_ n2_ n3_; clear hb hbox hg; have hcz83_0 : w82.cell? ⟨gb404, 0, none⟩ = some (.int .i64 0) := (blk_cell BK404.out 0).trans rfl; have hcz83_1 : w82.cell? ⟨gb404, 1, none⟩ = some (.string (⟨#[]⟩ : ByteArray)) := (blk_cell BK404.out 1).trans rfl; have hcz83_2 : w82.cell? ⟨gb404, 2, none⟩ = some (.string (⟨#[]⟩ : ByteArray)) := (blk_cell BK404.out 2).trans rfl; have hfz83_0 := blk_frozen BK404.out 0; have hfz83_1 := blk_frozen BK404.out 1; have hfz83_2 := blk_frozen BK404.out 2))
  refine bodyPost_ret (results_ct rfl _ _ gb404 31 #[.int .i64 0, .string (⟨#[]⟩ : ByteArray), .string (⟨#[]⟩ : ByteArray)] (0, 0) _ rfl (by (with_reducible repeat (first | refine blk_drewN ?_ _ | refine blk_drew ?_ | refine blk_alloc ?_ _)); refine blk_put (cs := #[.int .i64 0, .string (⟨#[]⟩ : ByteArray), .string (⟨#[]⟩ : ByteArray)]) ?_ 2 _ rfl; (with_reducible repeat (first | refine blk_drewN ?_ _ | refine blk_drew ?_ | refine blk_alloc ?_ _)); refine blk_put (cs := #[.int .i64 0, .string (⟨#[]⟩ : ByteArray), .string (⟨#[]⟩ : ByteArray)]) ?_ 1 _ rfl; (with_reducible repeat (first | refine blk_drewN ?_ _ | refine blk_drew ?_ | refine blk_alloc ?_ _)); refine blk_put (cs := #[.int .i64 0, .string (⟨#[]⟩ : ByteArray), .string (⟨#[]⟩ : ByteArray)]) ?_ 0 _ rfl; (with_reducible repeat (first | refine blk_drewN ?_ _ | refine blk_drew ?_ | refine blk_alloc ?_ _)); exact BK404.out) Tryz.underlying31 rfl kr) rfl ?_
  exact ⟨es, bw⟩
 rw [if_pos c9] at H
 have c9b0 : ((a0.extract 0 3).toList == ([49, 48, 49] : List UInt8)) = true := beq_iff_eq.mpr c9
 have c9b1 : ((a0.extract 0 3).toList != ([49, 48, 49] : List UInt8)) = false := bne_eq_false_iff_eq.mpr c9
 clear c9
 obtain ⟨ji10, hji10⟩ : ∃ j_ : Int, (wrap64 ((a0.size : Int) - 3)) = j_ := ⟨_, rfl⟩
 replace H : (if 0 ≤ (ji10) then (if (ji10) ≤ (a0.size : Int) then (if (a0.extract ((ji10) : Int).toNat a0.size).toList = ([49, 48, 49] : List UInt8) then (if 0 ≤ (wrap64 (3 + (wrap64 (Int.tdiv (wrap64 ((a0.size : Int) - 11)) 2)))) then (if (wrap64 (3 + (wrap64 (Int.tdiv (wrap64 ((a0.size : Int) - 11)) 2)))) ≤ (wrap64 (8 + (wrap64 (Int.tdiv (wrap64 ((a0.size : Int) - 11)) 2)))) then (if (wrap64 (8 + (wrap64 (Int.tdiv (wrap64 ((a0.size : Int) - 11)) 2)))) ≤ (a0.size : Int) then (if (a0.extract ((wrap64 (3 + (wrap64 (Int.tdiv (wrap64 ((a0.size : Int) - 11)) 2)))) : Int).toNat ((wrap64 (8 + (wrap64 (Int.tdiv (wrap64 ((a0.size : Int) - 11)) 2)))) : Int).toNat).toList = ([48, 49, 48, 49, 48] : List UInt8) then (if (a0.size : Int) = 67 then (ean_read.j0 k a0 (wrap64 (Int.tdiv (wrap64 ((a0.size : Int) - 11)) 2)) (⟨#[65]⟩ : ByteArray)) else (ean_read.j0 k a0 (wrap64 (Int.tdiv (wrap64 ((a0.size : Int) - 11)) 2)) (⟨#[65, 66]⟩ : ByteArray))) else (some (0, (⟨#[]⟩ : ByteArray), (⟨#[]⟩ : ByteArray), 18))) else (none)) else (none)) else (none)) else (some (0, (⟨#[]⟩ : ByteArray), (⟨#[]⟩ : ByteArray), 20))) else (none)) else (none)) = some (r1, r2, r3, r4) := by first | (rw [hji10] at H; exact H) | (simp only [hji10] at H ⊢; exact H)
 have hji10w : (IntKind.i64.wrap ((a0.size : Int) - 3)) = ji10 := (i64_w _).trans hji10
 replace H := ifn H
 obtain ⟨c11, H⟩ := H
 have c11b0 := eq_true c11
 have c11b1 : decide (0 ≤ (ji10)) = true := decide_eq_true c11
 clear c11
 by_cases c12 : (ji10) ≤ (a0.size : Int)
 rotate_left
 ·rw [if_neg c12] at H
  exact absurd H (by simp)
 rw [if_pos c12] at H
 have c12b0 := eq_true c12
 have c12b1 : decide ((ji10) ≤ (a0.size : Int)) = true := decide_eq_true c12
 clear c12
 replace H := ifc H
 obtain ⟨c13, H⟩ | ⟨c13, H⟩ := H
 rotate_left
 ·have c13b0 : ((a0.extract ((ji10) : Int).toNat a0.size).toList == ([49, 48, 49] : List UInt8)) = false := beq_eq_false_iff_ne.mpr c13
  have c13b1 : ((a0.extract ((ji10) : Int).toNat a0.size).toList != ([49, 48, 49] : List UInt8)) = true := bne_iff_ne.mpr c13
  simp only [Option.some.injEq, Prod.mk.injEq] at H
  obtain ⟨rfl, rfl, rfl, rfl⟩ := H
  go_enter Tryz.func80, Tryz.ntmps80
  go_wp2_with (first | ((with_reducible refine gate_dst (N := 2) rfl ?_); refine box_event ?hg (N := 2) ?hd (cs := #[.int .i64 0, .string (⟨#[]⟩ : ByteArray), .string (⟨#[]⟩ : ByteArray)]) (t := 31) ?hr ?_; (case hd => rfl); (case hg => rfl); (case hr => first | (go_simp; done) | (go_simp; rfl)); intro gb404 hg w80 hbox hb; have n0_ := Aside0.mk (below_step bw hb); have n1_ := Aside0.mk (hbox); have n2_ := Aside0.mk ((by rw [hg]; exact (below_size bw) : w.heap.size ≤ gb404)); have n3_ := Aside0.mk ((by rw [hg]; exact (below_size bw) : w.heap.size ≤ gb404)); clear HB; have HB := n0_; have BK404 := n1_; have GW404 := n2_; have GE404 := n3_; clear n0_ n1_ n2_ n3_; clear hb hbox hg; have hcz81_0 : w80.cell? ⟨gb404, 0, none⟩ = some (.int .i64 0) := (blk_cell BK404.out 0).trans rfl; have hcz81_1 : w80.cell? ⟨gb404, 1, none⟩ = some (.string (⟨#[]⟩ : ByteArray)) := (blk_cell BK404.out 1).trans rfl; have hcz81_2 : w80.cell? ⟨gb404, 2, none⟩ = some (.string (⟨#[]⟩ : ByteArray)) := (blk_cell BK404.out 2).trans rfl; have hfz81_0 := blk_frozen BK404.out 0; have hfz81_1 := blk_frozen BK404.out 1; have hfz81_2 := blk_frozen BK404.out 2))
  refine bodyPost_ret (results_ct rfl _ _ gb404 31 #[.int .i64 0, .string (⟨#[]⟩ : ByteArray), .string (⟨#[]⟩ : ByteArray)] (0, 0) _ rfl (by (with_reducible repeat (first | refine blk_drewN ?_ _ | refine blk_drew ?_ | refine blk_alloc ?_ _)); refine blk_put (cs := #[.int .i64 0, .string (⟨#[]⟩ : ByteArray), .string (⟨#[]⟩ : ByteArray)]) ?_ 2 _ rfl; (with_reducible repeat (first | refine blk_drewN ?_ _ | refine blk_drew ?_ | refine blk_alloc ?_ _)); refine blk_put (cs := #[.int .i64 0, .string (⟨#[]⟩ : ByteArray), .string (⟨#[]⟩ : ByteArray)]) ?_ 1 _ rfl; (with_reducible repeat (first | refine blk_drewN ?_ _ | refine blk_drew ?_ | refine blk_alloc ?_ _)); refine blk_put (cs := #[.int .i64 0, .string (⟨#[]⟩ : ByteArray), .string (⟨#[]⟩ : ByteArray)]) ?_ 0 _ rfl; (with_reducible repeat (first | refine blk_drewN ?_ _ | refine blk_drew ?_ | refine blk_alloc ?_ _)); exact BK404.out) Tryz.underlying31 rfl kr) rfl ?_
  exact ⟨by first | rfl | (simp [errW_none, errW_some] <;> rfl) | (simp only [← hji10]; first | rfl | (simp [errW_none, errW_some] <;> rfl)) | (simp [*, errW_none, errW_some] <;> rfl), bw⟩
 have c13b0 : ((a0.extract ((ji10) : Int).toNat a0.size).toList == ([49, 48, 49] : List UInt8)) = true := beq_iff_eq.mpr c13
 have c13b1 : ((a0.extract ((ji10) : Int).toNat a0.size).toList != ([49, 48, 49] : List UInt8)) = false := bne_eq_false_iff_eq.mpr c13
 clear c13
 obtain ⟨ji14, hji14⟩ : ∃ j_ : Int, (wrap64 (3 + (wrap64 (Int.tdiv (wrap64 ((a0.size : Int) - 11)) 2)))) = j_ := ⟨_, rfl⟩
 replace H : (if 0 ≤ (ji14) then (if (ji14) ≤ (wrap64 (8 + (wrap64 (Int.tdiv (wrap64 ((a0.size : Int) - 11)) 2)))) then (if (wrap64 (8 + (wrap64 (Int.tdiv (wrap64 ((a0.size : Int) - 11)) 2)))) ≤ (a0.size : Int) then (if (a0.extract ((ji14) : Int).toNat ((wrap64 (8 + (wrap64 (Int.tdiv (wrap64 ((a0.size : Int) - 11)) 2)))) : Int).toNat).toList = ([48, 49, 48, 49, 48] : List UInt8) then (if (a0.size : Int) = 67 then (ean_read.j0 k a0 (wrap64 (Int.tdiv (wrap64 ((a0.size : Int) - 11)) 2)) (⟨#[65]⟩ : ByteArray)) else (ean_read.j0 k a0 (wrap64 (Int.tdiv (wrap64 ((a0.size : Int) - 11)) 2)) (⟨#[65, 66]⟩ : ByteArray))) else (some (0, (⟨#[]⟩ : ByteArray), (⟨#[]⟩ : ByteArray), 18))) else (none)) else (none)) else (none)) = some (r1, r2, r3, r4) := by first | (rw [hji14] at H; exact H) | (simp only [hji14] at H ⊢; exact H)
 have hji14w : (IntKind.i64.wrap (3 + (wrap64 (Int.tdiv (wrap64 ((a0.size : Int) - 11)) 2)))) = ji14 := (i64_w _).trans hji14
 replace H := ifn H
 obtain ⟨c15, H⟩ := H
 have c15b0 := eq_true c15
 have c15b1 : decide (0 ≤ (ji14)) = true := decide_eq_true c15
 clear c15
 by_cases c16 : (ji14) ≤ (wrap64 (8 + (wrap64 (Int.tdiv (wrap64 ((a0.size : Int) - 11)) 2))))
 rotate_left
 ·rw [if_neg c16] at H
  exact absurd H (by simp)
 rw [if_pos c16] at H
 have c16b0 := eq_true c16
 have c16b1 : decide ((ji14) ≤ (wrap64 (8 + (wrap64 (Int.tdiv (wrap64 ((a0.size : Int) - 11)) 2))))) = true := decide_eq_true c16
 replace H := ifn H
 obtain ⟨c17, H⟩ := H
 have c17b0 := eq_true c17
 have c17b1 : decide ((wrap64 (8 + (wrap64 (Int.tdiv (wrap64 ((a0.size : Int) - 11)) 2)))) ≤ (a0.size : Int)) = true := decide_eq_true c17
 by_cases c18 : (a0.extract ((ji14) : Int).toNat ((wrap64 (8 + (wrap64 (Int.tdiv (wrap64 ((a0.size : Int) - 11)) 2)))) : Int).toNat).toList = ([48, 49, 48, 49, 48] : List UInt8)
 rotate_left
 ·rw [if_neg c18] at H
  have c18b0 : ((a0.extract ((ji14) : Int).toNat ((wrap64 (8 + (wrap64 (Int.tdiv (wrap64 ((a0.size : Int) - 11)) 2)))) : Int).toNat).toList == ([48, 49, 48, 49, 48] : List UInt8)) = false := beq_eq_false_iff_ne.mpr c18
  have c18b1 : ((a0.extract ((ji14) : Int).toNat ((wrap64 (8 + (wrap64 (Int.tdiv (wrap64 ((a0.size : Int) - 11)) 2)))) : Int).toNat).toList != ([48, 49, 48, 49, 48] : List UInt8)) = true := bne_iff_ne.mpr c18
  simp only [Option.some.injEq, Prod.mk.injEq] at H
  obtain ⟨rfl, rfl, rfl, rfl⟩ := H
  go_enter Tryz.func80, Tryz.ntmps80
  go_wp2_with (first | ((with_reducible refine gate_dst (N := 2) rfl ?_); refine box_event ?hg (N := 2) ?hd (cs := #[.int .i64 0, .string (⟨#[]⟩ : ByteArray), .string (⟨#[]⟩ : ByteArray)]) (t := 31) ?hr ?_; (case hd => rfl); (case hg => rfl); (case hr => first | (go_simp; done) | (go_simp; rfl)); intro gb404 hg w78 hbox hb; have n0_ := Aside0.mk (below_step bw hb); have n1_ := Aside0.mk (hbox); have n2_ := Aside0.mk ((by rw [hg]; exact (below_size bw) : w.heap.size ≤ gb404)); have n3_ := Aside0.mk ((by rw [hg]; exact (below_size bw) : w.heap.size ≤ gb404)); clear HB; have HB := n0_; have BK404 := n1_; have GW404 := n2_; have GE404 := n3_; clear n0_ n1_ n2_ n3_; clear hb hbox hg; have hcz79_0 : w78.cell? ⟨gb404, 0, none⟩ = some (.int .i64 0) := (blk_cell BK404.out 0).trans rfl; have hcz79_1 : w78.cell? ⟨gb404, 1, none⟩ = some (.string (⟨#[]⟩ : ByteArray)) := (blk_cell BK404.out 1).trans rfl; have hcz79_2 : w78.cell? ⟨gb404, 2, none⟩ = some (.string (⟨#[]⟩ : ByteArray)) := (blk_cell BK404.out 2).trans rfl; have hfz79_0 := blk_frozen BK404.out 0; have hfz79_1 := blk_frozen BK404.out 1; have hfz79_2 := blk_frozen BK404.out 2))
  refine bodyPost_ret (results_ct rfl _ _ gb404 31 #[.int .i64 0, .string (⟨#[]⟩ : ByteArray), .string (⟨#[]⟩ : ByteArray)] (0, 0) _ rfl (by (with_reducible repeat (first | refine blk_drewN ?_ _ | refine blk_drew ?_ | refine blk_alloc ?_ _)); refine blk_put (cs := #[.int .i64 0, .string (⟨#[]⟩ : ByteArray), .string (⟨#[]⟩ : ByteArray)]) ?_ 2 _ rfl; (with_reducible repeat (first | refine blk_drewN ?_ _ | refine blk_drew ?_ | refine blk_alloc ?_ _)); refine blk_put (cs := #[.int .i64 0, .string (⟨#[]⟩ : ByteArray), .string (⟨#[]⟩ : ByteArray)]) ?_ 1 _ rfl; (with_reducible repeat (first | refine blk_drewN ?_ _ | refine blk_drew ?_ | refine blk_alloc ?_ _)); refine blk_put (cs := #[.int .i64 0, .string (⟨#[]⟩ : ByteArray), .string (⟨#[]⟩ : ByteArray)]) ?_ 0 _ rfl; (with_reducible repeat (first | refine blk_drewN ?_ _ | refine blk_drew ?_ | refine blk_alloc ?_ _)); exact BK404.out) Tryz.underlying31 rfl kr) rfl ?_
  exact ⟨by first | rfl | (simp [errW_none, errW_some] <;> rfl) | (simp only [← hji10, ← hji14]; first | rfl | (simp [errW_none, errW_some] <;> rfl)) | (simp [*, errW_none, errW_some] <;> rfl), bw⟩
 rw [if_pos c18] at H
 have c18b0 : ((a0.extract ((ji14) : Int).toNat ((wrap64 (8 + (wrap64 (Int.tdiv (wrap64 ((a0.size : Int) - 11)) 2)))) : Int).toNat).toList == ([48, 49, 48, 49, 48] : List UInt8)) = true := beq_iff_eq.mpr c18
 have c18b1 : ((a0.extract ((ji14) : Int).toNat ((wrap64 (8 + (wrap64 (Int.tdiv (wrap64 ((a0.size : Int) - 11)) 2)))) : Int).toNat).toList != ([48, 49, 48, 49, 48] : List UInt8)) = false := bne_eq_false_iff_eq.mpr c18
 clear c18
 have HC19 := Aside0.mk H
 clear H
 go_enter Tryz.func80, Tryz.ntmps80
 go_upto_if 49 with (first | ((with_reducible refine gate_dst (N := 2) rfl ?_); refine box_event ?hg (N := 2) ?hd (cs := #[.int .i64 0, .string (⟨#[]⟩ : ByteArray), .string (⟨#[]⟩ : ByteArray)]) (t := 31) ?hr ?_; (case hd => rfl); (case hg => rfl); (case hr => first | (go_simp; done) | (go_simp; rfl)); intro gb404 hg w20 hbox hb; have n0_ := Aside0.mk (below_step bw hb); have n1_ := Aside0.mk (hbox); have n2_ := Aside0.mk ((by rw [hg]; exact (below_size bw) : w.heap.size ≤ gb404)); have n3_ := Aside0.mk ((by rw [hg]; exact (below_size bw) : w.heap.size ≤ gb404)); clear HB; have HB := n0_; have BK404 := n1_; have GW404 := n2_; have GE404 := n3_; clear n0_ n1_ n2_ n3_; clear hb hbox hg))
 (try simp only [Act.put, List.setIfInBounds_toArray, List.set_cons_zero, List.set_cons_succ])
 go_cut [5] (fun v5 wc => ∃ (kq : Nat) (x5_18 : ByteArray), v5 = .string x5_18 ∧ Aside0 (ean_read.j0 kq a0 (wrap64 (Int.tdiv (wrap64 ((a0.size : Int) - 11)) 2)) x5_18 = some (r1, r2, r3, r4)) ∧ Aside0 (kq ≤ k) ∧ Aside0 (wc.heap[gb404]? = some (.cells #[.int .i64 0, .string (⟨#[]⟩ : ByteArray), .string (⟨#[]⟩ : ByteArray)] 31 (0, 0))) ∧ Aside0 (Below w.heap.size w wc))
 case first =>
  have H := HC19.out
  clear HC19
  replace H := ifc H
  obtain ⟨c21, H⟩ | ⟨c21, H⟩ := H
  rotate_left
  ·have c21b0 : ((a0.size : Int) == 67) = false := beq_eq_false_iff_ne.mpr c21
   have c21b1 : ((a0.size : Int) != 67) = true := bne_iff_ne.mpr c21
   (first | rw [c21b0] | (simp only [i64_w]; rw [c21b0]) | skip)
   have H' := Aside0.mk H
   clear H
   go_wp2
   go_meet
   case rel => exact ⟨_, ((⟨#[65, 66]⟩ : ByteArray)), rs, H', ⟨la⟩, ⟨by (with_reducible repeat (first | refine blk_drewN ?_ _ | refine blk_drew ?_ | refine blk_alloc ?_ _)); exact BK404.out⟩, ⟨bw⟩⟩
  have c21b0 : ((a0.size : Int) == 67) = true := beq_iff_eq.mpr c21
  have c21b1 : ((a0.size : Int) != 67) = false := bne_eq_false_iff_eq.mpr c21
  clear c21
  (first | rw [c21b0] | (simp only [i64_w]; rw [c21b0]) | skip)
  have H' := Aside0.mk H
  clear H
  go_wp2
  go_meet
  case rel => exact ⟨_, ((⟨#[65]⟩ : ByteArray)), rs, H', ⟨la⟩, ⟨by (with_reducible repeat (first | refine blk_drewN ?_ _ | refine blk_drew ?_ | refine blk_alloc ?_ _)); exact BK404.out⟩, ⟨bw⟩⟩
 case rest =>
  clear HC19
  obtain ⟨kq, x5_18, rfl, HA, HJ18, BK404, HB⟩ := hcut
  cases kq with
  | zero => exact absurd HA.out (by simp [ean_read.j0])
  | succ kj18 =>
   have H := HA.out
   clear HA
   simp only [ean_read.j0] at H
   simp only [hji14, hji10] at H
   replace H := ifn H
   obtain ⟨c22, H⟩ := H
   have c22b0 := eq_true c22
   have c22b1 : decide (3 ≤ (ji14)) = true := decide_eq_true c22
   by_cases c23 : (ji14) ≤ (a0.size : Int)
   rotate_left
   ·rw [if_neg c23] at H
    exact absurd H (by simp)
   rw [if_pos c23] at H
   have c23b0 := eq_true c23
   have c23b1 : decide ((ji14) ≤ (a0.size : Int)) = true := decide_eq_true c23
   replace H := bd H
   obtain ⟨⟨t409, t410, t411⟩, A24, H⟩ := H
   obtain ⟨ji25, hji25⟩ : ∃ j_ : Int, (wrap64 (8 + (wrap64 (Int.tdiv (wrap64 ((a0.size : Int) - 11)) 2)))) = j_ := ⟨_, rfl⟩
   replace H : (if 0 ≤ (ji25) then (if (ji25) ≤ (ji10) then (if (ji10) ≤ (a0.size : Int) then ((ean_readDigits.f kj18 (a0.extract ((ji25) : Int).toNat ((ji10) : Int).toNat) (⟨#[67]⟩ : ByteArray) 7).bind fun bt412 => (if t409.size + bt412.1.size ≤ 9223372036854775807 then (if (a0.size : Int) = 95 then ((ean_parity13.f).bind fun t416 => ((slices_Index_string_string.f kj18 t416 t410).bind fun t419 => (if t419 < 0 then (some (0, (⟨#[]⟩ : ByteArray), (⟨#[]⟩ : ByteArray), 18)) else ((some (([(wrap64 (48 + t419)) % 256] : List Int) : List Int)).bind fun y420 => (if (strOfNums y420).size + t409.size ≤ 9223372036854775807 then (if ((strOfNums y420) ++ t409).size + bt412.1.size ≤ 9223372036854775807 then (if t419 = 0 then (ean_read.j1 kj18 t411 bt412.2.2 3 (t409 ++ bt412.1) (⟨#[]⟩ : ByteArray)) else (ean_read.j1 kj18 t411 bt412.2.2 1 (((strOfNums y420) ++ t409) ++ bt412.1) (⟨#[]⟩ : ByteArray))) else (none)) else (none)))))) else (ean_read.j1 kj18 t411 bt412.2.2 2 (t409 ++ bt412.1) (⟨#[]⟩ : ByteArray))) else (none))) else (none)) else (none)) else (none)) = some (r1, r2, r3, r4) := by first | (rw [hji25] at H; exact H) | (simp only [hji25] at H ⊢; exact H)
   (try rw [hji25] at c16b0)
   (try rw [hji25] at c16b1)
   (try rw [hji25] at c16)
   (try rw [hji25] at c17b0)
   (try rw [hji25] at c17b1)
   (try rw [hji25] at c17)
   (try rw [hji25] at c18b0)
   (try rw [hji25] at c18b1)
   (try rw [hji25] at A24)
   have hji25w : (IntKind.i64.wrap (8 + (wrap64 (Int.tdiv (wrap64 ((a0.size : Int) - 11)) 2)))) = ji25 := (i64_w _).trans hji25
   replace H := ifn H
   obtain ⟨c26, H⟩ := H
   have c26b0 := eq_true c26
   have c26b1 : decide (0 ≤ (ji25)) = true := decide_eq_true c26
   clear c26
   by_cases c27 : (ji25) ≤ (ji10)
   rotate_left
   ·rw [if_neg c27] at H
    exact absurd H (by simp)
   rw [if_pos c27] at H
   have c27b0 := eq_true c27
   have c27b1 : decide ((ji25) ≤ (ji10)) = true := decide_eq_true c27
   clear c27
   replace H := ifn H
   obtain ⟨c28, H⟩ := H
   have c28b0 := eq_true c28
   have c28b1 : decide ((ji10) ≤ (a0.size : Int)) = true := decide_eq_true c28
   clear c28
   replace H := bd H
   obtain ⟨⟨t412, t413, t414⟩, A29, H⟩ := H
   by_cases c30 : t409.size + t412.size ≤ 9223372036854775807
   rotate_left
   ·rw [if_neg c30] at H
    exact absurd H (by simp)
   rw [if_pos c30] at H
   have c30b0 := eq_true c30
   have c30b1 : decide (t409.size + t412.size ≤ 9223372036854775807) = true := decide_eq_true c30
   have HC31 := Aside0.mk H
   clear H
   go_upto_if 78 with (first | ((with_reducible refine gate_callee (f := 106) rfl ?_); refine goesL_ (some 56) rfl rfl Tryz.func106 kr rfl #[.string (a0.extract 3 ((ji14) : Int).toNat), .string x5_18, .int .i64 7] rfl ar ?_; (with_reducible refine (ean_readDigits.calls kj18 (a0.extract 3 ((ji14) : Int).toNat) x5_18 7 t409 t410 t411 _ A24.out).mono ?_); rintro e w32 ⟨rfl, hb⟩; refine ⟨_, rfl, ?_⟩; replace BK404 := Aside0.mk (blk_below (g := gb404) (o := .cells #[.int .i64 0, .string (⟨#[]⟩ : ByteArray), .string (⟨#[]⟩ : ByteArray)] 31 (0, 0)) (bk BK404) hb); replace HB := Aside0.mk (below_step bw hb); clear hb) | ((with_reducible refine gate_callee (f := 106) rfl ?_); refine goesL_ (some 68) rfl rfl Tryz.func106 kr rfl #[.string (a0.extract ((ji25) : Int).toNat ((ji10) : Int).toNat), .string (⟨#[67]⟩ : ByteArray), .int .i64 7] rfl (by (try simp only [List.map_toArray, List.map_cons, List.map_nil]); first | done | (simp only [hji25]; rfl) | rfl | (simp only [List.length_drop, List.length_take]; rfl)) ?_; (with_reducible refine (ean_readDigits.calls kj18 (a0.extract ((ji25) : Int).toNat ((ji10) : Int).toNat) (⟨#[67]⟩ : ByteArray) 7 t412 t413 t414 _ A29.out).mono ?_); rintro e w33 ⟨rfl, hb⟩; refine ⟨_, rfl, ?_⟩; replace BK404 := Aside0.mk (blk_below (g := gb404) (o := .cells #[.int .i64 0, .string (⟨#[]⟩ : ByteArray), .string (⟨#[]⟩ : ByteArray)] 31 (0, 0)) (bk BK404) hb); replace HB := Aside0.mk (below_step bw hb); clear hb) | ((with_reducible refine gate_dst (N := 12) rfl ?_); refine box_event ?hg (N := 12) ?hd (cs := #[.int .i64 0, .string (⟨#[]⟩ : ByteArray), .string (⟨#[]⟩ : ByteArray)]) (t := 31) ?hr ?_; (case hd => rfl); (case hg => rfl); (case hr => first | (go_simp; done) | (go_simp; rfl)); intro gb415 hg w34 hbox hb; have n0_ := Aside0.mk (blk_below (g := gb404) (o := .cells #[.int .i64 0, .string (⟨#[]⟩ : ByteArray), .string (⟨#[]⟩ : ByteArray)] 31 (0, 0)) (bk BK404) hb); have n1_ := Aside0.mk (below_step bw hb); have n2_ := Aside0.mk (hbox); have n3_ := Aside0.mk ((by rw [hg]; exact (below_size bw) : w.heap.size ≤ gb415)); have n4_ := Aside0.mk ((by rw [hg]; exact (below_size bw) : w.heap.size ≤ gb415)); have n5_ := Aside0.mk ((by rw [hg]; exact Nat.ne_of_lt (blk_lt (g := gb404) (o := .cells #[.int .i64 0, .string (⟨#[]⟩ : ByteArray), .string (⟨#[]⟩ : ByteArray)] 31 (0, 0)) (bk BK404)) : gb404 ≠ gb415)); have n6_ := Aside0.mk ((by rw [hg]; exact Nat.ne_of_gt (blk_lt (g := gb404) (o := .cells #[.int .i64 0, .string (⟨#[]⟩ : ByteArray), .string (⟨#[]⟩ : ByteArray)] 31 (0, 0)) (bk BK404)) : gb415 ≠ gb404)); clear BK404; clear HB; have BK404 := n0_; have HB := n1_; have BK415 := n2_; have GW415 := n3_; have GE415 := n4_; have NB404_415 := n5_; have NB415_404 := n6_; clear n0_ n1_ n2_ n3_ n4_ n5_ n6_; clear hb hbox hg; have hnb35 := NB415_404.out; have hnc35 := NB404_415.out; have hcz36_0 : w34.cell? ⟨gb415, 0, none⟩ = some (.int .i64 0) := (blk_cell BK415.out 0).trans rfl; have hcz36_1 : w34.cell? ⟨gb415, 1, none⟩ = some (.string (⟨#[]⟩ : ByteArray)) := (blk_cell BK415.out 1).trans rfl; have hcz36_2 : w34.cell? ⟨gb415, 2, none⟩ = some (.string (⟨#[]⟩ : ByteArray)) := (blk_cell BK415.out 2).trans rfl; have hfz36_0 := blk_frozen BK415.out 0; have hfz36_1 := blk_frozen BK415.out 1; have hfz36_2 := blk_frozen BK415.out 2))
   (try simp only [Act.put, List.setIfInBounds_toArray, List.set_cons_zero, List.set_cons_succ])
   go_cut [] (fun wc => ∃ (kq : Nat) (x405000_30 : Int) (x405001_30 : ByteArray) (x405002_30 : ByteArray) (x416000_30 : Int) (x416001_30 : ByteArray) (x416002_30 : ByteArray), Aside0 (ean_read.j1 kq t411 t414 x416000_30 x416001_30 x416002_30 = some (r1, r2, r3, r4)) ∧ Aside0 (kq ≤ kj18) ∧ Aside0 (wc.heap[gb404]? = some (.cells #[.int .i64 x405000_30, .string x405001_30, .string x405002_30] 31 (0, 0))) ∧ Aside0 (wc.heap[gb415]? = some (.cells #[.int .i64 x416000_30, .string x416001_30, .string x416002_30] 31 (0, 0))) ∧ Aside0 (Below w.heap.size w wc))
   case first =>
    have H := HC31.out
    clear HC31
    replace H := ifc H
    obtain ⟨c37, H⟩ | ⟨c37, H⟩ := H
    rotate_left
    ·have c37b0 : ((a0.size : Int) == 95) = false := beq_eq_false_iff_ne.mpr c37
     have c37b1 : ((a0.size : Int) != 95) = true := bne_iff_ne.mpr c37
     (first | rw [c37b0] | (simp only [i64_w]; rw [c37b0]) | skip)
     have H' := Aside0.mk H
     clear H
     go_wp2
     go_meet
     case rel => exact ⟨_, (0), ((⟨#[]⟩ : ByteArray)), ((⟨#[]⟩ : ByteArray)), (2), (t409 ++ t412), ((⟨#[]⟩ : ByteArray)), H', ⟨by have := HJ18.out; first | omega | exact Nat.le_refl _⟩, ⟨by (with_reducible repeat (first | refine blk_drewN ?_ _ | refine blk_drew ?_ | refine blk_alloc ?_ _)); refine blk_far ?_ NB404_415.out _; (with_reducible repeat (first | refine blk_drewN ?_ _ | refine blk_drew ?_ | refine blk_alloc ?_ _)); refine blk_far ?_ NB404_415.out _; (with_reducible repeat (first | refine blk_drewN ?_ _ | refine blk_drew ?_ | refine blk_alloc ?_ _)); refine blk_far ?_ NB404_415.out _; (with_reducible repeat (first | refine blk_drewN ?_ _ | refine blk_drew ?_ | refine blk_alloc ?_ _)); exact BK404.out⟩, ⟨by (with_reducible repeat (first | refine blk_drewN ?_ _ | refine blk_drew ?_ | refine blk_alloc ?_ _)); refine blk_put (cs := #[.int .i64 2, .string (t409 ++ t412), .string (⟨#[]⟩ : ByteArray)]) ?_ 2 _ rfl; (with_reducible repeat (first | refine blk_drewN ?_ _ | refine blk_drew ?_ | refine blk_alloc ?_ _)); refine blk_put (cs := #[.int .i64 2, .string (⟨#[]⟩ : ByteArray), .string (⟨#[]⟩ : ByteArray)]) ?_ 1 _ rfl; (with_reducible repeat (first | refine blk_drewN ?_ _ | refine blk_drew ?_ | refine blk_alloc ?_ _)); refine blk_put (cs := #[.int .i64 0, .string (⟨#[]⟩ : ByteArray), .string (⟨#[]⟩ : ByteArray)]) ?_ 0 _ rfl; (with_reducible repeat (first | refine blk_drewN ?_ _ | refine blk_drew ?_ | refine blk_alloc ?_ _)); exact BK415.out⟩, ⟨bw⟩⟩
    have c37b0 : ((a0.size : Int) == 95) = true := beq_iff_eq.mpr c37
    have c37b1 : ((a0.size : Int) != 95) = false := bne_eq_false_iff_eq.mpr c37
    clear c37
    (first | rw [c37b0] | (simp only [i64_w]; rw [c37b0]) | skip)
    replace H := bd H
    obtain ⟨t416, A38, H⟩ := H
    replace H := bd H
    obtain ⟨t419, A39, H⟩ := H
    replace H := ifc H
    obtain ⟨c40, H⟩ | ⟨c40, H⟩ := H
    ·have c40b0 : decide (t419 < 0) = true := decide_eq_true c40
     clear c40
     simp only [Option.some.injEq, Prod.mk.injEq] at H
     obtain ⟨rfl, rfl, rfl, rfl⟩ := H
     go_wp2_with (first | ((with_reducible refine gate_callee (f := 63) rfl ?_); refine goesL_ (some 79) rfl rfl Tryz.func63 kr rfl #[] rfl ar ?_; (with_reducible refine (ean_parity13.calls  t416 _ A38.out).mono ?_); rintro e w41 ⟨v417, rfl, ho0, hb⟩; refine ⟨_, rfl, ?_⟩; have n0_ := Aside0.mk (Kd.R_lower ho0 (below_size bw)); have n1_ := Aside0.mk (blk_below (g := gb404) (o := .cells #[.int .i64 0, .string (⟨#[]⟩ : ByteArray), .string (⟨#[]⟩ : ByteArray)] 31 (0, 0)) (by (with_reducible repeat (first | refine blk_drewN ?_ _ | refine blk_drew ?_ | refine blk_alloc ?_ _)); refine blk_far ?_ NB404_415.out _; (with_reducible repeat (first | refine blk_drewN ?_ _ | refine blk_drew ?_ | refine blk_alloc ?_ _)); refine blk_far ?_ NB404_415.out _; (with_reducible repeat (first | refine blk_drewN ?_ _ | refine blk_drew ?_ | refine blk_alloc ?_ _)); refine blk_far ?_ NB404_415.out _; (with_reducible repeat (first | refine blk_drewN ?_ _ | refine blk_drew ?_ | refine blk_alloc ?_ _)); exact BK404.out) hb); have n2_ := Aside0.mk (blk_below (g := gb415) (o := .cells #[.int .i64 2, .string (t409 ++ t412), .string (⟨#[]⟩ : ByteArray)] 31 (0, 0)) (by (with_reducible repeat (first | refine blk_drewN ?_ _ | refine blk_drew ?_ | refine blk_alloc ?_ _)); refine blk_put (cs := #[.int .i64 2, .string (t409 ++ t412), .string (⟨#[]⟩ : ByteArray)]) ?_ 2 _ rfl; (with_reducible repeat (first | refine blk_drewN ?_ _ | refine blk_drew ?_ | refine blk_alloc ?_ _)); refine blk_put (cs := #[.int .i64 2, .string (⟨#[]⟩ : ByteArray), .string (⟨#[]⟩ : ByteArray)]) ?_ 1 _ rfl; (with_reducible repeat (first | refine blk_drewN ?_ _ | refine blk_drew ?_ | refine blk_alloc ?_ _)); refine blk_put (cs := #[.int .i64 0, .string (⟨#[]⟩ : ByteArray), .string (⟨#[]⟩ : ByteArray)]) ?_ 0 _ rfl; (with_reducible repeat (first | refine blk_drewN ?_ _ | refine blk_drew ?_ | refine blk_alloc ?_ _)); exact BK415.out) hb); have n3_ := Aside0.mk (below_step bw hb); clear BK404; clear BK415; clear HB; have HO418 := n0_; have BK404 := n1_; have BK415 := n2_; have HB := n3_; clear n0_ n1_ n2_ n3_; clear hb; (try clear ho0); obtain ⟨Ao42, co42, eo42⟩ := Kd.R_slice HO418.out; subst eo42) | ((with_reducible refine gate_callee (f := 107) rfl ?_); refine goesL_ (some 81) rfl rfl Tryz.func107 kr rfl #[.slice Ao42 t416.length co42, .string t410] rfl ar ?_; (with_reducible refine (slices_Index_string_string.calls kj18 _ _ t416 t410 t419 _ ?side1 ?side2 A39.out).mono ?_); (case side1 => repeat (first | exact (Kd.R_reads' HO418.out).2.2 | (with_reducible refine Kd.C_alloc ?_ _) | (with_reducible refine Kd.C_drewN ?_ _) | (with_reducible refine Kd.C_drew ?_))); (case side2 => exact (Kd.R_reads' HO418.out).2.1); rintro e w' ⟨rfl, ⟨nd, rfl⟩⟩; refine ⟨_, rfl, ?_⟩; (try (rw [drewN_self w41]; generalize hq_ : World.drewN w41 _ = w41; have n0_ : Aside0 (Kd.R Kd.string 9 w41 w.heap.size (fun _ => True) (.slice Ao42 t416.length co42) t416) := ⟨by rw [← hq_]; exact (kd HO418)⟩; have n1_ : Aside0 (w41.heap[gb404]? = some (.cells #[.int .i64 0, .string (⟨#[]⟩ : ByteArray), .string (⟨#[]⟩ : ByteArray)] 31 (0, 0))) := ⟨by rw [← hq_]; exact (bk BK404)⟩; have n2_ : Aside0 (w41.heap[gb415]? = some (.cells #[.int .i64 2, .string (t409 ++ t412), .string (⟨#[]⟩ : ByteArray)] 31 (0, 0))) := ⟨by rw [← hq_]; exact (bk BK415)⟩; have n3_ : Aside0 (Below w.heap.size w w41) := ⟨by rw [← hq_]; exact bw⟩; clear HO418 BK404 BK415 HB hq_; have HO418 := n0_; have BK404 := n1_; have BK415 := n2_; have HB := n3_; clear n0_ n1_ n2_ n3_)); have hnb43 := NB404_415.out; have hnc43 := NB415_404.out; have hcz44_0 : w41.cell? ⟨gb404, 0, none⟩ = some (.int .i64 0) := (blk_cell BK404.out 0).trans rfl; have hcz44_1 : w41.cell? ⟨gb404, 1, none⟩ = some (.string (⟨#[]⟩ : ByteArray)) := (blk_cell BK404.out 1).trans rfl; have hcz44_2 : w41.cell? ⟨gb404, 2, none⟩ = some (.string (⟨#[]⟩ : ByteArray)) := (blk_cell BK404.out 2).trans rfl; have hfz44_0 := blk_frozen BK404.out 0; have hfz44_1 := blk_frozen BK404.out 1; have hfz44_2 := blk_frozen BK404.out 2))
     refine bodyPost_ret (results_ct rfl _ _ gb404 31 #[.int .i64 0, .string (⟨#[]⟩ : ByteArray), .string (⟨#[]⟩ : ByteArray)] (0, 0) _ rfl (by (with_reducible repeat (first | refine blk_drewN ?_ _ | refine blk_drew ?_ | refine blk_alloc ?_ _)); refine blk_put (cs := #[.int .i64 0, .string (⟨#[]⟩ : ByteArray), .string (⟨#[]⟩ : ByteArray)]) ?_ 2 _ rfl; (with_reducible repeat (first | refine blk_drewN ?_ _ | refine blk_drew ?_ | refine blk_alloc ?_ _)); refine blk_put (cs := #[.int .i64 0, .string (⟨#[]⟩ : ByteArray), .string (⟨#[]⟩ : ByteArray)]) ?_ 1 _ rfl; (with_reducible repeat (first | refine blk_drewN ?_ _ | refine blk_drew ?_ | refine blk_alloc ?_ _)); refine blk_put (cs := #[.int .i64 0, .string (⟨#[]⟩ : ByteArray), .string (⟨#[]⟩ : ByteArray)]) ?_ 0 _ rfl; (with_reducible repeat (first | refine blk_drewN ?_ _ | refine blk_drew ?_ | refine blk_alloc ?_ _)); exact BK404.out) Tryz.underlying31 rfl kr) rfl ?_
     exact ⟨by first | rfl | (simp [errW_none, errW_some] <;> rfl) | (simp only [← hji10, ← hji14, ← hji25]; first | rfl | (simp [errW_none, errW_some] <;> rfl)) | (simp [*, errW_none, errW_some] <;> rfl), bw⟩
    have c40b0 : decide (t419 < 0) = false := decide_eq_false c40
    clear c40
    obtain ⟨y420, hy420⟩ : ∃ y_ : List Int, y_ = (([(wrap64 (48 + t419)) % 256] : List Int)) := ⟨_, rfl⟩
    replace H : (if (strOfNums y420).size + t409.size ≤ 9223372036854775807 then (if ((strOfNums y420) ++ t409).size + t412.size ≤ 9223372036854775807 then (if t419 = 0 then (ean_read.j1 kj18 t411 t414 3 (t409 ++ t412) (⟨#[]⟩ : ByteArray)) else (ean_read.j1 kj18 t411 t414 1 (((strOfNums y420) ++ t409) ++ t412) (⟨#[]⟩ : ByteArray))) else (none)) else (none)) = some (r1, r2, r3, r4) := by first | (rw [hy420]; with_reducible exact H) | (have H2_ := (Option.bind_some _ _).symm.trans H; rw [hy420]; with_reducible exact H2_) | (have H2_ := (Option.bind_some _ _).symm.trans H; with_reducible exact H2_) | with_reducible exact H | (rw [hy420]; exact H) | exact H
    have Ny420 := Aside0.mk hy420
    clear hy420
    replace H := ifn H
    obtain ⟨c45, H⟩ := H
    have c45b0 := eq_true c45
    have c45b1 : decide ((strOfNums y420).size + t409.size ≤ 9223372036854775807) = true := decide_eq_true c45
    by_cases c46 : ((strOfNums y420) ++ t409).size + t412.size ≤ 9223372036854775807
    rotate_left
    ·rw [if_neg c46] at H
     exact absurd H (by simp)
    rw [if_pos c46] at H
    have c46b0 := eq_true c46
    have c46b1 : decide (((strOfNums y420) ++ t409).size + t412.size ≤ 9223372036854775807) = true := decide_eq_true c46
    replace H := ifc H
    obtain ⟨c47, H⟩ | ⟨c47, H⟩ := H
    rotate_left
    ·have c47b0 : (t419 == 0) = false := beq_eq_false_iff_ne.mpr c47
     have c47b1 : (t419 != 0) = true := bne_iff_ne.mpr c47
     have H' := Aside0.mk H
     clear H
     go_wp2_with (first | ((with_reducible refine gate_callee (f := 63) rfl ?_); refine goesL_ (some 79) rfl rfl Tryz.func63 kr rfl #[] rfl ar ?_; (with_reducible refine (ean_parity13.calls  t416 _ A38.out).mono ?_); rintro e w55 ⟨v417, rfl, ho0, hb⟩; refine ⟨_, rfl, ?_⟩; have n0_ := Aside0.mk (Kd.R_lower ho0 (below_size bw)); have n1_ := Aside0.mk (blk_below (g := gb404) (o := .cells #[.int .i64 0, .string (⟨#[]⟩ : ByteArray), .string (⟨#[]⟩ : ByteArray)] 31 (0, 0)) (by (with_reducible repeat (first | refine blk_drewN ?_ _ | refine blk_drew ?_ | refine blk_alloc ?_ _)); refine blk_far ?_ NB404_415.out _; (with_reducible repeat (first | refine blk_drewN ?_ _ | refine blk_drew ?_ | refine blk_alloc ?_ _)); refine blk_far ?_ NB404_415.out _; (with_reducible repeat (first | refine blk_drewN ?_ _ | refine blk_drew ?_ | refine blk_alloc ?_ _)); refine blk_far ?_ NB404_415.out _; (with_reducible repeat (first | refine blk_drewN ?_ _ | refine blk_drew ?_ | refine blk_alloc ?_ _)); exact BK404.out) hb); have n2_ := Aside0.mk (blk_below (g := gb415) (o := .cells #[.int .i64 2, .string (t409 ++ t412), .string (⟨#[]⟩ : ByteArray)] 31 (0, 0)) (by (with_reducible repeat (first | refine blk_drewN ?_ _ | refine blk_drew ?_ | refine blk_alloc ?_ _)); refine blk_put (cs := #[.int .i64 2, .string (t409 ++ t412), .string (⟨#[]⟩ : ByteArray)]) ?_ 2 _ rfl; (with_reducible repeat (first | refine blk_drewN ?_ _ | refine blk_drew ?_ | refine blk_alloc ?_ _)); refine blk_put (cs := #[.int .i64 2, .string (⟨#[]⟩ : ByteArray), .string (⟨#[]⟩ : ByteArray)]) ?_ 1 _ rfl; (with_reducible repeat (first | refine blk_drewN ?_ _ | refine blk_drew ?_ | refine blk_alloc ?_ _)); refine blk_put (cs := #[.int .i64 0, .string (⟨#[]⟩ : ByteArray), .string (⟨#[]⟩ : ByteArray)]) ?_ 0 _ rfl; (with_reducible repeat (first | refine blk_drewN ?_ _ | refine blk_drew ?_ | refine blk_alloc ?_ _)); exact BK415.out) hb); have n3_ := Aside0.mk (below_step bw hb); clear BK404; clear BK415; clear HB; have HO418 := n0_; have BK404 := n1_; have BK415 := n2_; have HB := n3_; clear n0_ n1_ n2_ n3_; clear hb; (try clear ho0); obtain ⟨Ao56, co56, eo56⟩ := Kd.R_slice HO418.out; subst eo56) | ((with_reducible refine gate_callee (f := 107) rfl ?_); refine goesL_ (some 81) rfl rfl Tryz.func107 kr rfl #[.slice Ao56 t416.length co56, .string t410] rfl ar ?_; (with_reducible refine (slices_Index_string_string.calls kj18 _ _ t416 t410 t419 _ ?side1 ?side2 A39.out).mono ?_); (case side1 => repeat (first | exact (Kd.R_reads' HO418.out).2.2 | (with_reducible refine Kd.C_alloc ?_ _) | (with_reducible refine Kd.C_drewN ?_ _) | (with_reducible refine Kd.C_drew ?_))); (case side2 => exact (Kd.R_reads' HO418.out).2.1); rintro e w' ⟨rfl, ⟨nd, rfl⟩⟩; refine ⟨_, rfl, ?_⟩; (try (rw [drewN_self w55]; generalize hq_ : World.drewN w55 _ = w55; have n0_ : Aside0 (Kd.R Kd.string 9 w55 w.heap.size (fun _ => True) (.slice Ao56 t416.length co56) t416) := ⟨by rw [← hq_]; exact (kd HO418)⟩; have n1_ : Aside0 (w55.heap[gb404]? = some (.cells #[.int .i64 0, .string (⟨#[]⟩ : ByteArray), .string (⟨#[]⟩ : ByteArray)] 31 (0, 0))) := ⟨by rw [← hq_]; exact (bk BK404)⟩; have n2_ : Aside0 (w55.heap[gb415]? = some (.cells #[.int .i64 2, .string (t409 ++ t412), .string (⟨#[]⟩ : ByteArray)] 31 (0, 0))) := ⟨by rw [← hq_]; exact (bk BK415)⟩; have n3_ : Aside0 (Below w.heap.size w w55) := ⟨by rw [← hq_]; exact bw⟩; clear HO418 BK404 BK415 HB hq_; have HO418 := n0_; have BK404 := n1_; have BK415 := n2_; have HB := n3_; clear n0_ n1_ n2_ n3_))) | ((with_reducible refine gate_dst (N := 88) rfl ?_); refine Kd.R_lit (Kd.int .u8) _ 5 ?hg (N := 88) ?hd (xs := ([(wrap64 (48 + t419)) % 256] : List Int)) (inner := [.int .u8 ((wrap64 (48 + t419)) % 256)]) (ok := fun _ => True) (okp := fun _ => True) ?hr ?hp (fun _ hk => hk) trivial (Below.refl _ _) (Nat.le_refl _) (by simp) ?_; (case hd => rfl); (case hg => rfl); (case hr => first | (go_simp; done) | (go_simp; rfl)); (case hp => exact (Reps.one (show Kd.M (Kd.int .u8) _ _ _ ((wrap64 (48 + t419)) % 256) [.int .u8 ((wrap64 (48 + t419)) % 256)] from rfl) (Reps.none _ _))); intro v421 w57 ho58 hb hg_ hnew_; clear hg_ hnew_; (first | rw [← Ny420.out] at ho58 | (simp only [Int.reduceToNat] at ho58; rw [← Ny420.out] at ho58)); have n0_ := Aside0.mk (Kd.R_below (kd HO418) hb); have n1_ := Aside0.mk (Kd.R_lower ho58 (below_size bw)); have n2_ := Aside0.mk (blk_below (g := gb404) (o := .cells #[.int .i64 0, .string (⟨#[]⟩ : ByteArray), .string (⟨#[]⟩ : ByteArray)] 31 (0, 0)) (bk BK404) hb); have n3_ := Aside0.mk (blk_below (g := gb415) (o := .cells #[.int .i64 2, .string (t409 ++ t412), .string (⟨#[]⟩ : ByteArray)] 31 (0, 0)) (bk BK415) hb); have n4_ := Aside0.mk (below_step bw hb); clear HO418; clear BK404; clear BK415; clear HB; have HO418 := n0_; have HO422 := n1_; have BK404 := n2_; have BK415 := n3_; have HB := n4_; clear n0_ n1_ n2_ n3_ n4_; clear hb ho58; have hcv59 := own_string (P := Tryz.prog) Tryz.underlying40 Tryz.underlying5 Tryz.underlying9 (Kd.own_of_R HO422.out); have hnb60 := NB415_404.out; have hnc60 := NB404_415.out; have hcz61_0 : w57.cell? ⟨gb415, 0, none⟩ = some (.int .i64 2) := (blk_cell BK415.out 0).trans rfl; have hcz61_1 : w57.cell? ⟨gb415, 1, none⟩ = some (.string (t409 ++ t412)) := (blk_cell BK415.out 1).trans rfl; have hcz61_2 : w57.cell? ⟨gb415, 2, none⟩ = some (.string (⟨#[]⟩ : ByteArray)) := (blk_cell BK415.out 2).trans rfl; have hfz61_0 := blk_frozen BK415.out 0; have hfz61_1 := blk_frozen BK415.out 1; have hfz61_2 := blk_frozen BK415.out 2))
     go_meet
     case rel => exact ⟨_, (0), ((⟨#[]⟩ : ByteArray)), ((⟨#[]⟩ : ByteArray)), (1), (((strOfNums y420) ++ t409) ++ t412), ((⟨#[]⟩ : ByteArray)), H', ⟨by have := HJ18.out; first | omega | exact Nat.le_refl _⟩, ⟨by (with_reducible repeat (first | refine blk_drewN ?_ _ | refine blk_drew ?_ | refine blk_alloc ?_ _)); refine blk_far ?_ NB404_415.out _; (with_reducible repeat (first | refine blk_drewN ?_ _ | refine blk_drew ?_ | refine blk_alloc ?_ _)); refine blk_far ?_ NB404_415.out _; (with_reducible repeat (first | refine blk_drewN ?_ _ | refine blk_drew ?_ | refine blk_alloc ?_ _)); refine blk_far ?_ NB404_415.out _; (with_reducible repeat (first | refine blk_drewN ?_ _ | refine blk_drew ?_ | refine blk_alloc ?_ _)); exact BK404.out⟩, ⟨by (with_reducible repeat (first | refine blk_drewN ?_ _ | refine blk_drew ?_ | refine blk_alloc ?_ _)); refine blk_put (cs := #[.int .i64 1, .string (((strOfNums y420) ++ t409) ++ t412), .string (⟨#[]⟩ : ByteArray)]) ?_ 2 _ rfl; (with_reducible repeat (first | refine blk_drewN ?_ _ | refine blk_drew ?_ | refine blk_alloc ?_ _)); refine blk_put (cs := #[.int .i64 1, .string (t409 ++ t412), .string (⟨#[]⟩ : ByteArray)]) ?_ 1 _ rfl; (with_reducible repeat (first | refine blk_drewN ?_ _ | refine blk_drew ?_ | refine blk_alloc ?_ _)); refine blk_put (cs := #[.int .i64 2, .string (t409 ++ t412), .string (⟨#[]⟩ : ByteArray)]) ?_ 0 _ rfl; (with_reducible repeat (first | refine blk_drewN ?_ _ | refine blk_drew ?_ | refine blk_alloc ?_ _)); exact BK415.out⟩, ⟨bw⟩⟩
    have c47b0 : (t419 == 0) = true := beq_iff_eq.mpr c47
    have c47b1 : (t419 != 0) = false := bne_eq_false_iff_eq.mpr c47
    clear c47
    have H' := Aside0.mk H
    clear H
    go_wp2_with (first | ((with_reducible refine gate_callee (f := 63) rfl ?_); refine goesL_ (some 79) rfl rfl Tryz.func63 kr rfl #[] rfl ar ?_; (with_reducible refine (ean_parity13.calls  t416 _ A38.out).mono ?_); rintro e w48 ⟨v417, rfl, ho0, hb⟩; refine ⟨_, rfl, ?_⟩; have n0_ := Aside0.mk (Kd.R_lower ho0 (below_size bw)); have n1_ := Aside0.mk (blk_below (g := gb404) (o := .cells #[.int .i64 0, .string (⟨#[]⟩ : ByteArray), .string (⟨#[]⟩ : ByteArray)] 31 (0, 0)) (by (with_reducible repeat (first | refine blk_drewN ?_ _ | refine blk_drew ?_ | refine blk_alloc ?_ _)); refine blk_far ?_ NB404_415.out _; (with_reducible repeat (first | refine blk_drewN ?_ _ | refine blk_drew ?_ | refine blk_alloc ?_ _)); refine blk_far ?_ NB404_415.out _; (with_reducible repeat (first | refine blk_drewN ?_ _ | refine blk_drew ?_ | refine blk_alloc ?_ _)); refine blk_far ?_ NB404_415.out _; (with_reducible repeat (first | refine blk_drewN ?_ _ | refine blk_drew ?_ | refine blk_alloc ?_ _)); exact BK404.out) hb); have n2_ := Aside0.mk (blk_below (g := gb415) (o := .cells #[.int .i64 2, .string (t409 ++ t412), .string (⟨#[]⟩ : ByteArray)] 31 (0, 0)) (by (with_reducible repeat (first | refine blk_drewN ?_ _ | refine blk_drew ?_ | refine blk_alloc ?_ _)); refine blk_put (cs := #[.int .i64 2, .string (t409 ++ t412), .string (⟨#[]⟩ : ByteArray)]) ?_ 2 _ rfl; (with_reducible repeat (first | refine blk_drewN ?_ _ | refine blk_drew ?_ | refine blk_alloc ?_ _)); refine blk_put (cs := #[.int .i64 2, .string (⟨#[]⟩ : ByteArray), .string (⟨#[]⟩ : ByteArray)]) ?_ 1 _ rfl; (with_reducible repeat (first | refine blk_drewN ?_ _ | refine blk_drew ?_ | refine blk_alloc ?_ _)); refine blk_put (cs := #[.int .i64 0, .string (⟨#[]⟩ : ByteArray), .string (⟨#[]⟩ : ByteArray)]) ?_ 0 _ rfl; (with_reducible repeat (first | refine blk_drewN ?_ _ | refine blk_drew ?_ | refine blk_alloc ?_ _)); exact BK415.out) hb); have n3_ := Aside0.mk (below_step bw hb); clear BK404; clear BK415; clear HB; have HO418 := n0_; have BK404 := n1_; have BK415 := n2_; have HB := n3_; clear n0_ n1_ n2_ n3_; clear hb; (try clear ho0); obtain ⟨Ao49, co49, eo49⟩ := Kd.R_slice HO418.out; subst eo49) | ((with_reducible refine gate_callee (f := 107) rfl ?_); refine goesL_ (some 81) rfl rfl Tryz.func107 kr rfl #[.slice Ao49 t416.length co49, .string t410] rfl ar ?_; (with_reducible refine (slices_Index_string_string.calls kj18 _ _ t416 t410 t419 _ ?side1 ?side2 A39.out).mono ?_); (case side1 => repeat (first | exact (Kd.R_reads' HO418.out).2.2 | (with_reducible refine Kd.C_alloc ?_ _) | (with_reducible refine Kd.C_drewN ?_ _) | (with_reducible refine Kd.C_drew ?_))); (case side2 => exact (Kd.R_reads' HO418.out).2.1); rintro e w' ⟨rfl, ⟨nd, rfl⟩⟩; refine ⟨_, rfl, ?_⟩; (try (rw [drewN_self w48]; generalize hq_ : World.drewN w48 _ = w48; have n0_ : Aside0 (Kd.R Kd.string 9 w48 w.heap.size (fun _ => True) (.slice Ao49 t416.length co49) t416) := ⟨by rw [← hq_]; exact (kd HO418)⟩; have n1_ : Aside0 (w48.heap[gb404]? = some (.cells #[.int .i64 0, .string (⟨#[]⟩ : ByteArray), .string (⟨#[]⟩ : ByteArray)] 31 (0, 0))) := ⟨by rw [← hq_]; exact (bk BK404)⟩; have n2_ : Aside0 (w48.heap[gb415]? = some (.cells #[.int .i64 2, .string (t409 ++ t412), .string (⟨#[]⟩ : ByteArray)] 31 (0, 0))) := ⟨by rw [← hq_]; exact (bk BK415)⟩; have n3_ : Aside0 (Below w.heap.size w w48) := ⟨by rw [← hq_]; exact bw⟩; clear HO418 BK404 BK415 HB hq_; have HO418 := n0_; have BK404 := n1_; have BK415 := n2_; have HB := n3_; clear n0_ n1_ n2_ n3_))) | ((with_reducible refine gate_dst (N := 88) rfl ?_); refine Kd.R_lit (Kd.int .u8) _ 5 ?hg (N := 88) ?hd (xs := ([(wrap64 (48 + t419)) % 256] : List Int)) (inner := [.int .u8 ((wrap64 (48 + t419)) % 256)]) (ok := fun _ => True) (okp := fun _ => True) ?hr ?hp (fun _ hk => hk) trivial (Below.refl _ _) (Nat.le_refl _) (by simp) ?_; (case hd => rfl); (case hg => rfl); (case hr => first | (go_simp; done) | (go_simp; rfl)); (case hp => exact (Reps.one (show Kd.M (Kd.int .u8) _ _ _ ((wrap64 (48 + t419)) % 256) [.int .u8 ((wrap64 (48 + t419)) % 256)] from rfl) (Reps.none _ _))); intro v421 w50 ho51 hb hg_ hnew_; clear hg_ hnew_; (first | rw [← Ny420.out] at ho51 | (simp only [Int.reduceToNat] at ho51; rw [← Ny420.out] at ho51)); have n0_ := Aside0.mk (Kd.R_below (kd HO418) hb); have n1_ := Aside0.mk (Kd.R_lower ho51 (below_size bw)); have n2_ := Aside0.mk (blk_below (g := gb404) (o := .cells #[.int .i64 0, .string (⟨#[]⟩ : ByteArray), .string (⟨#[]⟩ : ByteArray)] 31 (0, 0)) (bk BK404) hb); have n3_ := Aside0.mk (blk_below (g := gb415) (o := .cells #[.int .i64 2, .string (t409 ++ t412), .string (⟨#[]⟩ : ByteArray)] 31 (0, 0)) (bk BK415) hb); have n4_ := Aside0.mk (below_step bw hb); clear HO418; clear BK404; clear BK415; clear HB; have HO418 := n0_; have HO422 := n1_; have BK404 := n2_; have BK415 := n3_; have HB := n4_; clear n0_ n1_ n2_ n3_ n4_; clear hb ho51; have hcv52 := own_string (P := Tryz.prog) Tryz.underlying40 Tryz.underlying5 Tryz.underlying9 (Kd.own_of_R HO422.out); have hnb53 := NB415_404.out; have hnc53 := NB404_415.out; have hcz54_0 : w50.cell? ⟨gb415, 0, none⟩ = some (.int .i64 2) := (blk_cell BK415.out 0).trans rfl; have hcz54_1 : w50.cell? ⟨gb415, 1, none⟩ = some (.string (t409 ++ t412)) := (blk_cell BK415.out 1).trans rfl; have hcz54_2 : w50.cell? ⟨gb415, 2, none⟩ = some (.string (⟨#[]⟩ : ByteArray)) := (blk_cell BK415.out 2).trans rfl; have hfz54_0 := blk_frozen BK415.out 0; have hfz54_1 := blk_frozen BK415.out 1; have hfz54_2 := blk_frozen BK415.out 2))
    go_meet
    case rel => exact ⟨_, (0), ((⟨#[]⟩ : ByteArray)), ((⟨#[]⟩ : ByteArray)), (3), (t409 ++ t412), ((⟨#[]⟩ : ByteArray)), H', ⟨by have := HJ18.out; first | omega | exact Nat.le_refl _⟩, ⟨by (with_reducible repeat (first | refine blk_drewN ?_ _ | refine blk_drew ?_ | refine blk_alloc ?_ _)); refine blk_far ?_ NB404_415.out _; (with_reducible repeat (first | refine blk_drewN ?_ _ | refine blk_drew ?_ | refine blk_alloc ?_ _)); refine blk_far ?_ NB404_415.out _; (with_reducible repeat (first | refine blk_drewN ?_ _ | refine blk_drew ?_ | refine blk_alloc ?_ _)); refine blk_far ?_ NB404_415.out _; (with_reducible repeat (first | refine blk_drewN ?_ _ | refine blk_drew ?_ | refine blk_alloc ?_ _)); refine blk_far ?_ NB404_415.out _; (with_reducible repeat (first | refine blk_drewN ?_ _ | refine blk_drew ?_ | refine blk_alloc ?_ _)); refine blk_far ?_ NB404_415.out _; (with_reducible repeat (first | refine blk_drewN ?_ _ | refine blk_drew ?_ | refine blk_alloc ?_ _)); refine blk_far ?_ NB404_415.out _; (with_reducible repeat (first | refine blk_drewN ?_ _ | refine blk_drew ?_ | refine blk_alloc ?_ _)); exact BK404.out⟩, ⟨by (with_reducible repeat (first | refine blk_drewN ?_ _ | refine blk_drew ?_ | refine blk_alloc ?_ _)); refine blk_put (cs := #[.int .i64 3, .string (t409 ++ t412), .string (⟨#[]⟩ : ByteArray)]) ?_ 2 _ rfl; (with_reducible repeat (first | refine blk_drewN ?_ _ | refine blk_drew ?_ | refine blk_alloc ?_ _)); refine blk_put (cs := #[.int .i64 3, .string (((strOfNums y420) ++ t409) ++ t412), .string (⟨#[]⟩ : ByteArray)]) ?_ 1 _ rfl; (with_reducible repeat (first | refine blk_drewN ?_ _ | refine blk_drew ?_ | refine blk_alloc ?_ _)); refine blk_put (cs := #[.int .i64 1, .string (((strOfNums y420) ++ t409) ++ t412), .string (⟨#[]⟩ : ByteArray)]) ?_ 0 _ rfl; (with_reducible repeat (first | refine blk_drewN ?_ _ | refine blk_drew ?_ | refine blk_alloc ?_ _)); refine blk_put (cs := #[.int .i64 1, .string (((strOfNums y420) ++ t409) ++ t412), .string (⟨#[]⟩ : ByteArray)]) ?_ 2 _ rfl; (with_reducible repeat (first | refine blk_drewN ?_ _ | refine blk_drew ?_ | refine blk_alloc ?_ _)); refine blk_put (cs := #[.int .i64 1, .string (t409 ++ t412), .string (⟨#[]⟩ : ByteArray)]) ?_ 1 _ rfl; (with_reducible repeat (first | refine blk_drewN ?_ _ | refine blk_drew ?_ | refine blk_alloc ?_ _)); refine blk_put (cs := #[.int .i64 2, .string (t409 ++ t412), .string (⟨#[]⟩ : ByteArray)]) ?_ 0 _ rfl; (with_reducible repeat (first | refine blk_drewN ?_ _ | refine blk_drew ?_ | refine blk_alloc ?_ _)); exact BK415.out⟩, ⟨bw⟩⟩
   case rest =>
    clear HC31
    obtain ⟨kq, x405000_30, x405001_30, x405002_30, x416000_30, x416001_30, x416002_30, HA, HJ30, BK404, BK415, HB⟩ := hcut
    cases kq with
    | zero => exact absurd HA.out (by simp [ean_read.j1])
    | succ kj30 =>
     have H := HA.out
     clear HA
     simp only [ean_read.j1] at H
     have HC62 := Aside0.mk H
     clear H
     go_upto_region 23 with (fail)
     go_cut [101] (fun v101 wc => ∃ (kq : Nat) (x101_61 : Bool), v101 = .bool x101_61 ∧ Aside0 (ean_read.j2 kq x101_61 x416000_30 x416001_30 x416002_30 = some (r1, r2, r3, r4)) ∧ Aside0 (kq ≤ kj30) ∧ Aside0 (wc.heap[gb404]? = some (.cells #[.int .i64 x405000_30, .string x405001_30, .string x405002_30] 31 (0, 0))) ∧ Aside0 (wc.heap[gb415]? = some (.cells #[.int .i64 x416000_30, .string x416001_30, .string x416002_30] 31 (0, 0))) ∧ Aside0 (Below w.heap.size w wc))
     case first =>
      have H := HC62.out
      clear HC62
      by_cases c63 : t411 = true
      ·subst c63
       rw [if_pos rfl] at H
       have H' := Aside0.mk H
       clear H
       go_wp2
       go_meet
       case rel => exact ⟨_, (!t414), rs, H', ⟨by have := HJ18.out; have := HJ30.out; first | omega | exact Nat.le_refl _⟩, ⟨by (with_reducible repeat (first | refine blk_drewN ?_ _ | refine blk_drew ?_ | refine blk_alloc ?_ _)); exact BK404.out⟩, ⟨by (with_reducible repeat (first | refine blk_drewN ?_ _ | refine blk_drew ?_ | refine blk_alloc ?_ _)); exact BK415.out⟩, ⟨bw⟩⟩
      replace c63 := Bool.eq_false_iff.mpr c63
      subst c63
      rw [if_neg (show ¬ (false = true) by decide)] at H
      have H' := Aside0.mk H
      clear H
      go_wp2
      go_meet
      case rel => exact ⟨_, (true), rs, H', ⟨by have := HJ18.out; have := HJ30.out; first | omega | exact Nat.le_refl _⟩, ⟨by (with_reducible repeat (first | refine blk_drewN ?_ _ | refine blk_drew ?_ | refine blk_alloc ?_ _)); exact BK404.out⟩, ⟨by (with_reducible repeat (first | refine blk_drewN ?_ _ | refine blk_drew ?_ | refine blk_alloc ?_ _)); exact BK415.out⟩, ⟨bw⟩⟩
     case rest =>
      clear HC62
      obtain ⟨kq, x101_61, rfl, HA, HJ61, BK404, BK415, HB⟩ := hcut
      cases kq with
      | zero => exact absurd HA.out (by simp [ean_read.j2])
      | succ kj61 =>
       have H := HA.out
       clear HA
       simp only [ean_read.j2] at H
       by_cases c64 : x101_61 = true
       ·subst c64
        rw [if_pos rfl] at H
        simp only [Option.some.injEq, Prod.mk.injEq] at H
        obtain ⟨rfl, rfl, rfl, rfl⟩ := H
        have hnb65 := NB404_415.out
        have hnc65 := NB415_404.out
        have hcz66_0 : wc.cell? ⟨gb404, 0, none⟩ = some (.int .i64 x405000_30) := (blk_cell BK404.out 0).trans rfl
        have hcz66_1 : wc.cell? ⟨gb404, 1, none⟩ = some (.string x405001_30) := (blk_cell BK404.out 1).trans rfl
        have hcz66_2 : wc.cell? ⟨gb404, 2, none⟩ = some (.string x405002_30) := (blk_cell BK404.out 2).trans rfl
        have hfz66_0 := blk_frozen BK404.out 0
        have hfz66_1 := blk_frozen BK404.out 1
        have hfz66_2 := blk_frozen BK404.out 2
        go_wp2
        refine bodyPost_ret (results_ct rfl _ _ gb404 31 #[.int .i64 0, .string (⟨#[]⟩ : ByteArray), .string (⟨#[]⟩ : ByteArray)] (0, 0) _ rfl (by (with_reducible repeat (first | refine blk_drewN ?_ _ | refine blk_drew ?_ | refine blk_alloc ?_ _)); refine blk_put (cs := #[.int .i64 0, .string (⟨#[]⟩ : ByteArray), .string x405002_30]) ?_ 2 _ rfl; (with_reducible repeat (first | refine blk_drewN ?_ _ | refine blk_drew ?_ | refine blk_alloc ?_ _)); refine blk_put (cs := #[.int .i64 0, .string x405001_30, .string x405002_30]) ?_ 1 _ rfl; (with_reducible repeat (first | refine blk_drewN ?_ _ | refine blk_drew ?_ | refine blk_alloc ?_ _)); refine blk_put (cs := #[.int .i64 x405000_30, .string x405001_30, .string x405002_30]) ?_ 0 _ rfl; (with_reducible repeat (first | refine blk_drewN ?_ _ | refine blk_drew ?_ | refine blk_alloc ?_ _)); exact BK404.out) Tryz.underlying31 rfl kr) rfl ?_
        exact ⟨by first | rfl | (simp [errW_none, errW_some] <;> rfl) | (simp only [← hji10, ← hji14, ← hji25]; first | rfl | (simp [errW_none, errW_some] <;> rfl)) | (simp [*, errW_none, errW_some] <;> rfl), bw⟩
       replace c64 := Bool.eq_false_iff.mpr c64
       subst c64
       rw [if_neg (show ¬ (false = true) by decide)] at H
       replace H := bd H
       obtain ⟨t423, A67, H⟩ := H
       replace H := ifc H
       obtain ⟨c68, H⟩ | ⟨c68, H⟩ := H
       rotate_left
       ·have c68b0 : (t423 == 0) = false := beq_eq_false_iff_ne.mpr c68
        have c68b1 : (t423 != 0) = true := bne_iff_ne.mpr c68
        simp only [Option.some.injEq, Prod.mk.injEq] at H
        obtain ⟨rfl, rfl, rfl, rfl⟩ := H
        have hnb74 := NB415_404.out
        have hnc74 := NB404_415.out
        have hcz75_0 : wc.cell? ⟨gb415, 0, none⟩ = some (.int .i64 x416000_30) := (blk_cell BK415.out 0).trans rfl
        have hcz75_1 : wc.cell? ⟨gb415, 1, none⟩ = some (.string x416001_30) := (blk_cell BK415.out 1).trans rfl
        have hcz75_2 : wc.cell? ⟨gb415, 2, none⟩ = some (.string x416002_30) := (blk_cell BK415.out 2).trans rfl
        have hfz75_0 := blk_frozen BK415.out 0
        have hfz75_1 := blk_frozen BK415.out 1
        have hfz75_2 := blk_frozen BK415.out 2
        go_wp2_with (first | ((with_reducible refine gate_callee (f := 26) rfl ?_); refine goesL_ (some 114) rfl rfl Tryz.func26 kr rfl #[.int .i64 x416000_30, .string x416001_30] rfl ar ?_; (with_reducible refine (ean_complete.calls kj61 x416000_30 x416001_30 t423 _ A67.out).mono ?_); rintro e w76 ⟨rfl, hb⟩; refine ⟨_, rfl, ?_⟩; have n0_ := Aside0.mk (blk_below (g := gb404) (o := .cells #[.int .i64 x405000_30, .string x405001_30, .string x405002_30] 31 (0, 0)) (bk BK404) hb); have n1_ := Aside0.mk (blk_below (g := gb415) (o := .cells #[.int .i64 x416000_30, .string x416001_30, .string x416002_30] 31 (0, 0)) (bk BK415) hb); have n2_ := Aside0.mk (below_step bw hb); clear BK404; clear BK415; clear HB; have BK404 := n0_; have BK415 := n1_; have HB := n2_; clear n0_ n1_ n2_; clear hb; have hcz77_0 : w76.cell? ⟨gb404, 0, none⟩ = some (.int .i64 x405000_30) := (blk_cell BK404.out 0).trans rfl; have hcz77_1 : w76.cell? ⟨gb404, 1, none⟩ = some (.string x405001_30) := (blk_cell BK404.out 1).trans rfl; have hcz77_2 : w76.cell? ⟨gb404, 2, none⟩ = some (.string x405002_30) := (blk_cell BK404.out 2).trans rfl; have hfz77_0 := blk_frozen BK404.out 0; have hfz77_1 := blk_frozen BK404.out 1; have hfz77_2 := blk_frozen BK404.out 2))
        refine bodyPost_ret (results_ct rfl _ _ gb404 31 #[.int .i64 0, .string (⟨#[]⟩ : ByteArray), .string (⟨#[]⟩ : ByteArray)] (0, 0) _ rfl (by (with_reducible repeat (first | refine blk_drewN ?_ _ | refine blk_drew ?_ | refine blk_alloc ?_ _)); refine blk_put (cs := #[.int .i64 0, .string (⟨#[]⟩ : ByteArray), .string x405002_30]) ?_ 2 _ rfl; (with_reducible repeat (first | refine blk_drewN ?_ _ | refine blk_drew ?_ | refine blk_alloc ?_ _)); refine blk_put (cs := #[.int .i64 0, .string x405001_30, .string x405002_30]) ?_ 1 _ rfl; (with_reducible repeat (first | refine blk_drewN ?_ _ | refine blk_drew ?_ | refine blk_alloc ?_ _)); refine blk_put (cs := #[.int .i64 x405000_30, .string x405001_30, .string x405002_30]) ?_ 0 _ rfl; (with_reducible repeat (first | refine blk_drewN ?_ _ | refine blk_drew ?_ | refine blk_alloc ?_ _)); exact BK404.out) Tryz.underlying31 rfl kr) rfl ?_
        exact ⟨by first | rfl | (simp [errW_none, errW_some] <;> rfl) | (simp only [← hji10, ← hji14, ← hji25]; first | rfl | (simp [errW_none, errW_some] <;> rfl)) | (simp [*, errW_none, errW_some] <;> rfl), bw⟩
       have c68b0 : (t423 == 0) = true := beq_iff_eq.mpr c68
       have c68b1 : (t423 != 0) = false := bne_eq_false_iff_eq.mpr c68
       clear c68
       simp only [Option.some.injEq, Prod.mk.injEq] at H
       obtain ⟨rfl, rfl, rfl, rfl⟩ := H
       have hnb69 := NB415_404.out
       have hnc69 := NB404_415.out
       have hcz70_0 : wc.cell? ⟨gb415, 0, none⟩ = some (.int .i64 x416000_30) := (blk_cell BK415.out 0).trans rfl
       have hcz70_1 : wc.cell? ⟨gb415, 1, none⟩ = some (.string x416001_30) := (blk_cell BK415.out 1).trans rfl
       have hcz70_2 : wc.cell? ⟨gb415, 2, none⟩ = some (.string x416002_30) := (blk_cell BK415.out 2).trans rfl
       have hfz70_0 := blk_frozen BK415.out 0
       have hfz70_1 := blk_frozen BK415.out 1
       have hfz70_2 := blk_frozen BK415.out 2
       go_wp2_with (first | ((with_reducible refine gate_callee (f := 26) rfl ?_); refine goesL_ (some 114) rfl rfl Tryz.func26 kr rfl #[.int .i64 x416000_30, .string x416001_30] rfl ar ?_; (with_reducible refine (ean_complete.calls kj61 x416000_30 x416001_30 t423 _ A67.out).mono ?_); rintro e w71 ⟨rfl, hb⟩; refine ⟨_, rfl, ?_⟩; have n0_ := Aside0.mk (blk_below (g := gb404) (o := .cells #[.int .i64 x405000_30, .string x405001_30, .string x405002_30] 31 (0, 0)) (bk BK404) hb); have n1_ := Aside0.mk (blk_below (g := gb415) (o := .cells #[.int .i64 x416000_30, .string x416001_30, .string x416002_30] 31 (0, 0)) (bk BK415) hb); have n2_ := Aside0.mk (below_step bw hb); clear BK404; clear BK415; clear HB; have BK404 := n0_; have BK415 := n1_; have HB := n2_; clear n0_ n1_ n2_; clear hb; have hcz72_0 : w71.cell? ⟨gb415, 0, none⟩ = some (.int .i64 x416000_30) := (blk_cell BK415.out 0).trans rfl; have hcz72_1 : w71.cell? ⟨gb415, 1, none⟩ = some (.string x416001_30) := (blk_cell BK415.out 1).trans rfl; have hcz72_2 : w71.cell? ⟨gb415, 2, none⟩ = some (.string x416002_30) := (blk_cell BK415.out 2).trans rfl; have hfz72_0 := blk_frozen BK415.out 0; have hfz72_1 := blk_frozen BK415.out 1; have hfz72_2 := blk_frozen BK415.out 2; have hcz73_0 : w71.cell? ⟨gb404, 0, none⟩ = some (.int .i64 x405000_30) := (blk_cell BK404.out 0).trans rfl; have hcz73_1 : w71.cell? ⟨gb404, 1, none⟩ = some (.string x405001_30) := (blk_cell BK404.out 1).trans rfl; have hcz73_2 : w71.cell? ⟨gb404, 2, none⟩ = some (.string x405002_30) := (blk_cell BK404.out 2).trans rfl; have hfz73_0 := blk_frozen BK404.out 0; have hfz73_1 := blk_frozen BK404.out 1; have hfz73_2 := blk_frozen BK404.out 2))
       refine bodyPost_ret (results_ct rfl _ _ gb404 31 #[.int .i64 x416000_30, .string x416001_30, .string x416002_30] (0, 0) _ rfl (by (with_reducible repeat (first | refine blk_drewN ?_ _ | refine blk_drew ?_ | refine blk_alloc ?_ _)); refine blk_put (cs := #[.int .i64 x416000_30, .string x416001_30, .string x405002_30]) ?_ 2 _ rfl; (with_reducible repeat (first | refine blk_drewN ?_ _ | refine blk_drew ?_ | refine blk_alloc ?_ _)); refine blk_put (cs := #[.int .i64 x416000_30, .string x405001_30, .string x405002_30]) ?_ 1 _ rfl; (with_reducible repeat (first | refine blk_drewN ?_ _ | refine blk_drew ?_ | refine blk_alloc ?_ _)); refine blk_put (cs := #[.int .i64 x405000_30, .string x405001_30, .string x405002_30]) ?_ 0 _ rfl; (with_reducible repeat (first | refine blk_drewN ?_ _ | refine blk_drew ?_ | refine blk_alloc ?_ _)); exact BK404.out) Tryz.underlying31 rfl kr) rfl ?_
       exact ⟨by first | rfl | (simp [errW_none, errW_some] <;> rfl) | (simp only [← hji10, ← hji14, ← hji25]; first | rfl | (simp [errW_none, errW_some] <;> rfl)) | (simp [*, errW_none, errW_some] <;> rfl), bw⟩

end Go.Proofs.YtjmeekceecpemaaGreatDoor.Q

namespace Go.Proofs.YtjmeekceecpemaaGreatDoor.Q
open Go.RowKit Go.Proofs.YtjmeekceecpemaaGreatDoorW.PrintWords Go.Proofs.YtjmeekceecpemaaGreatDoorW.PrintLast Go.Proofs.YtjmeekceecpemaaGreatDoorW.PrintMore

set_option linter.unusedVariables false
set_option linter.unusedSimpArgs false

/-! ### ean_readAddOn: function 82 -/
def ean_readAddOn.l0 : Nat → ByteArray → Int → Option (ByteArray × Int)
 | 0, _, _ => none
 | k + 1, x0, x4 => if x4 < (x0.size : Int) then (if 0 ≤ x4 then (if x4 ≤ (wrap64 (x4 + 2)) then (if (wrap64 (x4 + 2)) ≤ (x0.size : Int) then (if (x0.extract (x4 : Int).toNat ((wrap64 (x4 + 2)) : Int).toNat).toList = ([48, 49] : List UInt8) then (ean_readAddOn.l0 k x0 (wrap64 (x4 + 9))) else (some ((⟨#[]⟩ : ByteArray), 18))) else (none)) else (none)) else (none)) else (if 4 ≤ (x0.size : Int) then ((ean_readDigits.f k (x0.extract 4 x0.size) (⟨#[65, 66]⟩ : ByteArray) 9).bind fun bt424 => (if bt424.2.2 = true then ((ean_setsOf.f k bt424.1).bind fun t427 => (if bt424.2.1.toList = t427.toList then (some (bt424.1, 0)) else (some ((⟨#[]⟩ : ByteArray), 8)))) else (some ((⟨#[]⟩ : ByteArray), 18)))) else (none))
def ean_readAddOn.f (k : Nat) (a0 : ByteArray) : Option (ByteArray × Int) := if 0 ≤ 4 then (if 4 ≤ (a0.size : Int) then (if (a0.extract 0 4).toList = ([49, 48, 49, 49] : List UInt8) then (ean_readAddOn.l0 k a0 11) else (some ((⟨#[]⟩ : ByteArray), 19))) else (none)) else (none)
theorem ean_readAddOn.mono_l : ∀ k, (∀ y0 y1, LeO (ean_readAddOn.l0 k y0 y1) (ean_readAddOn.l0 (k + 1) y0 y1))
 | 0 => fun _ _ r h => by simp [ean_readAddOn.l0] at h
 | k + 1 => by
  have ih0 := ean_readAddOn.mono_l k
  ·intro y0 y1
   unfold ean_readAddOn.l0
   repeat' with_reducible first | exact ih0 _ _ | exact ean_readDigits.mono _ _ _ _ | exact ean_setsOf.mono _ _ | exact LeO.refl _ | exact LeO.none _ | refine LeO.ite ?_ ?_ | refine LeO.bind ?_ (fun _ => ?_)
theorem ean_readAddOn.mono : ∀ a0 k, LeO (ean_readAddOn.f k a0) (ean_readAddOn.f (k + 1) a0) := by
 intro a0 k
 have ih0 := ean_readAddOn.mono_l k
 unfold ean_readAddOn.f
 repeat' with_reducible first | exact ih0 _ _ | exact ean_readDigits.mono _ _ _ _ | exact ean_setsOf.mono _ _ | exact LeO.refl _ | exact LeO.none _ | refine LeO.ite ?_ ?_ | refine LeO.bind ?_ (fun _ => ?_)
set_option maxHeartbeats 8000000 in
set_option maxRecDepth 100000 in
theorem ean_readAddOn.calls (k : Nat) (a0 : ByteArray) (r1 : ByteArray) (r2 : Int) (w : World) (h : ean_readAddOn.f k a0 = some (r1, r2)) :
  Calls Tryz.prog 82 #[.string a0] w fun e w' => e = .returned (.tuple #[.string r1, .int .i64 r2]) ∧ Below w.heap.size w w' := by
 have HB := Aside0.mk (Below.refl w.heap.size w)
 have H := h
 clear h
 unfold ean_readAddOn.f at H
 replace H := ifc H
 obtain ⟨c2, H⟩ | ⟨c2, H⟩ := H
 rotate_left
 ·exact absurd H (by simp)
 have c2b0 := eq_true c2
 have c2b1 : decide (0 ≤ 4) = true := decide_eq_true c2
 clear c2
 replace H := ifn H
 obtain ⟨c3, H⟩ := H
 have c3b0 := eq_true c3
 have c3b1 : decide (4 ≤ (a0.size : Int)) = true := decide_eq_true c3
 clear c3
 by_cases c4 : (a0.extract 0 4).toList = ([49, 48, 49, 49] : List UInt8)
 rotate_left
 ·rw [if_neg c4] at H
  have c4b0 : ((a0.extract 0 4).toList == ([49, 48, 49, 49] : List UInt8)) = false := beq_eq_false_iff_ne.mpr c4
  have c4b1 : ((a0.extract 0 4).toList != ([49, 48, 49, 49] : List UInt8)) = true := bne_iff_ne.mpr c4
  simp only [Option.some.injEq, Prod.mk.injEq] at H
  obtain ⟨rfl, rfl⟩ := H
  go_enter Tryz.func82, Tryz.ntmps82
  go_wp2
  go_ret2
  exact ⟨es, bw⟩
 rw [if_pos c4] at H
 have c4b0 : ((a0.extract 0 4).toList == ([49, 48, 49, 49] : List UInt8)) = true := beq_iff_eq.mpr c4
 have c4b1 : ((a0.extract 0 4).toList != ([49, 48, 49, 49] : List UInt8)) = false := bne_eq_false_iff_eq.mpr c4
 clear c4
 have H' := Aside0.mk H
 clear H
 go_enter Tryz.func82, Tryz.ntmps82
 go_wp2
 go_loopg [4] k (fun kq v4 w' => ∃ (x4_1 : Int), v4 = .int .i64 x4_1 ∧ Aside0 (ean_readAddOn.l0 kq a0 x4_1 = some (r1, r2)) ∧ Aside0 (kq ≤ k) ∧ Aside0 (Below w.heap.size w w'))
 case atStart => exact ⟨(11), rs, H', ⟨Nat.le_refl _⟩, ⟨bw⟩⟩
 case round =>
  clear H'
  obtain ⟨x4_1, rfl, HA, HK1, HB⟩ := hrel
  cases gk with
  | zero => exact absurd HA.out (by simp [ean_readAddOn.l0])
  | succ k1 =>
   have H := HA.out
   clear HA
   simp only [ean_readAddOn.l0] at H
   replace H := ifc H
   obtain ⟨c5, H⟩ | ⟨c5, H⟩ := H
   ·have c5b0 : decide (x4_1 < (a0.size : Int)) = true := decide_eq_true c5
    clear c5
    replace H := ifn H
    obtain ⟨c6, H⟩ := H
    have c6b0 := eq_true c6
    have c6b1 : decide (0 ≤ x4_1) = true := decide_eq_true c6
    clear c6
    by_cases c7 : x4_1 ≤ (wrap64 (x4_1 + 2))
    rotate_left
    ·rw [if_neg c7] at H
     exact absurd H (by simp)
    rw [if_pos c7] at H
    have c7b0 := eq_true c7
    have c7b1 : decide (x4_1 ≤ (wrap64 (x4_1 + 2))) = true := decide_eq_true c7
    replace H := ifn H
    obtain ⟨c8, H⟩ := H
    have c8b0 := eq_true c8
    have c8b1 : decide ((wrap64 (x4_1 + 2)) ≤ (a0.size : Int)) = true := decide_eq_true c8
    by_cases c9 : (a0.extract (x4_1 : Int).toNat ((wrap64 (x4_1 + 2)) : Int).toNat).toList = ([48, 49] : List UInt8)
    rotate_left
    ·rw [if_neg c9] at H
     have c9b0 : ((a0.extract (x4_1 : Int).toNat ((wrap64 (x4_1 + 2)) : Int).toNat).toList == ([48, 49] : List UInt8)) = false := beq_eq_false_iff_ne.mpr c9
     have c9b1 : ((a0.extract (x4_1 : Int).toNat ((wrap64 (x4_1 + 2)) : Int).toNat).toList != ([48, 49] : List UInt8)) = true := bne_iff_ne.mpr c9
     simp only [Option.some.injEq, Prod.mk.injEq] at H
     obtain ⟨rfl, rfl⟩ := H
     go_wp2
     go_ret2
     exact ⟨es, bw⟩
    rw [if_pos c9] at H
    have c9b0 : ((a0.extract (x4_1 : Int).toNat ((wrap64 (x4_1 + 2)) : Int).toNat).toList == ([48, 49] : List UInt8)) = true := beq_iff_eq.mpr c9
    have c9b1 : ((a0.extract (x4_1 : Int).toNat ((wrap64 (x4_1 + 2)) : Int).toNat).toList != ([48, 49] : List UInt8)) = false := bne_eq_false_iff_eq.mpr c9
    clear c9
    have H' := Aside0.mk H
    clear H
    go_wp2
    go_roundg k1
    case measure => have := HK1.out; omega
    case rel => exact ⟨(wrap64 (x4_1 + 9)), rs, H', ⟨by have := HK1.out; omega⟩, ⟨bw⟩⟩
   have c5b0 : decide (x4_1 < (a0.size : Int)) = false := decide_eq_false c5
   clear c5
   replace H := ifn H
   obtain ⟨c10, H⟩ := H
   have c10b0 := eq_true c10
   have c10b1 : decide (4 ≤ (a0.size : Int)) = true := decide_eq_true c10
   clear c10
   replace H := bd H
   obtain ⟨⟨t424, t425, t426⟩, A11, H⟩ := H
   by_cases c12 : t426 = true
   rotate_left
   ·replace c12 := Bool.eq_false_iff.mpr c12
    subst c12
    rw [if_neg (show ¬ (false = true) by decide)] at H
    simp only [Option.some.injEq, Prod.mk.injEq] at H
    obtain ⟨rfl, rfl⟩ := H
    go_wp2_with (first | ((with_reducible refine gate_callee (f := 106) rfl ?_); refine goesL_ (some 26) rfl rfl Tryz.func106 kr rfl #[.string (a0.extract 4 a0.size), .string (⟨#[65, 66]⟩ : ByteArray), .int .i64 9] rfl ar ?_; (with_reducible refine (ean_readDigits.calls k1 (a0.extract 4 a0.size) (⟨#[65, 66]⟩ : ByteArray) 9 t424 t425 false _ A11.out).mono ?_); rintro e w19 ⟨rfl, hb⟩; refine ⟨_, rfl, ?_⟩; replace HB := Aside0.mk (below_step bw hb); clear hb))
    go_ret2
    exact ⟨es, bw⟩
   subst c12
   rw [if_pos rfl] at H
   replace H := bd H
   obtain ⟨t427, A13, H⟩ := H
   replace H := ifc H
   obtain ⟨c14, H⟩ | ⟨c14, H⟩ := H
   rotate_left
   ·have c14b0 : (t425.toList == t427.toList) = false := beq_eq_false_iff_ne.mpr c14
    have c14b1 : (t425.toList != t427.toList) = true := bne_iff_ne.mpr c14
    simp only [Option.some.injEq, Prod.mk.injEq] at H
    obtain ⟨rfl, rfl⟩ := H
    go_wp2_with (first | ((with_reducible refine gate_callee (f := 106) rfl ?_); refine goesL_ (some 26) rfl rfl Tryz.func106 kr rfl #[.string (a0.extract 4 a0.size), .string (⟨#[65, 66]⟩ : ByteArray), .int .i64 9] rfl ar ?_; (with_reducible refine (ean_readDigits.calls k1 (a0.extract 4 a0.size) (⟨#[65, 66]⟩ : ByteArray) 9 t424 t425 true _ A11.out).mono ?_); rintro e w17 ⟨rfl, hb⟩; refine ⟨_, rfl, ?_⟩; replace HB := Aside0.mk (below_step bw hb); clear hb) | ((with_reducible refine gate_callee (f := 32) rfl ?_); refine goesL_ (some 36) rfl rfl Tryz.func32 kr rfl #[.string t424] rfl ar ?_; (with_reducible refine (ean_setsOf.calls k1 t424 t427 _ A13.out).mono ?_); rintro e w18 ⟨rfl, hb⟩; refine ⟨_, rfl, ?_⟩; replace HB := Aside0.mk (below_step bw hb); clear hb))
    go_ret2
    exact ⟨es, bw⟩
   have c14b0 : (t425.toList == t427.toList) = true := beq_iff_eq.mpr c14
   have c14b1 : (t425.toList != t427.toList) = false := bne_eq_false_iff_eq.mpr c14
   clear c14
   simp only [Option.some.injEq, Prod.mk.injEq] at H
   obtain ⟨rfl, rfl⟩ := H
   go_wp2_with (first | ((with_reducible refine gate_callee (f := 106) rfl ?_); refine goesL_ (some 26) rfl rfl Tryz.func106 kr rfl #[.string (a0.extract 4 a0.size), .string (⟨#[65, 66]⟩ : ByteArray), .int .i64 9] rfl ar ?_; (with_reducible refine (ean_readDigits.calls k1 (a0.extract 4 a0.size) (⟨#[65, 66]⟩ : ByteArray) 9 t424 t425 true _ A11.out).mono ?_); rintro e w15 ⟨rfl, hb⟩; refine ⟨_, rfl, ?_⟩; replace HB := Aside0.mk (below_step bw hb); clear hb) | ((with_reducible refine gate_callee (f := 32) rfl ?_); refine goesL_ (some 36) rfl rfl Tryz.func32 kr rfl #[.string t424] rfl ar ?_; (with_reducible refine (ean_setsOf.calls k1 t424 t427 _ A13.out).mono ?_); rintro e w16 ⟨rfl, hb⟩; refine ⟨_, rfl, ?_⟩; replace HB := Aside0.mk (below_step bw hb); clear hb))
   go_ret2
   exact ⟨es, bw⟩

end Go.Proofs.YtjmeekceecpemaaGreatDoor.Q

namespace Go.Proofs.YtjmeekceecpemaaGreatDoor.Q
open Go.RowKit Go.Proofs.YtjmeekceecpemaaGreatDoorW.PrintWords Go.Proofs.YtjmeekceecpemaaGreatDoorW.PrintLast Go.Proofs.YtjmeekceecpemaaGreatDoorW.PrintMore

set_option linter.unusedVariables false
set_option linter.unusedSimpArgs false

/-! ### ean_shape: function 44 -/
def ean_shape.j0 : Nat → ByteArray → Int → Int → Int → Bool → Int → ByteArray → ByteArray → Option (Int × ByteArray × ByteArray × Int × Bool)
 | 0, _, _, _, _, _, _, _, _ => none
 | k + 1, x0, x1, x7, x9, x45, x429000, x429001, x429002 => if x45 = true then (some (x429000, x429001, x429002, x7, false)) else (if 0 ≤ x1 then (if x1 ≤ (x0.size : Int) then ((ean_read.f k (x0.extract 0 (x1 : Int).toNat)).bind fun bt434 => (if bt434.2.2.2 = 0 then (if 0 ≤ (wrap64 (x1 + x9)) then (if (wrap64 (x1 + x9)) ≤ (x0.size : Int) then ((ean_readAddOn.f k (x0.extract ((wrap64 (x1 + x9)) : Int).toNat x0.size)).bind fun bt438 => (if bt438.2 = 0 then (some (bt434.1, bt434.2.1, bt438.1, 0, true)) else (some (0, (⟨#[]⟩ : ByteArray), (⟨#[]⟩ : ByteArray), bt438.2, true)))) else (none)) else (none)) else (some (0, (⟨#[]⟩ : ByteArray), (⟨#[]⟩ : ByteArray), bt434.2.2.2, true)))) else (none)) else (none))
def ean_shape.f (k : Nat) (a0 : ByteArray) (a1 : Int) (a2 : Int) : Option (Int × ByteArray × ByteArray × Int × Bool) := if a2 = 0 then (if (a0.size : Int) = a1 then ((ean_read.f k a0).bind fun bt429 => (some (bt429.1, bt429.2.1, bt429.2.2.1, bt429.2.2.2, true))) else (some (0, (⟨#[]⟩ : ByteArray), (⟨#[]⟩ : ByteArray), 0, false))) else (if (wrap64 ((wrap64 ((a0.size : Int) - a1)) - a2)) < 7 then (ean_shape.j0 k a0 a1 0 (wrap64 ((wrap64 ((a0.size : Int) - a1)) - a2)) true 0 (⟨#[]⟩ : ByteArray) (⟨#[]⟩ : ByteArray)) else (if (wrap64 ((wrap64 ((a0.size : Int) - a1)) - a2)) > 12 then (ean_shape.j0 k a0 a1 0 (wrap64 ((wrap64 ((a0.size : Int) - a1)) - a2)) true 0 (⟨#[]⟩ : ByteArray) (⟨#[]⟩ : ByteArray)) else (if 0 ≤ a1 then (if a1 ≤ (wrap64 (a1 + (wrap64 ((wrap64 ((a0.size : Int) - a1)) - a2)))) then (if (wrap64 (a1 + (wrap64 ((wrap64 ((a0.size : Int) - a1)) - a2)))) ≤ (a0.size : Int) then ((strings_Contains.f (a0.extract (a1 : Int).toNat ((wrap64 (a1 + (wrap64 ((wrap64 ((a0.size : Int) - a1)) - a2)))) : Int).toNat) (⟨#[49]⟩ : ByteArray)).bind fun t433 => (ean_shape.j0 k a0 a1 0 (wrap64 ((wrap64 ((a0.size : Int) - a1)) - a2)) t433 0 (⟨#[]⟩ : ByteArray) (⟨#[]⟩ : ByteArray))) else (none)) else (none)) else (none))))
theorem ean_shape.mono_l : ∀ k, (∀ y0 y1 y2 y3 y4 y5 y6 y7, LeO (ean_shape.j0 k y0 y1 y2 y3 y4 y5 y6 y7) (ean_shape.j0 (k + 1) y0 y1 y2 y3 y4 y5 y6 y7))
 | 0 => fun _ _ _ _ _ _ _ _ r h => by simp [ean_shape.j0] at h
 | k + 1 => by
  have ih0 := ean_shape.mono_l k
  ·intro y0 y1 y2 y3 y4 y5 y6 y7
   unfold ean_shape.j0
   repeat' with_reducible first | exact ih0 _ _ _ _ _ _ _ _ | exact ean_read.mono _ _ | exact ean_readAddOn.mono _ _ | exact LeO.refl _ | exact LeO.none _ | refine LeO.ite ?_ ?_ | refine LeO.bind ?_ (fun _ => ?_)
theorem ean_shape.mono : ∀ a0 a1 a2 k, LeO (ean_shape.f k a0 a1 a2) (ean_shape.f (k + 1) a0 a1 a2) := by
 intro a0 a1 a2 k
 have ih0 := ean_shape.mono_l k
 unfold ean_shape.f
 repeat' with_reducible first | exact ih0 _ _ _ _ _ _ _ _ | exact ean_read.mono _ _ | exact ean_readAddOn.mono _ _ | exact LeO.refl _ | exact LeO.none _ | refine LeO.ite ?_ ?_ | refine LeO.bind ?_ (fun _ => ?_)
set_option maxHeartbeats 8000000 in
set_option maxRecDepth 100000 in
theorem ean_shape.calls (k : Nat) (a0 : ByteArray) (a1 : Int) (a2 : Int) (r1 : Int) (r2 : ByteArray) (r3 : ByteArray) (r4 : Int) (r5 : Bool) (w : World) (h : ean_shape.f k a0 a1 a2 = some (r1, r2, r3, r4, r5)) :
  Calls Tryz.prog 44 #[.string a0, .int .i64 a1, .int .i64 a2] w fun e w' => e = .returned (.tuple #[.agg #[.int .i64 r1, .string r2, .string r3], .int .i64 r4, .bool r5]) ∧ Below w.heap.size w w' := by
 have hu31 := Tryz.underlying31
 have HB := Aside0.mk (Below.refl w.heap.size w)
 have H := h
 clear h
 unfold ean_shape.f at H
 replace H := ifc H
 obtain ⟨c4, H⟩ | ⟨c4, H⟩ := H
 ·have c4b0 : (a2 == 0) = true := beq_iff_eq.mpr c4
  have c4b1 : (a2 != 0) = false := bne_eq_false_iff_eq.mpr c4
  clear c4
  replace H := ifc H
  obtain ⟨c5, H⟩ | ⟨c5, H⟩ := H
  rotate_left
  ·have c5b0 : ((a0.size : Int) == a1) = false := beq_eq_false_iff_ne.mpr c5
   have c5b1 : ((a0.size : Int) != a1) = true := bne_iff_ne.mpr c5
   simp only [Option.some.injEq, Prod.mk.injEq] at H
   obtain ⟨rfl, rfl, rfl, rfl, rfl⟩ := H
   go_enter Tryz.func44, Tryz.ntmps44
   go_wp2_with (first | ((with_reducible refine gate_dst (N := 6) rfl ?_); refine box_event ?hg (N := 6) ?hd (cs := #[.int .i64 0, .string (⟨#[]⟩ : ByteArray), .string (⟨#[]⟩ : ByteArray)]) (t := 31) ?hr ?_; (case hd => rfl); (case hg => rfl); (case hr => first | (go_simp; done) | (go_simp; rfl)); intro gb428 hg w10 hbox hb; have n0_ := Aside0.mk (below_step bw hb); have n1_ := Aside0.mk (hbox); have n2_ := Aside0.mk ((by rw [hg]; exact (below_size bw) : w.heap.size ≤ gb428)); have n3_ := Aside0.mk ((by rw [hg]; exact (below_size bw) : w.heap.size ≤ gb428)); clear HB; have HB := n0_; have BK428 := n1_; have GW428 := n2_; have GE428 := n3_; clear n0_ n1_ n2_ n3_; clear hb hbox hg; have hcz11_0 : w10.cell? ⟨gb428, 0, none⟩ = some (.int .i64 0) := (blk_cell BK428.out 0).trans rfl; have hcz11_1 : w10.cell? ⟨gb428, 1, none⟩ = some (.string (⟨#[]⟩ : ByteArray)) := (blk_cell BK428.out 1).trans rfl; have hcz11_2 : w10.cell? ⟨gb428, 2, none⟩ = some (.string (⟨#[]⟩ : ByteArray)) := (blk_cell BK428.out 2).trans rfl; have hfz11_0 := blk_frozen BK428.out 0; have hfz11_1 := blk_frozen BK428.out 1; have hfz11_2 := blk_frozen BK428.out 2))
   refine bodyPost_ret (results_ctt rfl _ _ gb428 31 #[.int .i64 0, .string (⟨#[]⟩ : ByteArray), .string (⟨#[]⟩ : ByteArray)] (0, 0) _ rfl (by (with_reducible repeat (first | refine blk_drewN ?_ _ | refine blk_drew ?_ | refine blk_alloc ?_ _)); refine blk_put (cs := #[.int .i64 0, .string (⟨#[]⟩ : ByteArray), .string (⟨#[]⟩ : ByteArray)]) ?_ 2 _ rfl; (with_reducible repeat (first | refine blk_drewN ?_ _ | refine blk_drew ?_ | refine blk_alloc ?_ _)); refine blk_put (cs := #[.int .i64 0, .string (⟨#[]⟩ : ByteArray), .string (⟨#[]⟩ : ByteArray)]) ?_ 1 _ rfl; (with_reducible repeat (first | refine blk_drewN ?_ _ | refine blk_drew ?_ | refine blk_alloc ?_ _)); refine blk_put (cs := #[.int .i64 0, .string (⟨#[]⟩ : ByteArray), .string (⟨#[]⟩ : ByteArray)]) ?_ 0 _ rfl; (with_reducible repeat (first | refine blk_drewN ?_ _ | refine blk_drew ?_ | refine blk_alloc ?_ _)); exact BK428.out) Tryz.underlying31 rfl kr) rfl ?_
   exact ⟨es, bw⟩
  have c5b0 : ((a0.size : Int) == a1) = true := beq_iff_eq.mpr c5
  have c5b1 : ((a0.size : Int) != a1) = false := bne_eq_false_iff_eq.mpr c5
  clear c5
  replace H := bd H
  obtain ⟨⟨t429, t430, t431, t432⟩, A6, H⟩ := H
  simp only [Option.some.injEq, Prod.mk.injEq] at H
  obtain ⟨rfl, rfl, rfl, rfl, rfl⟩ := H
  go_enter Tryz.func44, Tryz.ntmps44
  go_wp2_with (first | ((with_reducible refine gate_dst (N := 6) rfl ?_); refine box_event ?hg (N := 6) ?hd (cs := #[.int .i64 0, .string (⟨#[]⟩ : ByteArray), .string (⟨#[]⟩ : ByteArray)]) (t := 31) ?hr ?_; (case hd => rfl); (case hg => rfl); (case hr => first | (go_simp; done) | (go_simp; rfl)); intro gb428 hg w7 hbox hb; have n0_ := Aside0.mk (below_step bw hb); have n1_ := Aside0.mk (hbox); have n2_ := Aside0.mk ((by rw [hg]; exact (below_size bw) : w.heap.size ≤ gb428)); have n3_ := Aside0.mk ((by rw [hg]; exact (below_size bw) : w.heap.size ≤ gb428)); clear HB; have HB := n0_; have BK428 := n1_; have GW428 := n2_; have GE428 := n3_; clear n0_ n1_ n2_ n3_; clear hb hbox hg) | ((with_reducible refine gate_callee (f := 80) rfl ?_); refine goesL_ (some 20) rfl rfl Tryz.func80 kr rfl #[.string a0] rfl ar ?_; (with_reducible refine (ean_read.calls k a0 t429 t430 t431 t432 _ A6.out).mono ?_); rintro e w8 ⟨rfl, hb⟩; refine ⟨_, rfl, ?_⟩; replace BK428 := Aside0.mk (blk_below (g := gb428) (o := .cells #[.int .i64 0, .string (⟨#[]⟩ : ByteArray), .string (⟨#[]⟩ : ByteArray)] 31 (0, 0)) (bk BK428) hb); replace HB := Aside0.mk (below_step bw hb); clear hb; have hcz9_0 : w8.cell? ⟨gb428, 0, none⟩ = some (.int .i64 0) := (blk_cell BK428.out 0).trans rfl; have hcz9_1 : w8.cell? ⟨gb428, 1, none⟩ = some (.string (⟨#[]⟩ : ByteArray)) := (blk_cell BK428.out 1).trans rfl; have hcz9_2 : w8.cell? ⟨gb428, 2, none⟩ = some (.string (⟨#[]⟩ : ByteArray)) := (blk_cell BK428.out 2).trans rfl; have hfz9_0 := blk_frozen BK428.out 0; have hfz9_1 := blk_frozen BK428.out 1; have hfz9_2 := blk_frozen BK428.out 2))
  refine bodyPost_ret (results_ctt rfl _ _ gb428 31 #[.int .i64 t429, .string t430, .string t431] (0, 0) _ rfl (by (with_reducible repeat (first | refine blk_drewN ?_ _ | refine blk_drew ?_ | refine blk_alloc ?_ _)); refine blk_put (cs := #[.int .i64 t429, .string t430, .string t431]) ?_ 2 _ rfl; (with_reducible repeat (first | refine blk_drewN ?_ _ | refine blk_drew ?_ | refine blk_alloc ?_ _)); refine blk_put (cs := #[.int .i64 t429, .string t430, .string t431]) ?_ 1 _ rfl; (with_reducible repeat (first | refine blk_drewN ?_ _ | refine blk_drew ?_ | refine blk_alloc ?_ _)); refine blk_put (cs := #[.int .i64 t429, .string t430, .string t431]) ?_ 0 _ rfl; (with_reducible repeat (first | refine blk_drewN ?_ _ | refine blk_drew ?_ | refine blk_alloc ?_ _)); refine blk_put (cs := #[.int .i64 t429, .string t430, .string (⟨#[]⟩ : ByteArray)]) ?_ 2 _ rfl; (with_reducible repeat (first | refine blk_drewN ?_ _ | refine blk_drew ?_ | refine blk_alloc ?_ _)); refine blk_put (cs := #[.int .i64 t429, .string (⟨#[]⟩ : ByteArray), .string (⟨#[]⟩ : ByteArray)]) ?_ 1 _ rfl; (with_reducible repeat (first | refine blk_drewN ?_ _ | refine blk_drew ?_ | refine blk_alloc ?_ _)); refine blk_put (cs := #[.int .i64 0, .string (⟨#[]⟩ : ByteArray), .string (⟨#[]⟩ : ByteArray)]) ?_ 0 _ rfl; (with_reducible repeat (first | refine blk_drewN ?_ _ | refine blk_drew ?_ | refine blk_alloc ?_ _)); exact BK428.out) Tryz.underlying31 rfl kr) rfl ?_
  exact ⟨es, bw⟩
 have c4b0 : (a2 == 0) = false := beq_eq_false_iff_ne.mpr c4
 have c4b1 : (a2 != 0) = true := bne_iff_ne.mpr c4
 have HC12 := Aside0.mk H
 clear H
 go_enter Tryz.func44, Tryz.ntmps44
 go_upto_region 7 with (first | ((with_reducible refine gate_dst (N := 6) rfl ?_); refine box_event ?hg (N := 6) ?hd (cs := #[.int .i64 0, .string (⟨#[]⟩ : ByteArray), .string (⟨#[]⟩ : ByteArray)]) (t := 31) ?hr ?_; (case hd => rfl); (case hg => rfl); (case hr => first | (go_simp; done) | (go_simp; rfl)); intro gb428 hg w13 hbox hb; have n0_ := Aside0.mk (below_step bw hb); have n1_ := Aside0.mk (hbox); have n2_ := Aside0.mk ((by rw [hg]; exact (below_size bw) : w.heap.size ≤ gb428)); have n3_ := Aside0.mk ((by rw [hg]; exact (below_size bw) : w.heap.size ≤ gb428)); clear HB; have HB := n0_; have BK428 := n1_; have GW428 := n2_; have GE428 := n3_; clear n0_ n1_ n2_ n3_; clear hb hbox hg))
 (try simp only [Act.put, List.setIfInBounds_toArray, List.set_cons_zero, List.set_cons_succ])
 go_cut [45] (fun v45 wc => ∃ (kq : Nat) (x45_11 : Bool), v45 = .bool x45_11 ∧ Aside0 (ean_shape.j0 kq a0 a1 0 (wrap64 ((wrap64 ((a0.size : Int) - a1)) - a2)) x45_11 0 (⟨#[]⟩ : ByteArray) (⟨#[]⟩ : ByteArray) = some (r1, r2, r3, r4, r5)) ∧ Aside0 (kq ≤ k) ∧ Aside0 (wc.heap[gb428]? = some (.cells #[.int .i64 0, .string (⟨#[]⟩ : ByteArray), .string (⟨#[]⟩ : ByteArray)] 31 (0, 0))) ∧ Aside0 (Below w.heap.size w wc))
 case first =>
  have H := HC12.out
  clear HC12
  replace H := ifc H
  obtain ⟨c14, H⟩ | ⟨c14, H⟩ := H
  ·have c14b0 : decide ((wrap64 ((wrap64 ((a0.size : Int) - a1)) - a2)) < 7) = true := decide_eq_true c14
   clear c14
   (first | rw [c14b0] | (simp only [i64_w]; rw [c14b0]) | skip)
   have H' := Aside0.mk H
   clear H
   go_wp2
   go_meet
   case rel => exact ⟨_, (true), rs, H', ⟨la⟩, ⟨by (with_reducible repeat (first | refine blk_drewN ?_ _ | refine blk_drew ?_ | refine blk_alloc ?_ _)); exact BK428.out⟩, ⟨bw⟩⟩
  have c14b0 : decide ((wrap64 ((wrap64 ((a0.size : Int) - a1)) - a2)) < 7) = false := decide_eq_false c14
  clear c14
  (first | rw [c14b0] | (simp only [i64_w]; rw [c14b0]) | skip)
  replace H := ifc H
  obtain ⟨c15, H⟩ | ⟨c15, H⟩ := H
  ·have c15b0 : decide (12 < (wrap64 ((wrap64 ((a0.size : Int) - a1)) - a2))) = true := decide_eq_true c15
   clear c15
   have H' := Aside0.mk H
   clear H
   go_wp2
   go_meet
   case rel => exact ⟨_, (true), rs, H', ⟨la⟩, ⟨by (with_reducible repeat (first | refine blk_drewN ?_ _ | refine blk_drew ?_ | refine blk_alloc ?_ _)); exact BK428.out⟩, ⟨bw⟩⟩
  have c15b0 : decide (12 < (wrap64 ((wrap64 ((a0.size : Int) - a1)) - a2))) = false := decide_eq_false c15
  clear c15
  replace H := ifn H
  obtain ⟨c16, H⟩ := H
  have c16b0 := eq_true c16
  have c16b1 : decide (0 ≤ a1) = true := decide_eq_true c16
  clear c16
  by_cases c17 : a1 ≤ (wrap64 (a1 + (wrap64 ((wrap64 ((a0.size : Int) - a1)) - a2))))
  rotate_left
  ·rw [if_neg c17] at H
   exact absurd H (by simp)
  rw [if_pos c17] at H
  have c17b0 := eq_true c17
  have c17b1 : decide (a1 ≤ (wrap64 (a1 + (wrap64 ((wrap64 ((a0.size : Int) - a1)) - a2))))) = true := decide_eq_true c17
  replace H := ifn H
  obtain ⟨c18, H⟩ := H
  have c18b0 := eq_true c18
  have c18b1 : decide ((wrap64 (a1 + (wrap64 ((wrap64 ((a0.size : Int) - a1)) - a2)))) ≤ (a0.size : Int)) = true := decide_eq_true c18
  replace H := bd H
  obtain ⟨t433, A19, H⟩ := H
  have H' := Aside0.mk H
  clear H
  go_wp2_with (first | (go_at_call 81; (with_reducible refine (strings_Contains.calls (a0.extract (a1 : Int).toNat ((wrap64 (a1 + (wrap64 ((wrap64 ((a0.size : Int) - a1)) - a2)))) : Int).toNat) (⟨#[49]⟩ : ByteArray) t433 _ A19.out).mono ?_); rintro e w' ⟨rfl, ⟨nd, rfl⟩⟩))
  go_meet
  case rel => exact ⟨_, (t433), rs, H', ⟨la⟩, ⟨by (with_reducible repeat (first | refine blk_drewN ?_ _ | refine blk_drew ?_ | refine blk_alloc ?_ _)); exact BK428.out⟩, ⟨bw⟩⟩
 case rest =>
  clear HC12
  obtain ⟨kq, x45_11, rfl, HA, HJ11, BK428, HB⟩ := hcut
  cases kq with
  | zero => exact absurd HA.out (by simp [ean_shape.j0])
  | succ kj11 =>
   have H := HA.out
   clear HA
   simp only [ean_shape.j0] at H
   by_cases c20 : x45_11 = true
   ·subst c20
    rw [if_pos rfl] at H
    simp only [Option.some.injEq, Prod.mk.injEq] at H
    obtain ⟨rfl, rfl, rfl, rfl, rfl⟩ := H
    have hcz21_0 : wc.cell? ⟨gb428, 0, none⟩ = some (.int .i64 0) := (blk_cell BK428.out 0).trans rfl
    have hcz21_1 : wc.cell? ⟨gb428, 1, none⟩ = some (.string (⟨#[]⟩ : ByteArray)) := (blk_cell BK428.out 1).trans rfl
    have hcz21_2 : wc.cell? ⟨gb428, 2, none⟩ = some (.string (⟨#[]⟩ : ByteArray)) := (blk_cell BK428.out 2).trans rfl
    have hfz21_0 := blk_frozen BK428.out 0
    have hfz21_1 := blk_frozen BK428.out 1
    have hfz21_2 := blk_frozen BK428.out 2
    go_wp2
    refine bodyPost_ret (results_ctt rfl _ _ gb428 31 #[.int .i64 0, .string (⟨#[]⟩ : ByteArray), .string (⟨#[]⟩ : ByteArray)] (0, 0) _ rfl (by (with_reducible repeat (first | refine blk_drewN ?_ _ | refine blk_drew ?_ | refine blk_alloc ?_ _)); refine blk_put (cs := #[.int .i64 0, .string (⟨#[]⟩ : ByteArray), .string (⟨#[]⟩ : ByteArray)]) ?_ 2 _ rfl; (with_reducible repeat (first | refine blk_drewN ?_ _ | refine blk_drew ?_ | refine blk_alloc ?_ _)); refine blk_put (cs := #[.int .i64 0, .string (⟨#[]⟩ : ByteArray), .string (⟨#[]⟩ : ByteArray)]) ?_ 1 _ rfl; (with_reducible repeat (first | refine blk_drewN ?_ _ | refine blk_drew ?_ | refine blk_alloc ?_ _)); refine blk_put (cs := #[.int .i64 0, .string (⟨#[]⟩ : ByteArray), .string (⟨#[]⟩ : ByteArray)]) ?_ 0 _ rfl; (with_reducible repeat (first | refine blk_drewN ?_ _ | refine blk_drew ?_ | refine blk_alloc ?_ _)); exact BK428.out) Tryz.underlying31 rfl kr) rfl ?_
    exact ⟨es, bw⟩
   replace c20 := Bool.eq_false_iff.mpr c20
   subst c20
   rw [if_neg (show ¬ (false = true) by decide)] at H
   replace H := ifc H
   obtain ⟨c22, H⟩ | ⟨c22, H⟩ := H
   rotate_left
   ·exact absurd H (by simp)
   have c22b0 := eq_true c22
   have c22b1 : decide (0 ≤ a1) = true := decide_eq_true c22
   clear c22
   replace H := ifn H
   obtain ⟨c23, H⟩ := H
   have c23b0 := eq_true c23
   have c23b1 : decide (a1 ≤ (a0.size : Int)) = true := decide_eq_true c23
   clear c23
   replace H := bd H
   obtain ⟨⟨t434, t435, t436, t437⟩, A24, H⟩ := H
   by_cases c25 : t437 = 0
   rotate_left
   ·rw [if_neg c25] at H
    have c25b0 : (t437 == 0) = false := beq_eq_false_iff_ne.mpr c25
    have c25b1 : (t437 != 0) = true := bne_iff_ne.mpr c25
    simp only [Option.some.injEq, Prod.mk.injEq] at H
    obtain ⟨rfl, rfl, rfl, rfl, rfl⟩ := H
    go_wp2_with (first | ((with_reducible refine gate_callee (f := 80) rfl ?_); refine goesL_ (some 52) rfl rfl Tryz.func80 kr rfl #[.string (a0.extract 0 (a1 : Int).toNat)] rfl ar ?_; (with_reducible refine (ean_read.calls kj11 (a0.extract 0 (a1 : Int).toNat) t434 t435 t436 t437 _ A24.out).mono ?_); rintro e w39 ⟨rfl, hb⟩; refine ⟨_, rfl, ?_⟩; replace BK428 := Aside0.mk (blk_below (g := gb428) (o := .cells #[.int .i64 0, .string (⟨#[]⟩ : ByteArray), .string (⟨#[]⟩ : ByteArray)] 31 (0, 0)) (bk BK428) hb); replace HB := Aside0.mk (below_step bw hb); clear hb; have hcz40_0 : w39.cell? ⟨gb428, 0, none⟩ = some (.int .i64 0) := (blk_cell BK428.out 0).trans rfl; have hcz40_1 : w39.cell? ⟨gb428, 1, none⟩ = some (.string (⟨#[]⟩ : ByteArray)) := (blk_cell BK428.out 1).trans rfl; have hcz40_2 : w39.cell? ⟨gb428, 2, none⟩ = some (.string (⟨#[]⟩ : ByteArray)) := (blk_cell BK428.out 2).trans rfl; have hfz40_0 := blk_frozen BK428.out 0; have hfz40_1 := blk_frozen BK428.out 1; have hfz40_2 := blk_frozen BK428.out 2))
    refine bodyPost_ret (results_ctt rfl _ _ gb428 31 #[.int .i64 0, .string (⟨#[]⟩ : ByteArray), .string (⟨#[]⟩ : ByteArray)] (0, 0) _ rfl (by (with_reducible repeat (first | refine blk_drewN ?_ _ | refine blk_drew ?_ | refine blk_alloc ?_ _)); refine blk_put (cs := #[.int .i64 0, .string (⟨#[]⟩ : ByteArray), .string t436]) ?_ 2 _ rfl; (with_reducible repeat (first | refine blk_drewN ?_ _ | refine blk_drew ?_ | refine blk_alloc ?_ _)); refine blk_put (cs := #[.int .i64 0, .string t435, .string t436]) ?_ 1 _ rfl; (with_reducible repeat (first | refine blk_drewN ?_ _ | refine blk_drew ?_ | refine blk_alloc ?_ _)); refine blk_put (cs := #[.int .i64 t434, .string t435, .string t436]) ?_ 0 _ rfl; (with_reducible repeat (first | refine blk_drewN ?_ _ | refine blk_drew ?_ | refine blk_alloc ?_ _)); refine blk_put (cs := #[.int .i64 t434, .string t435, .string (⟨#[]⟩ : ByteArray)]) ?_ 2 _ rfl; (with_reducible repeat (first | refine blk_drewN ?_ _ | refine blk_drew ?_ | refine blk_alloc ?_ _)); refine blk_put (cs := #[.int .i64 t434, .string (⟨#[]⟩ : ByteArray), .string (⟨#[]⟩ : ByteArray)]) ?_ 1 _ rfl; (with_reducible repeat (first | refine blk_drewN ?_ _ | refine blk_drew ?_ | refine blk_alloc ?_ _)); refine blk_put (cs := #[.int .i64 0, .string (⟨#[]⟩ : ByteArray), .string (⟨#[]⟩ : ByteArray)]) ?_ 0 _ rfl; (with_reducible repeat (first | refine blk_drewN ?_ _ | refine blk_drew ?_ | refine blk_alloc ?_ _)); exact BK428.out) Tryz.underlying31 rfl kr) rfl ?_
    exact ⟨es, bw⟩
   rw [if_pos c25] at H
   have c25b0 : (t437 == 0) = true := beq_iff_eq.mpr c25
   have c25b1 : (t437 != 0) = false := bne_eq_false_iff_eq.mpr c25
   clear c25
   obtain ⟨ji26, hji26⟩ : ∃ j_ : Int, (wrap64 (a1 + (wrap64 ((wrap64 ((a0.size : Int) - a1)) - a2)))) = j_ := ⟨_, rfl⟩
   replace H : (if 0 ≤ (ji26) then (if (ji26) ≤ (a0.size : Int) then ((ean_readAddOn.f kj11 (a0.extract ((ji26) : Int).toNat a0.size)).bind fun bt438 => (if bt438.2 = 0 then (some (t434, t435, bt438.1, 0, true)) else (some (0, (⟨#[]⟩ : ByteArray), (⟨#[]⟩ : ByteArray), bt438.2, true)))) else (none)) else (none)) = some (r1, r2, r3, r4, r5) := by first | (rw [hji26] at H; exact H) | (simp only [hji26] at H ⊢; exact H)
   (try rw [hji26] at A24)
   have hji26w : (IntKind.i64.wrap (a1 + (wrap64 ((wrap64 ((a0.size : Int) - a1)) - a2)))) = ji26 := (i64_w _).trans hji26
   replace H := ifn H
   obtain ⟨c27, H⟩ := H
   have c27b0 := eq_true c27
   have c27b1 : decide (0 ≤ (ji26)) = true := decide_eq_true c27
   clear c27
   by_cases c28 : (ji26) ≤ (a0.size : Int)
   rotate_left
   ·rw [if_neg c28] at H
    exact absurd H (by simp)
   rw [if_pos c28] at H
   have c28b0 := eq_true c28
   have c28b1 : decide ((ji26) ≤ (a0.size : Int)) = true := decide_eq_true c28
   clear c28
   replace H := bd H
   obtain ⟨⟨t438, t439⟩, A29, H⟩ := H
   replace H := ifc H
   obtain ⟨c30, H⟩ | ⟨c30, H⟩ := H
   ·have c30b0 : (t439 == 0) = true := beq_iff_eq.mpr c30
    have c30b1 : (t439 != 0) = false := bne_eq_false_iff_eq.mpr c30
    clear c30
    simp only [Option.some.injEq, Prod.mk.injEq] at H
    obtain ⟨rfl, rfl, rfl, rfl, rfl⟩ := H
    go_wp2_with (first | ((with_reducible refine gate_callee (f := 80) rfl ?_); refine goesL_ (some 52) rfl rfl Tryz.func80 kr rfl #[.string (a0.extract 0 (a1 : Int).toNat)] rfl ar ?_; (with_reducible refine (ean_read.calls kj11 (a0.extract 0 (a1 : Int).toNat) t434 t435 t436 t437 _ A24.out).mono ?_); rintro e w31 ⟨rfl, hb⟩; refine ⟨_, rfl, ?_⟩; replace BK428 := Aside0.mk (blk_below (g := gb428) (o := .cells #[.int .i64 0, .string (⟨#[]⟩ : ByteArray), .string (⟨#[]⟩ : ByteArray)] 31 (0, 0)) (bk BK428) hb); replace HB := Aside0.mk (below_step bw hb); clear hb; have hcz32_0 : w31.cell? ⟨gb428, 0, none⟩ = some (.int .i64 0) := (blk_cell BK428.out 0).trans rfl; have hcz32_1 : w31.cell? ⟨gb428, 1, none⟩ = some (.string (⟨#[]⟩ : ByteArray)) := (blk_cell BK428.out 1).trans rfl; have hcz32_2 : w31.cell? ⟨gb428, 2, none⟩ = some (.string (⟨#[]⟩ : ByteArray)) := (blk_cell BK428.out 2).trans rfl; have hfz32_0 := blk_frozen BK428.out 0; have hfz32_1 := blk_frozen BK428.out 1; have hfz32_2 := blk_frozen BK428.out 2) | ((with_reducible refine gate_callee (f := 82) rfl ?_); refine goesL_ (some 65) rfl rfl Tryz.func82 kr rfl #[.string (a0.extract ((ji26) : Int).toNat a0.size)] rfl (by (try simp only [List.map_toArray, List.map_cons, List.map_nil]); first | done | (simp only [hji26]; rfl) | rfl | (simp only [List.length_drop, List.length_take]; rfl)) ?_; (with_reducible refine (ean_readAddOn.calls kj11 (a0.extract ((ji26) : Int).toNat a0.size) t438 t439 _ A29.out).mono ?_); rintro e w33 ⟨rfl, hb⟩; refine ⟨_, rfl, ?_⟩; replace BK428 := Aside0.mk (blk_below (g := gb428) (o := .cells #[.int .i64 t434, .string t435, .string t436] 31 (0, 0)) (by (with_reducible repeat (first | refine blk_drewN ?_ _ | refine blk_drew ?_ | refine blk_alloc ?_ _)); refine blk_put (cs := #[.int .i64 t434, .string t435, .string (⟨#[]⟩ : ByteArray)]) ?_ 2 _ rfl; (with_reducible repeat (first | refine blk_drewN ?_ _ | refine blk_drew ?_ | refine blk_alloc ?_ _)); refine blk_put (cs := #[.int .i64 t434, .string (⟨#[]⟩ : ByteArray), .string (⟨#[]⟩ : ByteArray)]) ?_ 1 _ rfl; (with_reducible repeat (first | refine blk_drewN ?_ _ | refine blk_drew ?_ | refine blk_alloc ?_ _)); refine blk_put (cs := #[.int .i64 0, .string (⟨#[]⟩ : ByteArray), .string (⟨#[]⟩ : ByteArray)]) ?_ 0 _ rfl; (with_reducible repeat (first | refine blk_drewN ?_ _ | refine blk_drew ?_ | refine blk_alloc ?_ _)); exact BK428.out) hb); replace HB := Aside0.mk (below_step bw hb); clear hb; have hcz34_0 : w33.cell? ⟨gb428, 0, none⟩ = some (.int .i64 t434) := (blk_cell BK428.out 0).trans rfl; have hcz34_1 : w33.cell? ⟨gb428, 1, none⟩ = some (.string t435) := (blk_cell BK428.out 1).trans rfl; have hcz34_2 : w33.cell? ⟨gb428, 2, none⟩ = some (.string t436) := (blk_cell BK428.out 2).trans rfl; have hfz34_0 := blk_frozen BK428.out 0; have hfz34_1 := blk_frozen BK428.out 1; have hfz34_2 := blk_frozen BK428.out 2))
    refine bodyPost_ret (results_ctt rfl _ _ gb428 31 #[.int .i64 t434, .string t435, .string t438] (0, 0) _ rfl (by (with_reducible repeat (first | refine blk_drewN ?_ _ | refine blk_drew ?_ | refine blk_alloc ?_ _)); refine blk_put (cs := #[.int .i64 t434, .string t435, .string t438]) ?_ 2 _ rfl; (with_reducible repeat (first | refine blk_drewN ?_ _ | refine blk_drew ?_ | refine blk_alloc ?_ _)); refine blk_put (cs := #[.int .i64 t434, .string t435, .string t438]) ?_ 1 _ rfl; (with_reducible repeat (first | refine blk_drewN ?_ _ | refine blk_drew ?_ | refine blk_alloc ?_ _)); refine blk_put (cs := #[.int .i64 t434, .string t435, .string t438]) ?_ 0 _ rfl; (with_reducible repeat (first | refine blk_drewN ?_ _ | refine blk_drew ?_ | refine blk_alloc ?_ _)); refine blk_put (cs := #[.int .i64 t434, .string t435, .string t436]) ?_ 2 _ rfl; (with_reducible repeat (first | refine blk_drewN ?_ _ | refine blk_drew ?_ | refine blk_alloc ?_ _)); exact BK428.out) Tryz.underlying31 rfl kr) rfl ?_
    exact ⟨by first | rfl | (simp [errW_none, errW_some] <;> rfl) | (simp only [← hji26]; first | rfl | (simp [errW_none, errW_some] <;> rfl)) | (simp [*, errW_none, errW_some] <;> rfl), bw⟩
   have c30b0 : (t439 == 0) = false := beq_eq_false_iff_ne.mpr c30
   have c30b1 : (t439 != 0) = true := bne_iff_ne.mpr c30
   simp only [Option.some.injEq, Prod.mk.injEq] at H
   obtain ⟨rfl, rfl, rfl, rfl, rfl⟩ := H
   go_wp2_with (first | ((with_reducible refine gate_callee (f := 80) rfl ?_); refine goesL_ (some 52) rfl rfl Tryz.func80 kr rfl #[.string (a0.extract 0 (a1 : Int).toNat)] rfl ar ?_; (with_reducible refine (ean_read.calls kj11 (a0.extract 0 (a1 : Int).toNat) t434 t435 t436 t437 _ A24.out).mono ?_); rintro e w35 ⟨rfl, hb⟩; refine ⟨_, rfl, ?_⟩; replace BK428 := Aside0.mk (blk_below (g := gb428) (o := .cells #[.int .i64 0, .string (⟨#[]⟩ : ByteArray), .string (⟨#[]⟩ : ByteArray)] 31 (0, 0)) (bk BK428) hb); replace HB := Aside0.mk (below_step bw hb); clear hb; have hcz36_0 : w35.cell? ⟨gb428, 0, none⟩ = some (.int .i64 0) := (blk_cell BK428.out 0).trans rfl; have hcz36_1 : w35.cell? ⟨gb428, 1, none⟩ = some (.string (⟨#[]⟩ : ByteArray)) := (blk_cell BK428.out 1).trans rfl; have hcz36_2 : w35.cell? ⟨gb428, 2, none⟩ = some (.string (⟨#[]⟩ : ByteArray)) := (blk_cell BK428.out 2).trans rfl; have hfz36_0 := blk_frozen BK428.out 0; have hfz36_1 := blk_frozen BK428.out 1; have hfz36_2 := blk_frozen BK428.out 2) | ((with_reducible refine gate_callee (f := 82) rfl ?_); refine goesL_ (some 65) rfl rfl Tryz.func82 kr rfl #[.string (a0.extract ((ji26) : Int).toNat a0.size)] rfl (by (try simp only [List.map_toArray, List.map_cons, List.map_nil]); first | done | (simp only [hji26]; rfl) | rfl | (simp only [List.length_drop, List.length_take]; rfl)) ?_; (with_reducible refine (ean_readAddOn.calls kj11 (a0.extract ((ji26) : Int).toNat a0.size) t438 t439 _ A29.out).mono ?_); rintro e w37 ⟨rfl, hb⟩; refine ⟨_, rfl, ?_⟩; replace BK428 := Aside0.mk (blk_below (g := gb428) (o := .cells #[.int .i64 t434, .string t435, .string t436] 31 (0, 0)) (by (with_reducible repeat (first | refine blk_drewN ?_ _ | refine blk_drew ?_ | refine blk_alloc ?_ _)); refine blk_put (cs := #[.int .i64 t434, .string t435, .string (⟨#[]⟩ : ByteArray)]) ?_ 2 _ rfl; (with_reducible repeat (first | refine blk_drewN ?_ _ | refine blk_drew ?_ | refine blk_alloc ?_ _)); refine blk_put (cs := #[.int .i64 t434, .string (⟨#[]⟩ : ByteArray), .string (⟨#[]⟩ : ByteArray)]) ?_ 1 _ rfl; (with_reducible repeat (first | refine blk_drewN ?_ _ | refine blk_drew ?_ | refine blk_alloc ?_ _)); refine blk_put (cs := #[.int .i64 0, .string (⟨#[]⟩ : ByteArray), .string (⟨#[]⟩ : ByteArray)]) ?_ 0 _ rfl; (with_reducible repeat (first | refine blk_drewN ?_ _ | refine blk_drew ?_ | refine blk_alloc ?_ _)); exact BK428.out) hb); replace HB := Aside0.mk (below_step bw hb); clear hb; have hcz38_0 : w37.cell? ⟨gb428, 0, none⟩ = some (.int .i64 t434) := (blk_cell BK428.out 0).trans rfl; have hcz38_1 : w37.cell? ⟨gb428, 1, none⟩ = some (.string t435) := (blk_cell BK428.out 1).trans rfl; have hcz38_2 : w37.cell? ⟨gb428, 2, none⟩ = some (.string t436) := (blk_cell BK428.out 2).trans rfl; have hfz38_0 := blk_frozen BK428.out 0; have hfz38_1 := blk_frozen BK428.out 1; have hfz38_2 := blk_frozen BK428.out 2))
   refine bodyPost_ret (results_ctt rfl _ _ gb428 31 #[.int .i64 0, .string (⟨#[]⟩ : ByteArray), .string (⟨#[]⟩ : ByteArray)] (0, 0) _ rfl (by (with_reducible repeat (first | refine blk_drewN ?_ _ | refine blk_drew ?_ | refine blk_alloc ?_ _)); refine blk_put (cs := #[.int .i64 0, .string (⟨#[]⟩ : ByteArray), .string t438]) ?_ 2 _ rfl; (with_reducible repeat (first | refine blk_drewN ?_ _ | refine blk_drew ?_ | refine blk_alloc ?_ _)); refine blk_put (cs := #[.int .i64 0, .string t435, .string t438]) ?_ 1 _ rfl; (with_reducible repeat (first | refine blk_drewN ?_ _ | refine blk_drew ?_ | refine blk_alloc ?_ _)); refine blk_put (cs := #[.int .i64 t434, .string t435, .string t438]) ?_ 0 _ rfl; (with_reducible repeat (first | refine blk_drewN ?_ _ | refine blk_drew ?_ | refine blk_alloc ?_ _)); refine blk_put (cs := #[.int .i64 t434, .string t435, .string t436]) ?_ 2 _ rfl; (with_reducible repeat (first | refine blk_drewN ?_ _ | refine blk_drew ?_ | refine blk_alloc ?_ _)); exact BK428.out) Tryz.underlying31 rfl kr) rfl ?_
   exact ⟨by first | rfl | (simp [errW_none, errW_some] <;> rfl) | (simp only [← hji26]; first | rfl | (simp [errW_none, errW_some] <;> rfl)) | (simp [*, errW_none, errW_some] <;> rfl), bw⟩

end Go.Proofs.YtjmeekceecpemaaGreatDoor.Q

namespace Go.Proofs.YtjmeekceecpemaaGreatDoor.Q
open Go.RowKit Go.Proofs.YtjmeekceecpemaaGreatDoorW.PrintWords Go.Proofs.YtjmeekceecpemaaGreatDoorW.PrintLast Go.Proofs.YtjmeekceecpemaaGreatDoorW.PrintMore

set_option linter.unusedVariables false
set_option linter.unusedSimpArgs false

/-! ### ean_Decode: function 15 -/
mutual
def ean_Decode.l0 : Nat → ByteArray → Int → List Int → Int → Int → Option (Int × ByteArray × ByteArray × Int)
 | 0, _, _, _, _, _ => none
 | k + 1, x5, x7, x43, x44, x45 => if x45 < x44 then (if 0 ≤ x45 then (if x45 < (x43.length : Int) then ((some (([0, 20, 47] : List Int) : List Int)).bind fun y448 => (ean_Decode.l1 k x5 x7 (rd x43 x45) x43 x44 x45 y448 (y448.length : Int) 0)) else (none)) else (none)) else (some (0, (⟨#[]⟩ : ByteArray), (⟨#[]⟩ : ByteArray), x7))
def ean_Decode.l1 : Nat → ByteArray → Int → Int → List Int → Int → Int → List Int → Int → Int → Option (Int × ByteArray × ByteArray × Int)
 | 0, _, _, _, _, _, _, _, _, _ => none
 | k + 1, x5, x7, x9, x43, x44, x45, x49, x50, x51 => if x51 < x50 then (if 0 ≤ x51 then (if x51 < (x49.length : Int) then ((ean_shape.f k x5 x9 (rd x49 x51)).bind fun bt452 => (if bt452.2.2.2.2 = true then (ean_Decode.j2 k x5 x7 x9 bt452.2.2.2.1 bt452.2.2.2.2 x43 x44 x45 x49 x50 x51 (bt452.2.2.2.1 == 0) bt452.1 bt452.2.1 bt452.2.2.1) else (ean_Decode.j2 k x5 x7 x9 bt452.2.2.2.1 bt452.2.2.2.2 x43 x44 x45 x49 x50 x51 false bt452.1 bt452.2.1 bt452.2.2.1))) else (none)) else (none)) else (ean_Decode.l0 k x5 x7 x43 x44 (wrap64 (x45 + 1)))
def ean_Decode.j2 : Nat → ByteArray → Int → Int → Int → Bool → List Int → Int → Int → List Int → Int → Int → Bool → Int → ByteArray → ByteArray → Option (Int × ByteArray × ByteArray × Int)
 | 0, _, _, _, _, _, _, _, _, _, _, _, _, _, _, _ => none
 | k + 1, x5, x7, x9, x13, x14, x43, x44, x45, x49, x50, x51, x67, x458000, x458001, x458002 => if x67 = true then (some (x458000, x458001, x458002, 0)) else (if x14 = true then (if x7 = 7 then (ean_Decode.l1 k x5 x13 x9 x43 x44 x45 x49 x50 (wrap64 (x51 + 1))) else (ean_Decode.l1 k x5 x7 x9 x43 x44 x45 x49 x50 (wrap64 (x51 + 1)))) else (ean_Decode.l1 k x5 x7 x9 x43 x44 x45 x49 x50 (wrap64 (x51 + 1))))
end
def ean_Decode.f (k : Nat) (l0 : List Bool) : Option (Int × ByteArray × ByteArray × Int) := if (l0.length : Int) > 65536 then (some (0, (⟨#[]⟩ : ByteArray), (⟨#[]⟩ : ByteArray), 4)) else ((ean_text.f k l0).bind fun t441 => ((strings_Trim.f t441 (⟨#[48]⟩ : ByteArray)).bind fun t442 => ((strings_Index.f t441 (⟨#[49]⟩ : ByteArray)).bind fun t443 => (if t442.toList = ([] : List UInt8) then (some (0, (⟨#[]⟩ : ByteArray), (⟨#[]⟩ : ByteArray), 5)) else (if t443 < 7 then (some (0, (⟨#[]⟩ : ByteArray), (⟨#[]⟩ : ByteArray), 9)) else (if (wrap64 ((wrap64 ((t441.size : Int) - t443)) - (t442.size : Int))) < 7 then (some (0, (⟨#[]⟩ : ByteArray), (⟨#[]⟩ : ByteArray), 9)) else ((some (([95, 67, 51] : List Int) : List Int)).bind fun y444 => (ean_Decode.l0 k t442 7 y444 (y444.length : Int) 0))))))))
theorem ean_Decode.mono_l : ∀ k, (∀ y0 y1 y2 y3 y4, LeO (ean_Decode.l0 k y0 y1 y2 y3 y4) (ean_Decode.l0 (k + 1) y0 y1 y2 y3 y4)) ∧ (∀ y0 y1 y2 y3 y4 y5 y6 y7 y8, LeO (ean_Decode.l1 k y0 y1 y2 y3 y4 y5 y6 y7 y8) (ean_Decode.l1 (k + 1) y0 y1 y2 y3 y4 y5 y6 y7 y8)) ∧ (∀ y0 y1 y2 y3 y4 y5 y6 y7 y8 y9 y10 y11 y12 y13 y14, LeO (ean_Decode.j2 k y0 y1 y2 y3 y4 y5 y6 y7 y8 y9 y10 y11 y12 y13 y14) (ean_Decode.j2 (k + 1) y0 y1 y2 y3 y4 y5 y6 y7 y8 y9 y10 y11 y12 y13 y14))
 | 0 => ⟨fun _ _ _ _ _ r h => by simp [ean_Decode.l0] at h, fun _ _ _ _ _ _ _ _ _ r h => by simp [ean_Decode.l1] at h, fun _ _ _ _ _ _ _ _ _ _ _ _ _ _ _ r h => by simp [ean_Decode.j2] at h⟩
 | k + 1 => by
  obtain ⟨ih0, ih1, ih2⟩ := ean_Decode.mono_l k
  refine ⟨?_, ?_, ?_⟩
  ·intro y0 y1 y2 y3 y4
   unfold ean_Decode.l0
   repeat' with_reducible first | exact ih0 _ _ _ _ _ | exact ih1 _ _ _ _ _ _ _ _ _ | exact ih2 _ _ _ _ _ _ _ _ _ _ _ _ _ _ _ | exact ean_shape.mono _ _ _ _ | exact ean_text.mono _ _ | exact LeO.refl _ | exact LeO.none _ | refine LeO.ite ?_ ?_ | refine LeO.bind ?_ (fun _ => ?_)
  ·intro y0 y1 y2 y3 y4 y5 y6 y7 y8
   unfold ean_Decode.l1
   repeat' with_reducible first | exact ih0 _ _ _ _ _ | exact ih1 _ _ _ _ _ _ _ _ _ | exact ih2 _ _ _ _ _ _ _ _ _ _ _ _ _ _ _ | exact ean_shape.mono _ _ _ _ | exact ean_text.mono _ _ | exact LeO.refl _ | exact LeO.none _ | refine LeO.ite ?_ ?_ | refine LeO.bind ?_ (fun _ => ?_)
  ·intro y0 y1 y2 y3 y4 y5 y6 y7 y8 y9 y10 y11 y12 y13 y14
   unfold ean_Decode.j2
   repeat' with_reducible first | exact ih0 _ _ _ _ _ | exact ih1 _ _ _ _ _ _ _ _ _ | exact ih2 _ _ _ _ _ _ _ _ _ _ _ _ _ _ _ | exact ean_shape.mono _ _ _ _ | exact ean_text.mono _ _ | exact LeO.refl _ | exact LeO.none _ | refine LeO.ite ?_ ?_ | refine LeO.bind ?_ (fun _ => ?_)
theorem ean_Decode.mono : ∀ a0 k, LeO (ean_Decode.f k a0) (ean_Decode.f (k + 1) a0) := by
 intro a0 k
 obtain ⟨ih0, ih1, ih2⟩ := ean_Decode.mono_l k
 unfold ean_Decode.f
 repeat' with_reducible first | exact ih0 _ _ _ _ _ | exact ih1 _ _ _ _ _ _ _ _ _ | exact ih2 _ _ _ _ _ _ _ _ _ _ _ _ _ _ _ | exact ean_shape.mono _ _ _ _ | exact ean_text.mono _ _ | exact LeO.refl _ | exact LeO.none _ | refine LeO.ite ?_ ?_ | refine LeO.bind ?_ (fun _ => ?_)
set_option maxHeartbeats 8000000 in
set_option maxRecDepth 100000 in
theorem ean_Decode.calls (k : Nat) (A0 : Option Addr) (c0 : Nat) (l0 : List Bool) (r1 : Int) (r2 : ByteArray) (r3 : ByteArray) (r4 : Int) (w : World) (hr0 : Kd.C Kd.bool w A0 l0.length l0) (hc0 : l0.length ≤ c0) (h : ean_Decode.f k l0 = some (r1, r2, r3, r4)) :
  Calls Tryz.prog 15 #[.slice A0 l0.length c0] w fun e w' => e = .returned (.tuple #[.agg #[.int .i64 r1, .string r2, .string r3], .int .i64 r4]) ∧ Below w.heap.size w w' := by
 have hu31 := Tryz.underlying31
 have HR0 := Aside0.mk hr0
 have HC0 := Aside0.mk hc0
 clear hr0 hc0
 have HB := Aside0.mk (Below.refl w.heap.size w)
 have H := h
 clear h
 unfold ean_Decode.f at H
 replace H := ifc H
 obtain ⟨c2, H⟩ | ⟨c2, H⟩ := H
 ·have c2b0 : decide (65536 < (l0.length : Int)) = true := decide_eq_true c2
  have c2b1 : decide (65536 < l0.length) = true := decide_eq_true om
  clear c2
  simp only [Option.some.injEq, Prod.mk.injEq] at H
  obtain ⟨rfl, rfl, rfl, rfl⟩ := H
  go_enter Tryz.func15, Tryz.ntmps15
  go_wp2_with (first | ((with_reducible refine gate_dst (N := 2) rfl ?_); (try (refine gate_guard (by rfl) ?_; dsimp only)); refine box_event ?hg (N := 2) ?hd (cs := #[.int .i64 0, .string (⟨#[]⟩ : ByteArray), .string (⟨#[]⟩ : ByteArray)]) (t := 31) ?hr ?_; (case hd => rfl); (case hg => rfl); (case hr => first | (go_simp; done) | (go_simp; rfl)); intro gb440 hg w3 hbox hb; have n0_ := Aside0.mk (below_step bw hb); have n1_ := Aside0.mk (hbox); have n2_ := Aside0.mk ((by rw [hg]; exact (below_size bw) : w.heap.size ≤ gb440)); have n3_ := Aside0.mk ((by rw [hg]; exact (below_size bw) : w.heap.size ≤ gb440)); clear HB; have HB := n0_; have BK440 := n1_; have GW440 := n2_; have GE440 := n3_; clear n0_ n1_ n2_ n3_; clear hb hbox hg; have hcz4_0 : w3.cell? ⟨gb440, 0, none⟩ = some (.int .i64 0) := (blk_cell BK440.out 0).trans rfl; have hcz4_1 : w3.cell? ⟨gb440, 1, none⟩ = some (.string (⟨#[]⟩ : ByteArray)) := (blk_cell BK440.out 1).trans rfl; have hcz4_2 : w3.cell? ⟨gb440, 2, none⟩ = some (.string (⟨#[]⟩ : ByteArray)) := (blk_cell BK440.out 2).trans rfl; have hfz4_0 := blk_frozen BK440.out 0; have hfz4_1 := blk_frozen BK440.out 1; have hfz4_2 := blk_frozen BK440.out 2))
  refine bodyPost_ret (results_ct rfl _ _ gb440 31 #[.int .i64 0, .string (⟨#[]⟩ : ByteArray), .string (⟨#[]⟩ : ByteArray)] (0, 0) _ rfl (by (with_reducible repeat (first | refine blk_drewN ?_ _ | refine blk_drew ?_ | refine blk_alloc ?_ _)); refine blk_put (cs := #[.int .i64 0, .string (⟨#[]⟩ : ByteArray), .string (⟨#[]⟩ : ByteArray)]) ?_ 2 _ rfl; (with_reducible repeat (first | refine blk_drewN ?_ _ | refine blk_drew ?_ | refine blk_alloc ?_ _)); refine blk_put (cs := #[.int .i64 0, .string (⟨#[]⟩ : ByteArray), .string (⟨#[]⟩ : ByteArray)]) ?_ 1 _ rfl; (with_reducible repeat (first | refine blk_drewN ?_ _ | refine blk_drew ?_ | refine blk_alloc ?_ _)); refine blk_put (cs := #[.int .i64 0, .string (⟨#[]⟩ : ByteArray), .string (⟨#[]⟩ : ByteArray)]) ?_ 0 _ rfl; (with_reducible repeat (first | refine blk_drewN ?_ _ | refine blk_drew ?_ | refine blk_alloc ?_ _)); exact BK440.out) Tryz.underlying31 rfl kr) rfl ?_
  exact ⟨es, bw⟩
 have c2b0 : decide (65536 < (l0.length : Int)) = false := decide_eq_false c2
 have c2b1 : decide (65536 < l0.length) = false := decide_eq_false om
 clear c2
 replace H := bd H
 obtain ⟨t441, A5, H⟩ := H
 replace H := bd H
 obtain ⟨t442, A6, H⟩ := H
 replace H := bd H
 obtain ⟨t443, A7, H⟩ := H
 replace H := ifc H
 obtain ⟨c8, H⟩ | ⟨c8, H⟩ := H
 ·have c8b0 : (t442.toList == ([] : List UInt8)) = true := beq_iff_eq.mpr c8
  have c8b1 : (t442.toList != ([] : List UInt8)) = false := bne_eq_false_iff_eq.mpr c8
  clear c8
  simp only [Option.some.injEq, Prod.mk.injEq] at H
  obtain ⟨rfl, rfl, rfl, rfl⟩ := H
  go_enter Tryz.func15, Tryz.ntmps15
  go_wp2_with (first | ((with_reducible refine gate_dst (N := 2) rfl ?_); (try (refine gate_guard (by rfl) ?_; dsimp only)); refine box_event ?hg (N := 2) ?hd (cs := #[.int .i64 0, .string (⟨#[]⟩ : ByteArray), .string (⟨#[]⟩ : ByteArray)]) (t := 31) ?hr ?_; (case hd => rfl); (case hg => rfl); (case hr => first | (go_simp; done) | (go_simp; rfl)); intro gb440 hg w9 hbox hb; have n0_ := Aside0.mk (below_step bw hb); have n1_ := Aside0.mk (hbox); have n2_ := Aside0.mk ((by rw [hg]; exact (below_size bw) : w.heap.size ≤ gb440)); have n3_ := Aside0.mk ((by rw [hg]; exact (below_size bw) : w.heap.size ≤ gb440)); clear HB; have HB := n0_; have BK440 := n1_; have GW440 := n2_; have GE440 := n3_; clear n0_ n1_ n2_ n3_; clear hb hbox hg) | ((with_reducible refine gate_callee (f := 41) rfl ?_); refine goesL_ (some 20) rfl rfl Tryz.func41 kr rfl #[.slice A0 l0.length c0] rfl ar ?_; (with_reducible refine (ean_text.calls k _ _ l0 t441 _ ?side1 ?side2 A5.out).mono ?_); (case side1 => repeat (first | exact (Kd.C_below HR0.out HB.out) | (with_reducible refine Kd.C_alloc ?_ _) | (with_reducible refine Kd.C_drewN ?_ _) | (with_reducible refine Kd.C_drew ?_))); (case side2 => exact HC0.out); rintro e w10 ⟨rfl, hb⟩; refine ⟨_, rfl, ?_⟩; replace BK440 := Aside0.mk (blk_below (g := gb440) (o := .cells #[.int .i64 0, .string (⟨#[]⟩ : ByteArray), .string (⟨#[]⟩ : ByteArray)] 31 (0, 0)) (bk BK440) hb); replace HB := Aside0.mk (below_step bw hb); clear hb) | ((with_reducible refine gate_callee (f := 42) rfl ?_); refine goesL_ (some 22) rfl rfl Tryz.func42 kr rfl #[.string t441, .string (⟨#[48]⟩ : ByteArray)] rfl ar ?_; (with_reducible refine (strings_Trim.calls t441 (⟨#[48]⟩ : ByteArray) t442 _ A6.out).mono ?_); rintro e w11 ⟨rfl, hb⟩; refine ⟨_, rfl, ?_⟩; replace BK440 := Aside0.mk (blk_below (g := gb440) (o := .cells #[.int .i64 0, .string (⟨#[]⟩ : ByteArray), .string (⟨#[]⟩ : ByteArray)] 31 (0, 0)) (bk BK440) hb); replace HB := Aside0.mk (below_step bw hb); clear hb) | ((with_reducible refine gate_callee (f := 43) rfl ?_); refine goesL_ (some 24) rfl rfl Tryz.func43 kr rfl #[.string t441, .string (⟨#[49]⟩ : ByteArray)] rfl ar ?_; (with_reducible refine (strings_Index.calls t441 (⟨#[49]⟩ : ByteArray) t443 _ A7.out).mono ?_); rintro e w' ⟨rfl, ⟨nd, rfl⟩⟩; refine ⟨_, rfl, ?_⟩; (try (rw [drewN_self w11]; generalize hq_ : World.drewN w11 _ = w11; have n0_ : Aside0 (w11.heap[gb440]? = some (.cells #[.int .i64 0, .string (⟨#[]⟩ : ByteArray), .string (⟨#[]⟩ : ByteArray)] 31 (0, 0))) := ⟨by rw [← hq_]; exact (bk BK440)⟩; have n1_ : Aside0 (Below w.heap.size w w11) := ⟨by rw [← hq_]; exact bw⟩; clear BK440 HB hq_; have BK440 := n0_; have HB := n1_; clear n0_ n1_)); have hcz12_0 : w11.cell? ⟨gb440, 0, none⟩ = some (.int .i64 0) := (blk_cell BK440.out 0).trans rfl; have hcz12_1 : w11.cell? ⟨gb440, 1, none⟩ = some (.string (⟨#[]⟩ : ByteArray)) := (blk_cell BK440.out 1).trans rfl; have hcz12_2 : w11.cell? ⟨gb440, 2, none⟩ = some (.string (⟨#[]⟩ : ByteArray)) := (blk_cell BK440.out 2).trans rfl; have hfz12_0 := blk_frozen BK440.out 0; have hfz12_1 := blk_frozen BK440.out 1; have hfz12_2 := blk_frozen BK440.out 2))
  refine bodyPost_ret (results_ct rfl _ _ gb440 31 #[.int .i64 0, .string (⟨#[]⟩ : ByteArray), .string (⟨#[]⟩ : ByteArray)] (0, 0) _ rfl (by (with_reducible repeat (first | refine blk_drewN ?_ _ | refine blk_drew ?_ | refine blk_alloc ?_ _)); refine blk_put (cs := #[.int .i64 0, .string (⟨#[]⟩ : ByteArray), .string (⟨#[]⟩ : ByteArray)]) ?_ 2 _ rfl; (with_reducible repeat (first | refine blk_drewN ?_ _ | refine blk_drew ?_ | refine blk_alloc ?_ _)); refine blk_put (cs := #[.int .i64 0, .string (⟨#[]⟩ : ByteArray), .string (⟨#[]⟩ : ByteArray)]) ?_ 1 _ rfl; (with_reducible repeat (first | refine blk_drewN ?_ _ | refine blk_drew ?_ | refine blk_alloc ?_ _)); refine blk_put (cs := #[.int .i64 0, .string (⟨#[]⟩ : ByteArray), .string (⟨#[]⟩ : ByteArray)]) ?_ 0 _ rfl; (with_reducible repeat (first | refine blk_drewN ?_ _ | refine blk_drew ?_ | refine blk_alloc ?_ _)); exact BK440.out) Tryz.underlying31 rfl kr) rfl ?_
  exact ⟨es, bw⟩
 have c8b0 : (t442.toList == ([] : List UInt8)) = false := beq_eq_false_iff_ne.mpr c8
 have c8b1 : (t442.toList != ([] : List UInt8)) = true := bne_iff_ne.mpr c8
 replace H := ifc H
 obtain ⟨c13, H⟩ | ⟨c13, H⟩ := H
 ·have c13b0 : decide (t443 < 7) = true := decide_eq_true c13
  clear c13
  simp only [Option.some.injEq, Prod.mk.injEq] at H
  obtain ⟨rfl, rfl, rfl, rfl⟩ := H
  go_enter Tryz.func15, Tryz.ntmps15
  go_wp2_with (first | ((with_reducible refine gate_dst (N := 2) rfl ?_); (try (refine gate_guard (by rfl) ?_; dsimp only)); refine box_event ?hg (N := 2) ?hd (cs := #[.int .i64 0, .string (⟨#[]⟩ : ByteArray), .string (⟨#[]⟩ : ByteArray)]) (t := 31) ?hr ?_; (case hd => rfl); (case hg => rfl); (case hr => first | (go_simp; done) | (go_simp; rfl)); intro gb440 hg w14 hbox hb; have n0_ := Aside0.mk (below_step bw hb); have n1_ := Aside0.mk (hbox); have n2_ := Aside0.mk ((by rw [hg]; exact (below_size bw) : w.heap.size ≤ gb440)); have n3_ := Aside0.mk ((by rw [hg]; exact (below_size bw) : w.heap.size ≤ gb440)); clear HB; have HB := n0_; have BK440 := n1_; have GW440 := n2_; have GE440 := n3_; clear n0_ n1_ n2_ n3_; clear hb hbox hg) | ((with_reducible refine gate_callee (f := 41) rfl ?_); refine goesL_ (some 20) rfl rfl Tryz.func41 kr rfl #[.slice A0 l0.length c0] rfl ar ?_; (with_reducible refine (ean_text.calls k _ _ l0 t441 _ ?side1 ?side2 A5.out).mono ?_); (case side1 => repeat (first | exact (Kd.C_below HR0.out HB.out) | (with_reducible refine Kd.C_alloc ?_ _) | (with_reducible refine Kd.C_drewN ?_ _) | (with_reducible refine Kd.C_drew ?_))); (case side2 => exact HC0.out); rintro e w15 ⟨rfl, hb⟩; refine ⟨_, rfl, ?_⟩; replace BK440 := Aside0.mk (blk_below (g := gb440) (o := .cells #[.int .i64 0, .string (⟨#[]⟩ : ByteArray), .string (⟨#[]⟩ : ByteArray)] 31 (0, 0)) (bk BK440) hb); replace HB := Aside0.mk (below_step bw hb); clear hb) | ((with_reducible refine gate_callee (f := 42) rfl ?_); refine goesL_ (some 22) rfl rfl Tryz.func42 kr rfl #[.string t441, .string (⟨#[48]⟩ : ByteArray)] rfl ar ?_; (with_reducible refine (strings_Trim.calls t441 (⟨#[48]⟩ : ByteArray) t442 _ A6.out).mono ?_); rintro e w16 ⟨rfl, hb⟩; refine ⟨_, rfl, ?_⟩; replace BK440 := Aside0.mk (blk_below (g := gb440) (o := .cells #[.int .i64 0, .string (⟨#[]⟩ : ByteArray), .string (⟨#[]⟩ : ByteArray)] 31 (0, 0)) (bk BK440) hb); replace HB := Aside0.mk (below_step bw hb); clear hb) | ((with_reducible refine gate_callee (f := 43) rfl ?_); refine goesL_ (some 24) rfl rfl Tryz.func43 kr rfl #[.string t441, .string (⟨#[49]⟩ : ByteArray)] rfl ar ?_; (with_reducible refine (strings_Index.calls t441 (⟨#[49]⟩ : ByteArray) t443 _ A7.out).mono ?_); rintro e w' ⟨rfl, ⟨nd, rfl⟩⟩; refine ⟨_, rfl, ?_⟩; (try (rw [drewN_self w16]; generalize hq_ : World.drewN w16 _ = w16; have n0_ : Aside0 (w16.heap[gb440]? = some (.cells #[.int .i64 0, .string (⟨#[]⟩ : ByteArray), .string (⟨#[]⟩ : ByteArray)] 31 (0, 0))) := ⟨by rw [← hq_]; exact (bk BK440)⟩; have n1_ : Aside0 (Below w.heap.size w w16) := ⟨by rw [← hq_]; exact bw⟩; clear BK440 HB hq_; have BK440 := n0_; have HB := n1_; clear n0_ n1_)); have hcz17_0 : w16.cell? ⟨gb440, 0, none⟩ = some (.int .i64 0) := (blk_cell BK440.out 0).trans rfl; have hcz17_1 : w16.cell? ⟨gb440, 1, none⟩ = some (.string (⟨#[]⟩ : ByteArray)) := (blk_cell BK440.out 1).trans rfl; have hcz17_2 : w16.cell? ⟨gb440, 2, none⟩ = some (.string (⟨#[]⟩ : ByteArray)) := (blk_cell BK440.out 2).trans rfl; have hfz17_0 := blk_frozen BK440.out 0; have hfz17_1 := blk_frozen BK440.out 1; have hfz17_2 := blk_frozen BK440.out 2))
  refine bodyPost_ret (results_ct rfl _ _ gb440 31 #[.int .i64 0, .string (⟨#[]⟩ : ByteArray), .string (⟨#[]⟩ : ByteArray)] (0, 0) _ rfl (by (with_reducible repeat (first | refine blk_drewN ?_ _ | refine blk_drew ?_ | refine blk_alloc ?_ _)); refine blk_put (cs := #[.int .i64 0, .string (⟨#[]⟩ : ByteArray), .string (⟨#[]⟩ : ByteArray)]) ?_ 2 _ rfl; (with_reducible repeat (first | refine blk_drewN ?_ _ | refine blk_drew ?_ | refine blk_alloc ?_ _)); refine blk_put (cs := #[.int .i64 0, .string (⟨#[]⟩ : ByteArray), .string (⟨#[]⟩ : ByteArray)]) ?_ 1 _ rfl; (with_reducible repeat (first | refine blk_drewN ?_ _ | refine blk_drew ?_ | refine blk_alloc ?_ _)); refine blk_put (cs := #[.int .i64 0, .string (⟨#[]⟩ : ByteArray), .string (⟨#[]⟩ : ByteArray)]) ?_ 0 _ rfl; (with_reducible repeat (first | refine blk_drewN ?_ _ | refine blk_drew ?_ | refine blk_alloc ?_ _)); exact BK440.out) Tryz.underlying31 rfl kr) rfl ?_
  exact ⟨es, bw⟩
 have c13b0 : decide (t443 < 7) = false := decide_eq_false c13
 clear c13
 replace H := ifc H
 obtain ⟨c18, H⟩ | ⟨c18, H⟩ := H
 ·have c18b0 : decide ((wrap64 ((wrap64 ((t441.size : Int) - t443)) - (t442.size : Int))) < 7) = true := decide_eq_true c18
  clear c18
  simp only [Option.some.injEq, Prod.mk.injEq] at H
  obtain ⟨rfl, rfl, rfl, rfl⟩ := H
  go_enter Tryz.func15, Tryz.ntmps15
  go_wp2_with (first | ((with_reducible refine gate_dst (N := 2) rfl ?_); (try (refine gate_guard (by rfl) ?_; dsimp only)); refine box_event ?hg (N := 2) ?hd (cs := #[.int .i64 0, .string (⟨#[]⟩ : ByteArray), .string (⟨#[]⟩ : ByteArray)]) (t := 31) ?hr ?_; (case hd => rfl); (case hg => rfl); (case hr => first | (go_simp; done) | (go_simp; rfl)); intro gb440 hg w19 hbox hb; have n0_ := Aside0.mk (below_step bw hb); have n1_ := Aside0.mk (hbox); have n2_ := Aside0.mk ((by rw [hg]; exact (below_size bw) : w.heap.size ≤ gb440)); have n3_ := Aside0.mk ((by rw [hg]; exact (below_size bw) : w.heap.size ≤ gb440)); clear HB; have HB := n0_; have BK440 := n1_; have GW440 := n2_; have GE440 := n3_; clear n0_ n1_ n2_ n3_; clear hb hbox hg) | ((with_reducible refine gate_callee (f := 41) rfl ?_); refine goesL_ (some 20) rfl rfl Tryz.func41 kr rfl #[.slice A0 l0.length c0] rfl ar ?_; (with_reducible refine (ean_text.calls k _ _ l0 t441 _ ?side1 ?side2 A5.out).mono ?_); (case side1 => repeat (first | exact (Kd.C_below HR0.out HB.out) | (with_reducible refine Kd.C_alloc ?_ _) | (with_reducible refine Kd.C_drewN ?_ _) | (with_reducible refine Kd.C_drew ?_))); (case side2 => exact HC0.out); rintro e w20 ⟨rfl, hb⟩; refine ⟨_, rfl, ?_⟩; replace BK440 := Aside0.mk (blk_below (g := gb440) (o := .cells #[.int .i64 0, .string (⟨#[]⟩ : ByteArray), .string (⟨#[]⟩ : ByteArray)] 31 (0, 0)) (bk BK440) hb); replace HB := Aside0.mk (below_step bw hb); clear hb) | ((with_reducible refine gate_callee (f := 42) rfl ?_); refine goesL_ (some 22) rfl rfl Tryz.func42 kr rfl #[.string t441, .string (⟨#[48]⟩ : ByteArray)] rfl ar ?_; (with_reducible refine (strings_Trim.calls t441 (⟨#[48]⟩ : ByteArray) t442 _ A6.out).mono ?_); rintro e w21 ⟨rfl, hb⟩; refine ⟨_, rfl, ?_⟩; replace BK440 := Aside0.mk (blk_below (g := gb440) (o := .cells #[.int .i64 0, .string (⟨#[]⟩ : ByteArray), .string (⟨#[]⟩ : ByteArray)] 31 (0, 0)) (bk BK440) hb); replace HB := Aside0.mk (below_step bw hb); clear hb) | ((with_reducible refine gate_callee (f := 43) rfl ?_); refine goesL_ (some 24) rfl rfl Tryz.func43 kr rfl #[.string t441, .string (⟨#[49]⟩ : ByteArray)] rfl ar ?_; (with_reducible refine (strings_Index.calls t441 (⟨#[49]⟩ : ByteArray) t443 _ A7.out).mono ?_); rintro e w' ⟨rfl, ⟨nd, rfl⟩⟩; refine ⟨_, rfl, ?_⟩; (try (rw [drewN_self w21]; generalize hq_ : World.drewN w21 _ = w21; have n0_ : Aside0 (w21.heap[gb440]? = some (.cells #[.int .i64 0, .string (⟨#[]⟩ : ByteArray), .string (⟨#[]⟩ : ByteArray)] 31 (0, 0))) := ⟨by rw [← hq_]; exact (bk BK440)⟩; have n1_ : Aside0 (Below w.heap.size w w21) := ⟨by rw [← hq_]; exact bw⟩; clear BK440 HB hq_; have BK440 := n0_; have HB := n1_; clear n0_ n1_)); have hcz22_0 : w21.cell? ⟨gb440, 0, none⟩ = some (.int .i64 0) := (blk_cell BK440.out 0).trans rfl; have hcz22_1 : w21.cell? ⟨gb440, 1, none⟩ = some (.string (⟨#[]⟩ : ByteArray)) := (blk_cell BK440.out 1).trans rfl; have hcz22_2 : w21.cell? ⟨gb440, 2, none⟩ = some (.string (⟨#[]⟩ : ByteArray)) := (blk_cell BK440.out 2).trans rfl; have hfz22_0 := blk_frozen BK440.out 0; have hfz22_1 := blk_frozen BK440.out 1; have hfz22_2 := blk_frozen BK440.out 2))
  refine bodyPost_ret (results_ct rfl _ _ gb440 31 #[.int .i64 0, .string (⟨#[]⟩ : ByteArray), .string (⟨#[]⟩ : ByteArray)] (0, 0) _ rfl (by (with_reducible repeat (first | refine blk_drewN ?_ _ | refine blk_drew ?_ | refine blk_alloc ?_ _)); refine blk_put (cs := #[.int .i64 0, .string (⟨#[]⟩ : ByteArray), .string (⟨#[]⟩ : ByteArray)]) ?_ 2 _ rfl; (with_reducible repeat (first | refine blk_drewN ?_ _ | refine blk_drew ?_ | refine blk_alloc ?_ _)); refine blk_put (cs := #[.int .i64 0, .string (⟨#[]⟩ : ByteArray), .string (⟨#[]⟩ : ByteArray)]) ?_ 1 _ rfl; (with_reducible repeat (first | refine blk_drewN ?_ _ | refine blk_drew ?_ | refine blk_alloc ?_ _)); refine blk_put (cs := #[.int .i64 0, .string (⟨#[]⟩ : ByteArray), .string (⟨#[]⟩ : ByteArray)]) ?_ 0 _ rfl; (with_reducible repeat (first | refine blk_drewN ?_ _ | refine blk_drew ?_ | refine blk_alloc ?_ _)); exact BK440.out) Tryz.underlying31 rfl kr) rfl ?_
  exact ⟨es, bw⟩
 have c18b0 : decide ((wrap64 ((wrap64 ((t441.size : Int) - t443)) - (t442.size : Int))) < 7) = false := decide_eq_false c18
 clear c18
 obtain ⟨y444, hy444⟩ : ∃ y_ : List Int, y_ = (([95, 67, 51] : List Int)) := ⟨_, rfl⟩
 replace H : (ean_Decode.l0 k t442 7 y444 (y444.length : Int) 0) = some (r1, r2, r3, r4) := by first | (rw [hy444]; with_reducible exact H) | (have H2_ := (Option.bind_some _ _).symm.trans H; rw [hy444]; with_reducible exact H2_) | (have H2_ := (Option.bind_some _ _).symm.trans H; with_reducible exact H2_) | with_reducible exact H | (rw [hy444]; exact H) | exact H
 have Ny444 := Aside0.mk hy444
 clear hy444
 have H' := Aside0.mk H
 clear H
 go_enter Tryz.func15, Tryz.ntmps15
 go_wp2_with (first | ((with_reducible refine gate_dst (N := 2) rfl ?_); (try (refine gate_guard (by rfl) ?_; dsimp only)); refine box_event ?hg (N := 2) ?hd (cs := #[.int .i64 0, .string (⟨#[]⟩ : ByteArray), .string (⟨#[]⟩ : ByteArray)]) (t := 31) ?hr ?_; (case hd => rfl); (case hg => rfl); (case hr => first | (go_simp; done) | (go_simp; rfl)); intro gb440 hg w23 hbox hb; have n0_ := Aside0.mk (below_step bw hb); have n1_ := Aside0.mk (hbox); have n2_ := Aside0.mk ((by rw [hg]; exact (below_size bw) : w.heap.size ≤ gb440)); have n3_ := Aside0.mk ((by rw [hg]; exact (below_size bw) : w.heap.size ≤ gb440)); clear HB; have HB := n0_; have BK440 := n1_; have GW440 := n2_; have GE440 := n3_; clear n0_ n1_ n2_ n3_; clear hb hbox hg) | ((with_reducible refine gate_callee (f := 41) rfl ?_); refine goesL_ (some 20) rfl rfl Tryz.func41 kr rfl #[.slice A0 l0.length c0] rfl ar ?_; (with_reducible refine (ean_text.calls k _ _ l0 t441 _ ?side1 ?side2 A5.out).mono ?_); (case side1 => repeat (first | exact (Kd.C_below HR0.out HB.out) | (with_reducible refine Kd.C_alloc ?_ _) | (with_reducible refine Kd.C_drewN ?_ _) | (with_reducible refine Kd.C_drew ?_))); (case side2 => exact HC0.out); rintro e w24 ⟨rfl, hb⟩; refine ⟨_, rfl, ?_⟩; replace BK440 := Aside0.mk (blk_below (g := gb440) (o := .cells #[.int .i64 0, .string (⟨#[]⟩ : ByteArray), .string (⟨#[]⟩ : ByteArray)] 31 (0, 0)) (bk BK440) hb); replace HB := Aside0.mk (below_step bw hb); clear hb) | ((with_reducible refine gate_callee (f := 42) rfl ?_); refine goesL_ (some 22) rfl rfl Tryz.func42 kr rfl #[.string t441, .string (⟨#[48]⟩ : ByteArray)] rfl ar ?_; (with_reducible refine (strings_Trim.calls t441 (⟨#[48]⟩ : ByteArray) t442 _ A6.out).mono ?_); rintro e w25 ⟨rfl, hb⟩; refine ⟨_, rfl, ?_⟩; replace BK440 := Aside0.mk (blk_below (g := gb440) (o := .cells #[.int .i64 0, .string (⟨#[]⟩ : ByteArray), .string (⟨#[]⟩ : ByteArray)] 31 (0, 0)) (bk BK440) hb); replace HB := Aside0.mk (below_step bw hb); clear hb) | ((with_reducible refine gate_callee (f := 43) rfl ?_); refine goesL_ (some 24) rfl rfl Tryz.func43 kr rfl #[.string t441, .string (⟨#[49]⟩ : ByteArray)] rfl ar ?_; (with_reducible refine (strings_Index.calls t441 (⟨#[49]⟩ : ByteArray) t443 _ A7.out).mono ?_); rintro e w' ⟨rfl, ⟨nd, rfl⟩⟩; refine ⟨_, rfl, ?_⟩) | ((with_reducible refine gate_dst (N := 43) rfl ?_); (try (refine gate_guard (by rfl) ?_; dsimp only)); refine Kd.R_lit (Kd.int .i64) _ 3 ?hg (N := 43) ?hd (xs := ([95, 67, 51] : List Int)) (inner := [.int .i64 95, .int .i64 67, .int .i64 51]) (ok := fun _ => True) (okp := fun _ => True) ?hr ?hp (fun _ hk => hk) trivial (Below.refl _ _) (Nat.le_refl _) (by simp) ?_; (case hd => rfl); (case hg => rfl); (case hr => first | (go_simp; done) | (go_simp; rfl)); (case hp => exact (Reps.one (show Kd.M (Kd.int .i64) _ _ _ 95 [.int .i64 95] from rfl) (Reps.one (show Kd.M (Kd.int .i64) _ _ _ 67 [.int .i64 67] from rfl) (Reps.one (show Kd.M (Kd.int .i64) _ _ _ 51 [.int .i64 51] from rfl) (Reps.none _ _))))); intro v445 w26 ho27 hb hg_ hnew_; clear hg_ hnew_; (first | rw [← Ny444.out] at ho27 | (simp only [Int.reduceToNat] at ho27; rw [← Ny444.out] at ho27)); have n0_ := Aside0.mk (Kd.R_lower ho27 (below_size bw)); have n1_ := Aside0.mk (blk_below (g := gb440) (o := .cells #[.int .i64 0, .string (⟨#[]⟩ : ByteArray), .string (⟨#[]⟩ : ByteArray)] 31 (0, 0)) (bk BK440) hb); have n2_ := Aside0.mk (below_step bw hb); clear BK440; clear HB; have HO446 := n0_; have BK440 := n1_; have HB := n2_; clear n0_ n1_ n2_; clear hb ho27; obtain ⟨Ao28, co28, eo28⟩ := Kd.R_slice HO446.out; subst eo28))
 go_loopg [7, 45] k (fun kq v7 v45 w' => ∃ (x7_1 : Int) (x45_1 : Int) (x441000_1 : Int) (x441001_1 : ByteArray) (x441002_1 : ByteArray), v7 = .int .i64 x7_1 ∧ v45 = .int .i64 x45_1 ∧ Aside0 (ean_Decode.l0 kq t442 x7_1 y444 (y444.length : Int) x45_1 = some (r1, r2, r3, r4)) ∧ Aside0 (kq ≤ k) ∧ Aside0 (Kd.R (Kd.int .i64) 3 w' w.heap.size (fun _ => True) (.slice Ao28 y444.length co28) y444) ∧ Aside0 (w'.heap[gb440]? = some (.cells #[.int .i64 x441000_1, .string x441001_1, .string x441002_1] 31 (0, 0))) ∧ Aside0 (Below w.heap.size w w'))
 case atStart => exact ⟨(7), (0), (0), ((⟨#[]⟩ : ByteArray)), ((⟨#[]⟩ : ByteArray)), rs, rs, H', ⟨Nat.le_refl _⟩, ⟨kd HO446⟩, ⟨by (with_reducible repeat (first | refine blk_drewN ?_ _ | refine blk_drew ?_ | refine blk_alloc ?_ _)); exact BK440.out⟩, ⟨bw⟩⟩
 case round =>
  clear H'
  obtain ⟨x7_1, x45_1, x441000_1, x441001_1, x441002_1, rfl, rfl, HA, HK1, HO_43, BK440, HB⟩ := hrel
  cases gk with
  | zero => exact absurd HA.out (by simp [ean_Decode.l0])
  | succ k1 =>
   have H := HA.out
   clear HA
   simp only [ean_Decode.l0] at H
   replace H := ifc H
   obtain ⟨c29, H⟩ | ⟨c29, H⟩ := H
   rotate_left
   ·have c29b0 : decide (x45_1 < (y444.length : Int)) = false := decide_eq_false c29
    clear c29
    simp only [Option.some.injEq, Prod.mk.injEq] at H
    obtain ⟨rfl, rfl, rfl, rfl⟩ := H
    have hcz51_0 : wr.cell? ⟨gb440, 0, none⟩ = some (.int .i64 x441000_1) := (blk_cell BK440.out 0).trans rfl
    have hcz51_1 : wr.cell? ⟨gb440, 1, none⟩ = some (.string x441001_1) := (blk_cell BK440.out 1).trans rfl
    have hcz51_2 : wr.cell? ⟨gb440, 2, none⟩ = some (.string x441002_1) := (blk_cell BK440.out 2).trans rfl
    have hfz51_0 := blk_frozen BK440.out 0
    have hfz51_1 := blk_frozen BK440.out 1
    have hfz51_2 := blk_frozen BK440.out 2
    go_wp2
    refine bodyPost_ret (results_ct rfl _ _ gb440 31 #[.int .i64 0, .string (⟨#[]⟩ : ByteArray), .string (⟨#[]⟩ : ByteArray)] (0, 0) _ rfl (by (with_reducible repeat (first | refine blk_drewN ?_ _ | refine blk_drew ?_ | refine blk_alloc ?_ _)); refine blk_put (cs := #[.int .i64 0, .string (⟨#[]⟩ : ByteArray), .string x441002_1]) ?_ 2 _ rfl; (with_reducible repeat (first | refine blk_drewN ?_ _ | refine blk_drew ?_ | refine blk_alloc ?_ _)); refine blk_put (cs := #[.int .i64 0, .string x441001_1, .string x441002_1]) ?_ 1 _ rfl; (with_reducible repeat (first | refine blk_drewN ?_ _ | refine blk_drew ?_ | refine blk_alloc ?_ _)); refine blk_put (cs := #[.int .i64 x441000_1, .string x441001_1, .string x441002_1]) ?_ 0 _ rfl; (with_reducible repeat (first | refine blk_drewN ?_ _ | refine blk_drew ?_ | refine blk_alloc ?_ _)); exact BK440.out) Tryz.underlying31 rfl kr) rfl ?_
    exact ⟨es, bw⟩
   have c29b0 : decide (x45_1 < (y444.length : Int)) = true := decide_eq_true c29
   clear c29
   replace H := ifn H
   obtain ⟨c30, H⟩ := H
   have c30b0 : decide (0 ≤ x45_1) = true := decide_eq_true c30
   clear c30
   by_cases c31 : x45_1 < (y444.length : Int)
   rotate_left
   ·rw [if_neg c31] at H
    exact absurd H (by simp)
   rw [if_pos c31] at H
   have c31b0 : decide (x45_1 < (y444.length : Int)) = true := decide_eq_true c31
   clear c31
   obtain ⟨y448, hy448⟩ : ∃ y_ : List Int, y_ = (([0, 20, 47] : List Int)) := ⟨_, rfl⟩
   replace H : (ean_Decode.l1 k1 t442 x7_1 (rd y444 x45_1) y444 (y444.length : Int) x45_1 y448 (y448.length : Int) 0) = some (r1, r2, r3, r4) := by first | (rw [hy448]; with_reducible exact H) | (have H2_ := (Option.bind_some _ _).symm.trans H; rw [hy448]; with_reducible exact H2_) | (have H2_ := (Option.bind_some _ _).symm.trans H; with_reducible exact H2_) | with_reducible exact H | (rw [hy448]; exact H) | exact H
   have Ny448 := Aside0.mk hy448
   clear hy448
   have H' := Aside0.mk H
   clear H
   have p447 : 0 ≤ (x45_1 : Int) := of_decide_eq_true am
   have q447 : x45_1 < (y444.length : Int) := of_decide_eq_true am
   obtain ⟨ad447, e447, hx447_0⟩ := Kd.at_int (Kd.R_reads' HO_43.out).2.2 x45_1 p447 q447
   cases e447
   replace p447 := eq_true p447
   replace q447 := eq_true q447
   go_wp2_with (first | ((with_reducible refine gate_dst (N := 49) rfl ?_); (try (refine gate_guard (by rfl) ?_; dsimp only)); refine Kd.R_lit (Kd.int .i64) _ 3 ?hg (N := 49) ?hd (xs := ([0, 20, 47] : List Int)) (inner := [.int .i64 0, .int .i64 20, .int .i64 47]) (ok := fun _ => True) (okp := fun _ => True) ?hr ?hp (fun _ hk => hk) trivial (Below.refl _ _) (Nat.le_refl _) (by simp) ?_; (case hd => rfl); (case hg => rfl); (case hr => first | (go_simp; done) | (go_simp; rfl)); (case hp => exact (Reps.one (show Kd.M (Kd.int .i64) _ _ _ 0 [.int .i64 0] from rfl) (Reps.one (show Kd.M (Kd.int .i64) _ _ _ 20 [.int .i64 20] from rfl) (Reps.one (show Kd.M (Kd.int .i64) _ _ _ 47 [.int .i64 47] from rfl) (Reps.none _ _))))); intro v449 w32 ho33 hb hg_ hnew_; clear hg_ hnew_; (first | rw [← Ny448.out] at ho33 | (simp only [Int.reduceToNat] at ho33; rw [← Ny448.out] at ho33)); have n0_ := Aside0.mk (Kd.R_elder' (kd HO_43) (Kd.R_base ho33) hb); have n1_ := Aside0.mk (Kd.R_lower (Kd.R_new' ho33 (Kd.R_lt (kd HO_43))) (below_size bw)); have n2_ := Aside0.mk (blk_below (g := gb440) (o := .cells #[.int .i64 x441000_1, .string x441001_1, .string x441002_1] 31 (0, 0)) (bk BK440) hb); have n3_ := Aside0.mk (below_step bw hb); clear HO_43; clear BK440; clear HB; have HO_43 := n0_; have HO450 := n1_; have BK440 := n2_; have HB := n3_; clear n0_ n1_ n2_ n3_; clear hb ho33; obtain ⟨Ao34, co34, eo34⟩ := Kd.R_slice HO450.out; subst eo34))
   go_loopg [7, 51] k1 (fun kq v7 v51 w' => ∃ (x7_2 : Int) (x51_2 : Int) (x441000_2 : Int) (x441001_2 : ByteArray) (x441002_2 : ByteArray), v7 = .int .i64 x7_2 ∧ v51 = .int .i64 x51_2 ∧ Aside0 (ean_Decode.l1 kq t442 x7_2 (rd y444 x45_1) y444 (y444.length : Int) x45_1 y448 (y448.length : Int) x51_2 = some (r1, r2, r3, r4)) ∧ Aside0 (kq ≤ k1) ∧ Aside0 (Kd.R (Kd.int .i64) 3 w' w.heap.size (fun k_ => some k_ ≠ ((.slice Ao34 y448.length co34) : Value).ownBlock) (.slice (some ad447) y444.length co28) y444) ∧ Aside0 (Kd.R (Kd.int .i64) 3 w' w.heap.size (fun k_ => some k_ ≠ ((.slice (some ad447) y444.length co28) : Value).ownBlock) (.slice Ao34 y448.length co34) y448) ∧ Aside0 (w'.heap[gb440]? = some (.cells #[.int .i64 x441000_2, .string x441001_2, .string x441002_2] 31 (0, 0))) ∧ Aside0 (Below w.heap.size w w'))
   case atStart => exact ⟨(x7_1), (0), (x441000_1), (x441001_1), (x441002_1), rs, rs, H', ⟨Nat.le_refl _⟩, ⟨by (with_reducible repeat (first | apply Kd.R_alloc | apply Kd.R_drewN | apply Kd.R_drew)); exact Kd.R_mono HO_43.out (fun _ hk => hk.2)⟩, ⟨by (with_reducible repeat (first | apply Kd.R_alloc | apply Kd.R_drewN | apply Kd.R_drew)); exact Kd.R_mono HO450.out (fun _ hk => hk.2)⟩, ⟨by (with_reducible repeat (first | refine blk_drewN ?_ _ | refine blk_drew ?_ | refine blk_alloc ?_ _)); exact BK440.out⟩, ⟨bw⟩⟩
   case round =>
    clear H'
    obtain ⟨x7_2, x51_2, x441000_2, x441001_2, x441002_2, rfl, rfl, HA, HK2, HO_43, HO_49, BK440, HB⟩ := hrel
    cases gk with
    | zero => exact absurd HA.out (by simp [ean_Decode.l1])
    | succ k2 =>
     have H := HA.out
     clear HA
     simp only [ean_Decode.l1] at H
     replace H := ifc H
     obtain ⟨c35, H⟩ | ⟨c35, H⟩ := H
     rotate_left
     ·have c35b0 : decide (x51_2 < (y448.length : Int)) = false := decide_eq_false c35
      clear c35
      have H' := Aside0.mk H
      clear H
      go_wp2
      go_roundg k2
      case measure => have := HK1.out; have := HK2.out; omega
      case rel => exact ⟨(x7_2), (wrap64 (x45_1 + 1)), (x441000_2), (x441001_2), (x441002_2), rs, rs, H', ⟨by have := HK1.out; have := HK2.out; omega⟩, ⟨by (with_reducible repeat (first | apply Kd.R_alloc | apply Kd.R_drewN | apply Kd.R_drew)); exact Kd.R_mono HO_43.out (fun _ hk => trivial)⟩, ⟨by (with_reducible repeat (first | refine blk_drewN ?_ _ | refine blk_drew ?_ | refine blk_alloc ?_ _)); exact BK440.out⟩, ⟨bw⟩⟩
     have c35b0 : decide (x51_2 < (y448.length : Int)) = true := decide_eq_true c35
     clear c35
     replace H := ifn H
     obtain ⟨c36, H⟩ := H
     have c36b0 : decide (0 ≤ x51_2) = true := decide_eq_true c36
     clear c36
     by_cases c37 : x51_2 < (y448.length : Int)
     rotate_left
     ·rw [if_neg c37] at H
      exact absurd H (by simp)
     rw [if_pos c37] at H
     have c37b0 : decide (x51_2 < (y448.length : Int)) = true := decide_eq_true c37
     clear c37
     replace H := bd H
     obtain ⟨⟨t452, t453, t454, t455, t456⟩, A38, H⟩ := H
     have HC39 := Aside0.mk H
     clear H
     have p451 : 0 ≤ (x51_2 : Int) := of_decide_eq_true am
     have q451 : x51_2 < (y448.length : Int) := of_decide_eq_true am
     obtain ⟨ad451, e451, hx451_0⟩ := Kd.at_int (Kd.R_reads' HO_49.out).2.2 x51_2 p451 q451
     cases e451
     replace p451 := eq_true p451
     replace q451 := eq_true q451
     go_upto_region 18 with (first | ((with_reducible refine gate_callee (f := 44) rfl ?_); refine goesL_ (some 59) rfl rfl Tryz.func44 kr rfl #[.string t442, .int .i64 (rd y444 x45_1), .int .i64 (rd y448 x51_2)] rfl ar ?_; (with_reducible refine (ean_shape.calls k2 t442 (rd y444 x45_1) (rd y448 x51_2) t452 t453 t454 t455 t456 _ A38.out).mono ?_); rintro e w40 ⟨rfl, hb⟩; refine ⟨_, rfl, ?_⟩; have n0_ := Aside0.mk (Kd.R_below (kd HO_43) hb); have n1_ := Aside0.mk (Kd.R_below (kd HO_49) hb); have n2_ := Aside0.mk (blk_below (g := gb440) (o := .cells #[.int .i64 x441000_2, .string x441001_2, .string x441002_2] 31 (0, 0)) (bk BK440) hb); have n3_ := Aside0.mk (below_step bw hb); clear HO_43; clear HO_49; clear BK440; clear HB; have HO_43 := n0_; have HO_49 := n1_; have BK440 := n2_; have HB := n3_; clear n0_ n1_ n2_ n3_; clear hb) | ((with_reducible refine gate_dst (N := 12) rfl ?_); (try (refine gate_guard (by rfl) ?_; dsimp only)); refine box_event ?hg (N := 12) ?hd (cs := #[.int .i64 0, .string (⟨#[]⟩ : ByteArray), .string (⟨#[]⟩ : ByteArray)]) (t := 31) ?hr ?_; (case hd => rfl); (case hg => rfl); (case hr => first | (go_simp; done) | (go_simp; rfl)); intro gb457 hg w41 hbox hb; have n0_ := Aside0.mk (Kd.R_below (kd HO_43) hb); have n1_ := Aside0.mk (Kd.R_below (kd HO_49) hb); have n2_ := Aside0.mk (blk_below (g := gb440) (o := .cells #[.int .i64 x441000_2, .string x441001_2, .string x441002_2] 31 (0, 0)) (bk BK440) hb); have n3_ := Aside0.mk (below_step bw hb); have n4_ := Aside0.mk (hbox); have n5_ := Aside0.mk ((by rw [hg]; exact (below_size bw) : w.heap.size ≤ gb457)); have n6_ := Aside0.mk ((by rw [hg]; exact (below_size bw) : w.heap.size ≤ gb457)); have n7_ := Aside0.mk ((by rw [hg]; exact Nat.ne_of_lt (blk_lt (g := gb440) (o := .cells #[.int .i64 x441000_2, .string x441001_2, .string x441002_2] 31 (0, 0)) (bk BK440)) : gb440 ≠ gb457)); have n8_ := Aside0.mk ((by rw [hg]; exact Nat.ne_of_gt (blk_lt (g := gb440) (o := .cells #[.int .i64 x441000_2, .string x441001_2, .string x441002_2] 31 (0, 0)) (bk BK440)) : gb457 ≠ gb440)); clear HO_43; clear HO_49; clear BK440; clear HB; have HO_43 := n0_; have HO_49 := n1_; have BK440 := n2_; have HB := n3_; have BK457 := n4_; have GW457 := n5_; have GE457 := n6_; have NB440_457 := n7_; have NB457_440 := n8_; clear n0_ n1_ n2_ n3_ n4_ n5_ n6_ n7_ n8_; clear hb hbox hg; have hnb42 := NB457_440.out; have hnc42 := NB440_457.out; have hcz43_0 : w41.cell? ⟨gb457, 0, none⟩ = some (.int .i64 0) := (blk_cell BK457.out 0).trans rfl; have hcz43_1 : w41.cell? ⟨gb457, 1, none⟩ = some (.string (⟨#[]⟩ : ByteArray)) := (blk_cell BK457.out 1).trans rfl; have hcz43_2 : w41.cell? ⟨gb457, 2, none⟩ = some (.string (⟨#[]⟩ : ByteArray)) := (blk_cell BK457.out 2).trans rfl; have hfz43_0 := blk_frozen BK457.out 0; have hfz43_1 := blk_frozen BK457.out 1; have hfz43_2 := blk_frozen BK457.out 2))
     (try simp only [Act.put, List.setIfInBounds_toArray, List.set_cons_zero, List.set_cons_succ])
     go_cut [67] (fun v67 wc => ∃ (kq : Nat) (x67_38 : Bool), v67 = .bool x67_38 ∧ Aside0 (ean_Decode.j2 kq t442 x7_2 (rd y444 x45_1) t455 t456 y444 (y444.length : Int) x45_1 y448 (y448.length : Int) x51_2 x67_38 t452 t453 t454 = some (r1, r2, r3, r4)) ∧ Aside0 (kq ≤ k2) ∧ Aside0 (Kd.R (Kd.int .i64) 3 wc w.heap.size (fun k_ => some k_ ≠ ((.slice (some ad451) y448.length co34) : Value).ownBlock) (.slice (some ad447) y444.length co28) y444) ∧ Aside0 (Kd.R (Kd.int .i64) 3 wc w.heap.size (fun k_ => some k_ ≠ ((.slice (some ad447) y444.length co28) : Value).ownBlock) (.slice (some ad451) y448.length co34) y448) ∧ Aside0 (wc.heap[gb440]? = some (.cells #[.int .i64 x441000_2, .string x441001_2, .string x441002_2] 31 (0, 0))) ∧ Aside0 (wc.heap[gb457]? = some (.cells #[.int .i64 t452, .string t453, .string t454] 31 (0, 0))) ∧ Aside0 (Below w.heap.size w wc))
     case first =>
      have H := HC39.out
      clear HC39
      by_cases c44 : t456 = true
      ·subst c44
       rw [if_pos rfl] at H
       have H' := Aside0.mk H
       clear H
       go_wp2
       go_meet
       case rel => exact ⟨_, ((t455 == 0)), rs, H', ⟨by have := HK1.out; have := HK2.out; first | omega | exact Nat.le_refl _⟩, ⟨by (with_reducible repeat (first | apply Kd.R_alloc | apply Kd.R_drewN | apply Kd.R_drew)); exact Kd.R_mono (Kd.R_far (p := ⟨gb457, 2, none⟩) (Kd.R_far (p := ⟨gb457, 1, none⟩) (Kd.R_far (p := ⟨gb457, 0, none⟩) (Kd.R_types HO_43.out BK457.out (by decide)) (fun _ hk => hk.2) (.int .i64 t452)) (fun _ hk => hk.2) (.string t453)) (fun _ hk => hk.2) (.string t454)) (fun _ hk => hk.1)⟩, ⟨by (with_reducible repeat (first | apply Kd.R_alloc | apply Kd.R_drewN | apply Kd.R_drew)); exact Kd.R_mono (Kd.R_far (p := ⟨gb457, 2, none⟩) (Kd.R_far (p := ⟨gb457, 1, none⟩) (Kd.R_far (p := ⟨gb457, 0, none⟩) (Kd.R_types HO_49.out BK457.out (by decide)) (fun _ hk => hk.2) (.int .i64 t452)) (fun _ hk => hk.2) (.string t453)) (fun _ hk => hk.2) (.string t454)) (fun _ hk => hk.1)⟩, ⟨by (with_reducible repeat (first | refine blk_drewN ?_ _ | refine blk_drew ?_ | refine blk_alloc ?_ _)); refine blk_far ?_ NB440_457.out _; (with_reducible repeat (first | refine blk_drewN ?_ _ | refine blk_drew ?_ | refine blk_alloc ?_ _)); refine blk_far ?_ NB440_457.out _; (with_reducible repeat (first | refine blk_drewN ?_ _ | refine blk_drew ?_ | refine blk_alloc ?_ _)); refine blk_far ?_ NB440_457.out _; (with_reducible repeat (first | refine blk_drewN ?_ _ | refine blk_drew ?_ | refine blk_alloc ?_ _)); exact BK440.out⟩, ⟨by (with_reducible repeat (first | refine blk_drewN ?_ _ | refine blk_drew ?_ | refine blk_alloc ?_ _)); refine blk_put (cs := #[.int .i64 t452, .string t453, .string (⟨#[]⟩ : ByteArray)]) ?_ 2 _ rfl; (with_reducible repeat (first | refine blk_drewN ?_ _ | refine blk_drew ?_ | refine blk_alloc ?_ _)); refine blk_put (cs := #[.int .i64 t452, .string (⟨#[]⟩ : ByteArray), .string (⟨#[]⟩ : ByteArray)]) ?_ 1 _ rfl; (with_reducible repeat (first | refine blk_drewN ?_ _ | refine blk_drew ?_ | refine blk_alloc ?_ _)); refine blk_put (cs := #[.int .i64 0, .string (⟨#[]⟩ : ByteArray), .string (⟨#[]⟩ : ByteArray)]) ?_ 0 _ rfl; (with_reducible repeat (first | refine blk_drewN ?_ _ | refine blk_drew ?_ | refine blk_alloc ?_ _)); exact BK457.out⟩, ⟨bw⟩⟩
      replace c44 := Bool.eq_false_iff.mpr c44
      subst c44
      rw [if_neg (show ¬ (false = true) by decide)] at H
      have H' := Aside0.mk H
      clear H
      go_wp2
      go_meet
      case rel => exact ⟨_, (false), rs, H', ⟨by have := HK1.out; have := HK2.out; first | omega | exact Nat.le_refl _⟩, ⟨by (with_reducible repeat (first | apply Kd.R_alloc | apply Kd.R_drewN | apply Kd.R_drew)); exact Kd.R_mono (Kd.R_far (p := ⟨gb457, 2, none⟩) (Kd.R_far (p := ⟨gb457, 1, none⟩) (Kd.R_far (p := ⟨gb457, 0, none⟩) (Kd.R_types HO_43.out BK457.out (by decide)) (fun _ hk => hk.2) (.int .i64 t452)) (fun _ hk => hk.2) (.string t453)) (fun _ hk => hk.2) (.string t454)) (fun _ hk => hk.1)⟩, ⟨by (with_reducible repeat (first | apply Kd.R_alloc | apply Kd.R_drewN | apply Kd.R_drew)); exact Kd.R_mono (Kd.R_far (p := ⟨gb457, 2, none⟩) (Kd.R_far (p := ⟨gb457, 1, none⟩) (Kd.R_far (p := ⟨gb457, 0, none⟩) (Kd.R_types HO_49.out BK457.out (by decide)) (fun _ hk => hk.2) (.int .i64 t452)) (fun _ hk => hk.2) (.string t453)) (fun _ hk => hk.2) (.string t454)) (fun _ hk => hk.1)⟩, ⟨by (with_reducible repeat (first | refine blk_drewN ?_ _ | refine blk_drew ?_ | refine blk_alloc ?_ _)); refine blk_far ?_ NB440_457.out _; (with_reducible repeat (first | refine blk_drewN ?_ _ | refine blk_drew ?_ | refine blk_alloc ?_ _)); refine blk_far ?_ NB440_457.out _; (with_reducible repeat (first | refine blk_drewN ?_ _ | refine blk_drew ?_ | refine blk_alloc ?_ _)); refine blk_far ?_ NB440_457.out _; (with_reducible repeat (first | refine blk_drewN ?_ _ | refine blk_drew ?_ | refine blk_alloc ?_ _)); exact BK440.out⟩, ⟨by (with_reducible repeat (first | refine blk_drewN ?_ _ | refine blk_drew ?_ | refine blk_alloc ?_ _)); refine blk_put (cs := #[.int .i64 t452, .string t453, .string (⟨#[]⟩ : ByteArray)]) ?_ 2 _ rfl; (with_reducible repeat (first | refine blk_drewN ?_ _ | refine blk_drew ?_ | refine blk_alloc ?_ _)); refine blk_put (cs := #[.int .i64 t452, .string (⟨#[]⟩ : ByteArray), .string (⟨#[]⟩ : ByteArray)]) ?_ 1 _ rfl; (with_reducible repeat (first | refine blk_drewN ?_ _ | refine blk_drew ?_ | refine blk_alloc ?_ _)); refine blk_put (cs := #[.int .i64 0, .string (⟨#[]⟩ : ByteArray), .string (⟨#[]⟩ : ByteArray)]) ?_ 0 _ rfl; (with_reducible repeat (first | refine blk_drewN ?_ _ | refine blk_drew ?_ | refine blk_alloc ?_ _)); exact BK457.out⟩, ⟨bw⟩⟩
     case rest =>
      clear HC39
      obtain ⟨kq, x67_38, rfl, HA, HJ38, HO_43, HO_49, BK440, BK457, HB⟩ := hcut
      cases kq with
      | zero => exact absurd HA.out (by simp [ean_Decode.j2])
      | succ kj38 =>
       have H := HA.out
       clear HA
       simp only [ean_Decode.j2] at H
       by_cases c45 : x67_38 = true
       ·subst c45
        rw [if_pos rfl] at H
        simp only [Option.some.injEq, Prod.mk.injEq] at H
        obtain ⟨rfl, rfl, rfl, rfl⟩ := H
        have hnb46 := NB457_440.out
        have hnc46 := NB440_457.out
        have hcz47_0 : wc.cell? ⟨gb457, 0, none⟩ = some (.int .i64 t452) := (blk_cell BK457.out 0).trans rfl
        have hcz47_1 : wc.cell? ⟨gb457, 1, none⟩ = some (.string t453) := (blk_cell BK457.out 1).trans rfl
        have hcz47_2 : wc.cell? ⟨gb457, 2, none⟩ = some (.string t454) := (blk_cell BK457.out 2).trans rfl
        have hfz47_0 := blk_frozen BK457.out 0
        have hfz47_1 := blk_frozen BK457.out 1
        have hfz47_2 := blk_frozen BK457.out 2
        have hcz48_0 : wc.cell? ⟨gb440, 0, none⟩ = some (.int .i64 x441000_2) := (blk_cell BK440.out 0).trans rfl
        have hcz48_1 : wc.cell? ⟨gb440, 1, none⟩ = some (.string x441001_2) := (blk_cell BK440.out 1).trans rfl
        have hcz48_2 : wc.cell? ⟨gb440, 2, none⟩ = some (.string x441002_2) := (blk_cell BK440.out 2).trans rfl
        have hfz48_0 := blk_frozen BK440.out 0
        have hfz48_1 := blk_frozen BK440.out 1
        have hfz48_2 := blk_frozen BK440.out 2
        go_wp2
        refine bodyPost_ret (results_ct rfl _ _ gb440 31 #[.int .i64 t452, .string t453, .string t454] (0, 0) _ rfl (by (with_reducible repeat (first | refine blk_drewN ?_ _ | refine blk_drew ?_ | refine blk_alloc ?_ _)); refine blk_put (cs := #[.int .i64 t452, .string t453, .string x441002_2]) ?_ 2 _ rfl; (with_reducible repeat (first | refine blk_drewN ?_ _ | refine blk_drew ?_ | refine blk_alloc ?_ _)); refine blk_put (cs := #[.int .i64 t452, .string x441001_2, .string x441002_2]) ?_ 1 _ rfl; (with_reducible repeat (first | refine blk_drewN ?_ _ | refine blk_drew ?_ | refine blk_alloc ?_ _)); refine blk_put (cs := #[.int .i64 x441000_2, .string x441001_2, .string x441002_2]) ?_ 0 _ rfl; (with_reducible repeat (first | refine blk_drewN ?_ _ | refine blk_drew ?_ | refine blk_alloc ?_ _)); exact BK440.out) Tryz.underlying31 rfl kr) rfl ?_
        exact ⟨es, bw⟩
       replace c45 := Bool.eq_false_iff.mpr c45
       subst c45
       rw [if_neg (show ¬ (false = true) by decide)] at H
       by_cases c49 : t456 = true
       rotate_left
       ·replace c49 := Bool.eq_false_iff.mpr c49
        subst c49
        rw [if_neg (show ¬ (false = true) by decide)] at H
        have H' := Aside0.mk H
        clear H
        go_wp2
        go_roundg kj38
        case measure => have := HK1.out; have := HK2.out; have := HJ38.out; omega
        case rel => exact ⟨(x7_2), (wrap64 (x51_2 + 1)), (x441000_2), (x441001_2), (x441002_2), rs, rs, H', ⟨by have := HK1.out; have := HK2.out; have := HJ38.out; omega⟩, ⟨kd HO_43⟩, ⟨kd HO_49⟩, ⟨by (with_reducible repeat (first | refine blk_drewN ?_ _ | refine blk_drew ?_ | refine blk_alloc ?_ _)); exact BK440.out⟩, ⟨bw⟩⟩
       subst c49
       rw [if_pos rfl] at H
       replace H := ifc H
       obtain ⟨c50, H⟩ | ⟨c50, H⟩ := H
       rotate_left
       ·have c50b0 : (x7_2 == 7) = false := beq_eq_false_iff_ne.mpr c50
        have c50b1 : (x7_2 != 7) = true := bne_iff_ne.mpr c50
        have H' := Aside0.mk H
        clear H
        go_wp2
        go_roundg kj38
        case measure => have := HK1.out; have := HK2.out; have := HJ38.out; omega
        case rel => exact ⟨(x7_2), (wrap64 (x51_2 + 1)), (x441000_2), (x441001_2), (x441002_2), rs, rs, H', ⟨by have := HK1.out; have := HK2.out; have := HJ38.out; omega⟩, ⟨kd HO_43⟩, ⟨kd HO_49⟩, ⟨by (with_reducible repeat (first | refine blk_drewN ?_ _ | refine blk_drew ?_ | refine blk_alloc ?_ _)); exact BK440.out⟩, ⟨bw⟩⟩
       have c50b0 : (x7_2 == 7) = true := beq_iff_eq.mpr c50
       have c50b1 : (x7_2 != 7) = false := bne_eq_false_iff_eq.mpr c50
       clear c50
       have H' := Aside0.mk H
       clear H
       go_wp2
       go_roundg kj38
       case measure => have := HK1.out; have := HK2.out; have := HJ38.out; omega
       case rel => exact ⟨(t455), (wrap64 (x51_2 + 1)), (x441000_2), (x441001_2), (x441002_2), rs, rs, H', ⟨by have := HK1.out; have := HK2.out; have := HJ38.out; omega⟩, ⟨kd HO_43⟩, ⟨kd HO_49⟩, ⟨by (with_reducible repeat (first | refine blk_drewN ?_ _ | refine blk_drew ?_ | refine blk_alloc ?_ _)); exact BK440.out⟩, ⟨bw⟩⟩

end Go.Proofs.YtjmeekceecpemaaGreatDoor.Q

namespace Go.Proofs.YtjmeekceecpemaaGreatDoor.Q
open Go.RowKit Go.Proofs.YtjmeekceecpemaaGreatDoorW.PrintWords Go.Proofs.YtjmeekceecpemaaGreatDoorW.PrintLast Go.Proofs.YtjmeekceecpemaaGreatDoorW.PrintMore

set_option linter.unusedVariables false
set_option linter.unusedSimpArgs false

/-! ### ean_Complete: function 17 -/
mutual
def ean_Complete.j0 : Nat → Int → ByteArray → Int → Bool → Option (ByteArray × Int)
 | 0, _, _, _, _ => none
 | k + 1, x0, x1, x6, x31 => if x31 = true then ((ean_checkDigit.f x0 x1).bind fun t460 => (if x1.size + t460.size ≤ 9223372036854775807 then (ean_Complete.j1 k x0 (x1 ++ t460) x6) else (none))) else (ean_Complete.j1 k x0 x1 x6)
def ean_Complete.j1 : Nat → Int → ByteArray → Int → Option (ByteArray × Int)
 | 0, _, _, _ => none
 | k + 1, x0, x1, x6 => if x6 > 0 then (if (x1.size : Int) = (wrap64 (x6 - 1)) then ((ean_digits.f x1).bind fun t461 => (ean_Complete.j2 k x0 x1 t461)) else (ean_Complete.j2 k x0 x1 false)) else (ean_Complete.j2 k x0 x1 false)
def ean_Complete.j2 : Nat → Int → ByteArray → Bool → Option (ByteArray × Int)
 | 0, _, _, _ => none
 | k + 1, x0, x1, x49 => if x49 = true then (some ((⟨#[]⟩ : ByteArray), 9)) else ((ean_complete.f k x0 x1).bind fun t462 => (if t462 = 0 then (some (x1, 0)) else (some ((⟨#[]⟩ : ByteArray), t462))))
end
def ean_Complete.f (k : Nat) (a0 : Int) (a1 : ByteArray) : Option (ByteArray × Int) := (ean_length.f k a0).bind fun t458 => (if t458 > 0 then (if (a1.size : Int) = (wrap64 (t458 - 1)) then ((ean_digits.f a1).bind fun t459 => (if t459 = true then (if a0 = 4 then (if 0 < (a1.size : Int) then (ean_Complete.j0 k a0 a1 t458 (decide ((bt a1 0) ≤ 49))) else (none)) else (ean_Complete.j0 k a0 a1 t458 true)) else (ean_Complete.j0 k a0 a1 t458 false))) else (ean_Complete.j0 k a0 a1 t458 false)) else (ean_Complete.j0 k a0 a1 t458 false))
theorem ean_Complete.mono_l : ∀ k, (∀ y0 y1 y2 y3, LeO (ean_Complete.j0 k y0 y1 y2 y3) (ean_Complete.j0 (k + 1) y0 y1 y2 y3)) ∧ (∀ y0 y1 y2, LeO (ean_Complete.j1 k y0 y1 y2) (ean_Complete.j1 (k + 1) y0 y1 y2)) ∧ (∀ y0 y1 y2, LeO (ean_Complete.j2 k y0 y1 y2) (ean_Complete.j2 (k + 1) y0 y1 y2))
 | 0 => ⟨fun _ _ _ _ r h => by simp [ean_Complete.j0] at h, fun _ _ _ r h => by simp [ean_Complete.j1] at h, fun _ _ _ r h => by simp [ean_Complete.j2] at h⟩
 | k + 1 => by
  obtain ⟨ih0, ih1, ih2⟩ := ean_Complete.mono_l k
  refine ⟨?_, ?_, ?_⟩
  ·intro y0 y1 y2 y3
   unfold ean_Complete.j0
   repeat' with_reducible first | exact ih0 _ _ _ _ | exact ih1 _ _ _ | exact ih2 _ _ _ | exact ean_complete.mono _ _ _ | exact ean_length.mono _ _ | exact LeO.refl _ | exact LeO.none _ | refine LeO.ite ?_ ?_ | refine LeO.bind ?_ (fun _ => ?_)
  ·intro y0 y1 y2
   unfold ean_Complete.j1
   repeat' with_reducible first | exact ih0 _ _ _ _ | exact ih1 _ _ _ | exact ih2 _ _ _ | exact ean_complete.mono _ _ _ | exact ean_length.mono _ _ | exact LeO.refl _ | exact LeO.none _ | refine LeO.ite ?_ ?_ | refine LeO.bind ?_ (fun _ => ?_)
  ·intro y0 y1 y2
   unfold ean_Complete.j2
   repeat' with_reducible first | exact ih0 _ _ _ _ | exact ih1 _ _ _ | exact ih2 _ _ _ | exact ean_complete.mono _ _ _ | exact ean_length.mono _ _ | exact LeO.refl _ | exact LeO.none _ | refine LeO.ite ?_ ?_ | refine LeO.bind ?_ (fun _ => ?_)
theorem ean_Complete.mono : ∀ a0 a1 k, LeO (ean_Complete.f k a0 a1) (ean_Complete.f (k + 1) a0 a1) := by
 intro a0 a1 k
 obtain ⟨ih0, ih1, ih2⟩ := ean_Complete.mono_l k
 unfold ean_Complete.f
 repeat' with_reducible first | exact ih0 _ _ _ _ | exact ih1 _ _ _ | exact ih2 _ _ _ | exact ean_complete.mono _ _ _ | exact ean_length.mono _ _ | exact LeO.refl _ | exact LeO.none _ | refine LeO.ite ?_ ?_ | refine LeO.bind ?_ (fun _ => ?_)
set_option maxHeartbeats 8000000 in
set_option maxRecDepth 100000 in
theorem ean_Complete.calls (k : Nat) (a0 : Int) (a1 : ByteArray) (r1 : ByteArray) (r2 : Int) (w : World) (h : ean_Complete.f k a0 a1 = some (r1, r2)) :
  Calls Tryz.prog 17 #[.int .i64 a0, .string a1] w fun e w' => e = .returned (.tuple #[.string r1, .int .i64 r2]) ∧ Below w.heap.size w w' := by
 have HB := Aside0.mk (Below.refl w.heap.size w)
 have H := h
 clear h
 unfold ean_Complete.f at H
 replace H := bd H
 obtain ⟨t458, A3, H⟩ := H
 have HC4 := Aside0.mk H
 clear H
 go_enter Tryz.func17, Tryz.ntmps17
 go_upto_region 2 with (first | ((with_reducible refine gate_callee (f := 47) rfl ?_); refine goesL_ (some 9) rfl rfl Tryz.func47 kr rfl #[.int .i64 a0] rfl ar ?_; (with_reducible refine (ean_length.calls k a0 t458 _ A3.out).mono ?_); rintro e w' ⟨rfl, ⟨nd, rfl⟩⟩; refine ⟨_, rfl, ?_⟩))
 (try simp only [Act.put, List.setIfInBounds_toArray, List.set_cons_zero, List.set_cons_succ])
 go_cut [31] (fun v31 wc => ∃ (kq : Nat) (x31_3 : Bool), v31 = .bool x31_3 ∧ Aside0 (ean_Complete.j0 kq a0 a1 t458 x31_3 = some (r1, r2)) ∧ Aside0 (kq ≤ k) ∧ Aside0 (Below w.heap.size w wc))
 case first =>
  have H := HC4.out
  clear HC4
  replace H := ifc H
  obtain ⟨c5, H⟩ | ⟨c5, H⟩ := H
  rotate_left
  ·have c5b0 : decide (0 < t458) = false := decide_eq_false c5
   clear c5
   (first | rw [c5b0] | (simp only [i64_w]; rw [c5b0]) | skip)
   have H' := Aside0.mk H
   clear H
   go_wp2
   go_meet
   case rel => exact ⟨_, (false), rs, H', ⟨la⟩, ⟨bw⟩⟩
  have c5b0 : decide (0 < t458) = true := decide_eq_true c5
  clear c5
  (first | rw [c5b0] | (simp only [i64_w]; rw [c5b0]) | skip)
  replace H := ifc H
  obtain ⟨c6, H⟩ | ⟨c6, H⟩ := H
  rotate_left
  ·have c6b0 : ((a1.size : Int) == (wrap64 (t458 - 1))) = false := beq_eq_false_iff_ne.mpr c6
   have c6b1 : ((a1.size : Int) != (wrap64 (t458 - 1))) = true := bne_iff_ne.mpr c6
   have H' := Aside0.mk H
   clear H
   go_wp2
   go_meet
   case rel => exact ⟨_, (false), rs, H', ⟨la⟩, ⟨bw⟩⟩
  have c6b0 : ((a1.size : Int) == (wrap64 (t458 - 1))) = true := beq_iff_eq.mpr c6
  have c6b1 : ((a1.size : Int) != (wrap64 (t458 - 1))) = false := bne_eq_false_iff_eq.mpr c6
  clear c6
  replace H := bd H
  obtain ⟨t459, A7, H⟩ := H
  by_cases c8 : t459 = true
  rotate_left
  ·replace c8 := Bool.eq_false_iff.mpr c8
   subst c8
   rw [if_neg (show ¬ (false = true) by decide)] at H
   have H' := Aside0.mk H
   clear H
   go_wp2_with (first | (go_at_call 27; (with_reducible refine (ean_digits.calls a1 false _ A7.out).mono ?_); rintro e w14 ⟨rfl, hb⟩; replace HB := Aside0.mk (below_step bw hb); clear hb))
   go_meet
   case rel => exact ⟨_, (false), rs, H', ⟨la⟩, ⟨bw⟩⟩
  subst c8
  rw [if_pos rfl] at H
  replace H := ifc H
  obtain ⟨c9, H⟩ | ⟨c9, H⟩ := H
  rotate_left
  ·have c9b0 : (a0 == 4) = false := beq_eq_false_iff_ne.mpr c9
   have c9b1 : (a0 != 4) = true := bne_iff_ne.mpr c9
   have H' := Aside0.mk H
   clear H
   go_wp2_with (first | (go_at_call 27; (with_reducible refine (ean_digits.calls a1 true _ A7.out).mono ?_); rintro e w13 ⟨rfl, hb⟩; replace HB := Aside0.mk (below_step bw hb); clear hb))
   go_meet
   case rel => exact ⟨_, (true), rs, H', ⟨la⟩, ⟨bw⟩⟩
  have c9b0 : (a0 == 4) = true := beq_iff_eq.mpr c9
  have c9b1 : (a0 != 4) = false := bne_eq_false_iff_eq.mpr c9
  clear c9
  replace H := ifn H
  obtain ⟨c10, H⟩ := H
  have c10b0 : decide (0 < (a1.size : Int)) = true := decide_eq_true c10
  have c10b1 : decide (0 < a1.size) = true := decide_eq_true om
  clear c10
  have H' := Aside0.mk H
  clear H
  go_wp2_with (first | (go_at_call 27; (with_reducible refine (ean_digits.calls a1 true _ A7.out).mono ?_); rintro e w12 ⟨rfl, hb⟩; replace HB := Aside0.mk (below_step bw hb); clear hb; have p11 : 0 ≤ (0 : Int) := om; have q11 : 0 < a1.size := (by have : (0 : Int) < (a1.size : Int) := of_decide_eq_true am; omega); have hx11 : ∀ h : 0 < a1.size, ((a1[0]'h).toNat : Int) = bt a1 0 := bt_at a1 0; clear p11; have qi11 : (0 < (a1.size : Int)) = True := eq_true (of_decide_eq_true am); replace q11 := eq_true q11))
  go_meet
  case rel => exact ⟨_, (decide ((bt a1 0) ≤ 49)), rs, H', ⟨la⟩, ⟨bw⟩⟩
 case rest =>
  clear HC4
  obtain ⟨kq, x31_3, rfl, HA, HJ3, HB⟩ := hcut
  cases kq with
  | zero => exact absurd HA.out (by simp [ean_Complete.j0])
  | succ kj3 =>
   have H := HA.out
   clear HA
   simp only [ean_Complete.j0] at H
   have HC15 := Aside0.mk H
   clear H
   go_upto_if 31 with (fail)
   go_cut [1] (fun v1 wc => ∃ (kq : Nat) (x1_14 : ByteArray), v1 = .string x1_14 ∧ Aside0 (ean_Complete.j1 kq a0 x1_14 t458 = some (r1, r2)) ∧ Aside0 (kq ≤ kj3) ∧ Aside0 (Below w.heap.size w wc))
   case first =>
    have H := HC15.out
    clear HC15
    by_cases c16 : x31_3 = true
    rotate_left
    ·replace c16 := Bool.eq_false_iff.mpr c16
     subst c16
     rw [if_neg (show ¬ (false = true) by decide)] at H
     have H' := Aside0.mk H
     clear H
     go_wp2
     go_meet
     case rel => exact ⟨_, (a1), rs, H', ⟨by have := HJ3.out; first | omega | exact Nat.le_refl _⟩, ⟨bw⟩⟩
    subst c16
    rw [if_pos rfl] at H
    replace H := bd H
    obtain ⟨t460, A17, H⟩ := H
    replace H := ifn H
    obtain ⟨c18, H⟩ := H
    have c18b0 := eq_true c18
    have c18b1 : decide (a1.size + t460.size ≤ 9223372036854775807) = true := decide_eq_true c18
    have H' := Aside0.mk H
    clear H
    go_wp2_with (first | ((with_reducible refine gate_callee (f := 48) rfl ?_); refine goesL_ (some 35) rfl rfl Tryz.func48 kr rfl #[.int .i64 a0, .string a1] rfl ar ?_; (with_reducible refine (ean_checkDigit.calls a0 a1 t460 _ A17.out).mono ?_); rintro e w19 ⟨rfl, hb⟩; refine ⟨_, rfl, ?_⟩; replace HB := Aside0.mk (below_step bw hb); clear hb))
    go_meet
    case rel => exact ⟨_, (a1 ++ t460), rs, H', ⟨by have := HJ3.out; first | omega | exact Nat.le_refl _⟩, ⟨bw⟩⟩
   case rest =>
    clear HC15
    obtain ⟨kq, x1_14, rfl, HA, HJ14, HB⟩ := hcut
    cases kq with
    | zero => exact absurd HA.out (by simp [ean_Complete.j1])
    | succ kj14 =>
     have H := HA.out
     clear HA
     simp only [ean_Complete.j1] at H
     have HC20 := Aside0.mk H
     clear H
     go_upto_region 4 with (fail)
     go_cut [49] (fun v49 wc => ∃ (kq : Nat) (x49_19 : Bool), v49 = .bool x49_19 ∧ Aside0 (ean_Complete.j2 kq a0 x1_14 x49_19 = some (r1, r2)) ∧ Aside0 (kq ≤ kj14) ∧ Aside0 (Below w.heap.size w wc))
     case first =>
      have H := HC20.out
      clear HC20
      replace H := ifc H
      obtain ⟨c21, H⟩ | ⟨c21, H⟩ := H
      rotate_left
      ·have c21b0 : decide (0 < t458) = false := decide_eq_false c21
       clear c21
       (first | rw [c21b0] | (simp only [i64_w]; rw [c21b0]) | skip)
       have H' := Aside0.mk H
       clear H
       go_wp2
       go_meet
       case rel => exact ⟨_, (false), rs, H', ⟨by have := HJ3.out; have := HJ14.out; first | omega | exact Nat.le_refl _⟩, ⟨bw⟩⟩
      have c21b0 : decide (0 < t458) = true := decide_eq_true c21
      clear c21
      (first | rw [c21b0] | (simp only [i64_w]; rw [c21b0]) | skip)
      replace H := ifc H
      obtain ⟨c22, H⟩ | ⟨c22, H⟩ := H
      rotate_left
      ·have c22b0 : ((x1_14.size : Int) == (wrap64 (t458 - 1))) = false := beq_eq_false_iff_ne.mpr c22
       have c22b1 : ((x1_14.size : Int) != (wrap64 (t458 - 1))) = true := bne_iff_ne.mpr c22
       have H' := Aside0.mk H
       clear H
       go_wp2
       go_meet
       case rel => exact ⟨_, (false), rs, H', ⟨by have := HJ3.out; have := HJ14.out; first | omega | exact Nat.le_refl _⟩, ⟨bw⟩⟩
      have c22b0 : ((x1_14.size : Int) == (wrap64 (t458 - 1))) = true := beq_iff_eq.mpr c22
      have c22b1 : ((x1_14.size : Int) != (wrap64 (t458 - 1))) = false := bne_eq_false_iff_eq.mpr c22
      clear c22
      replace H := bd H
      obtain ⟨t461, A23, H⟩ := H
      have H' := Aside0.mk H
      clear H
      go_wp2_with (first | (go_at_call 27; (with_reducible refine (ean_digits.calls x1_14 t461 _ A23.out).mono ?_); rintro e w24 ⟨rfl, hb⟩; replace HB := Aside0.mk (below_step bw hb); clear hb))
      go_meet
      case rel => exact ⟨_, (t461), rs, H', ⟨by have := HJ3.out; have := HJ14.out; first | omega | exact Nat.le_refl _⟩, ⟨bw⟩⟩
     case rest =>
      clear HC20
      obtain ⟨kq, x49_19, rfl, HA, HJ19, HB⟩ := hcut
      cases kq with
      | zero => exact absurd HA.out (by simp [ean_Complete.j2])
      | succ kj19 =>
       have H := HA.out
       clear HA
       simp only [ean_Complete.j2] at H
       by_cases c25 : x49_19 = true
       ·subst c25
        rw [if_pos rfl] at H
        simp only [Option.some.injEq, Prod.mk.injEq] at H
        obtain ⟨rfl, rfl⟩ := H
        go_wp2
        go_ret2
        exact ⟨es, bw⟩
       replace c25 := Bool.eq_false_iff.mpr c25
       subst c25
       rw [if_neg (show ¬ (false = true) by decide)] at H
       replace H := bd H
       obtain ⟨t462, A26, H⟩ := H
       replace H := ifc H
       obtain ⟨c27, H⟩ | ⟨c27, H⟩ := H
       rotate_left
       ·have c27b0 : (t462 == 0) = false := beq_eq_false_iff_ne.mpr c27
        have c27b1 : (t462 != 0) = true := bne_iff_ne.mpr c27
        simp only [Option.some.injEq, Prod.mk.injEq] at H
        obtain ⟨rfl, rfl⟩ := H
        go_wp2_with (first | ((with_reducible refine gate_callee (f := 26) rfl ?_); refine goesL_ (some 52) rfl rfl Tryz.func26 kr rfl #[.int .i64 a0, .string x1_14] rfl ar ?_; (with_reducible refine (ean_complete.calls kj19 a0 x1_14 t462 _ A26.out).mono ?_); rintro e w29 ⟨rfl, hb⟩; refine ⟨_, rfl, ?_⟩; replace HB := Aside0.mk (below_step bw hb); clear hb))
        go_ret2
        exact ⟨es, bw⟩
       have c27b0 : (t462 == 0) = true := beq_iff_eq.mpr c27
       have c27b1 : (t462 != 0) = false := bne_eq_false_iff_eq.mpr c27
       clear c27
       simp only [Option.some.injEq, Prod.mk.injEq] at H
       obtain ⟨rfl, rfl⟩ := H
       go_wp2_with (first | ((with_reducible refine gate_callee (f := 26) rfl ?_); refine goesL_ (some 52) rfl rfl Tryz.func26 kr rfl #[.int .i64 a0, .string x1_14] rfl ar ?_; (with_reducible refine (ean_complete.calls kj19 a0 x1_14 t462 _ A26.out).mono ?_); rintro e w28 ⟨rfl, hb⟩; refine ⟨_, rfl, ?_⟩; replace HB := Aside0.mk (below_step bw hb); clear hb))
       go_ret2
       exact ⟨es, bw⟩

end Go.Proofs.YtjmeekceecpemaaGreatDoor.Q
