/- Joined by a program of this work (pack.py) out of the texts Qbarscanlaw14Gs1Separators, LawsD of this seat, in build order. -/
import Derived.Test.YtghlbdemlmbijaaDoorPD9
namespace Go.Proofs.YtghlbdemlmbijaaDoor.Q
open Go.RowKit Go.Proofs.YtghlbdemlmbijaaDoorW.PrintWords Go.Proofs.YtghlbdemlmbijaaDoorW.PrintLast Go.Proofs.YtghlbdemlmbijaaDoorW.PrintMore

set_option linter.unusedVariables false
set_option linter.unusedSimpArgs false

/-! ### barscanlaw14_Gs1Separators: function 5 -/
mutual
def barscanlaw14_Gs1Separators.l0 : Nat → List (S38) → List Int → Int → ByteArray → List (S38) → Int → Int → Option (Bool)
  | 0, _, _, _, _, _, _, _ => none
  | k + 1, x0, x3, x5, x6, x28, x29, x30 => if x30 < x29 then (if 0 ≤ x30 then (if x30 < (x28.length : Int) then ((gs1_Fixed.f ((rd_T38 x28 x30).f0)).bind fun bt277 => (if bt277.2.2 = 0 then (if bt277.1 = 0 then (if x30 < (wrap64 ((x0.length : Int) - 1)) then (if ((rd_T38 x28 x30).f0).size + ((rd_T38 x28 x30).f1).size ≤ 9223372036854775807 then (if x6.size + (((rd_T38 x28 x30).f0) ++ ((rd_T38 x28 x30).f1)).size ≤ 9223372036854775807 then (barscanlaw14_Gs1Separators.l0 k x0 x3 (wrap64 (x5 + 1)) (x6 ++ (((rd_T38 x28 x30).f0) ++ ((rd_T38 x28 x30).f1))) x28 x29 (wrap64 (x30 + 1))) else (none)) else (none)) else (if ((rd_T38 x28 x30).f0).size + ((rd_T38 x28 x30).f1).size ≤ 9223372036854775807 then (if x6.size + (((rd_T38 x28 x30).f0) ++ ((rd_T38 x28 x30).f1)).size ≤ 9223372036854775807 then (barscanlaw14_Gs1Separators.l0 k x0 x3 x5 (x6 ++ (((rd_T38 x28 x30).f0) ++ ((rd_T38 x28 x30).f1))) x28 x29 (wrap64 (x30 + 1))) else (none)) else (none))) else (if ((rd_T38 x28 x30).f0).size + ((rd_T38 x28 x30).f1).size ≤ 9223372036854775807 then (if x6.size + (((rd_T38 x28 x30).f0) ++ ((rd_T38 x28 x30).f1)).size ≤ 9223372036854775807 then (barscanlaw14_Gs1Separators.l0 k x0 x3 x5 (x6 ++ (((rd_T38 x28 x30).f0) ++ ((rd_T38 x28 x30).f1))) x28 x29 (wrap64 (x30 + 1))) else (none)) else (none))) else (some false))) else (none)) else (none)) else (barscanlaw14_Gs1Separators.l1 k x5 x6 (⟨#[]⟩ : ByteArray) x3 (x3.length : Int) 0)
def barscanlaw14_Gs1Separators.l1 : Nat → Int → ByteArray → ByteArray → List Int → Int → Int → Option (Bool)
  | 0, _, _, _, _, _, _ => none
  | k + 1, x5, x6, x12, x63, x64, x65 => if x65 < x64 then (if 0 ≤ x65 then (if x65 < (x63.length : Int) then (if (rd x63 x65) = 256 then (barscanlaw14_Gs1Separators.l1 k (wrap64 (x5 - 1)) x6 x12 x63 x64 (wrap64 (x65 + 1))) else ((some (([(rd x63 x65) % 256] : List Int) : List Int)).bind fun y281 => (if x12.size + (strOfNums y281).size ≤ 9223372036854775807 then (barscanlaw14_Gs1Separators.l1 k x5 x6 (x12 ++ (strOfNums y281)) x63 x64 (wrap64 (x65 + 1))) else (none)))) else (none)) else (none)) else (if x5 = 0 then (if x6.toList = x12.toList then ((barscanlaw14_examples.f k).bind fun t284 => (some t284)) else (some false)) else (some false))
end
def barscanlaw14_Gs1Separators.f (k : Nat) (l0 : List (S38)) : Option (Bool) := (gs1_Chars.f k l0).bind fun bt270 => (if bt270.2 = 0 then (barscanlaw14_Gs1Separators.l0 k l0 bt270.1 1 (⟨#[]⟩ : ByteArray) l0 (l0.length : Int) 0) else (if (bt270.1.length : Int) = 0 then ((barscanlaw14_examples.f k).bind fun t274 => (some t274)) else (some false)))
theorem barscanlaw14_Gs1Separators.mono_l : ∀ k, (∀ y0 y1 y2 y3 y4 y5 y6, LeO (barscanlaw14_Gs1Separators.l0 k y0 y1 y2 y3 y4 y5 y6) (barscanlaw14_Gs1Separators.l0 (k + 1) y0 y1 y2 y3 y4 y5 y6)) ∧ (∀ y0 y1 y2 y3 y4 y5, LeO (barscanlaw14_Gs1Separators.l1 k y0 y1 y2 y3 y4 y5) (barscanlaw14_Gs1Separators.l1 (k + 1) y0 y1 y2 y3 y4 y5))
  | 0 => ⟨fun _ _ _ _ _ _ _ r h => by simp [barscanlaw14_Gs1Separators.l0] at h, fun _ _ _ _ _ _ r h => by simp [barscanlaw14_Gs1Separators.l1] at h⟩
  | k + 1 => by
    obtain ⟨ih0, ih1⟩ := barscanlaw14_Gs1Separators.mono_l k
    refine ⟨?_, ?_⟩
    · intro y0 y1 y2 y3 y4 y5 y6
      unfold barscanlaw14_Gs1Separators.l0
      repeat' first
      | (with_reducible exact ih0 _ _ _ _ _ _ _)
      | (with_reducible exact ih1 _ _ _ _ _ _)
      | (with_reducible exact barscanlaw14_examples.mono _)
      | (with_reducible exact gs1_Chars.mono _ _)
      | (with_reducible exact LeO.refl _)
      | (with_reducible exact LeO.none _)
      | (with_reducible refine LeO.ite ?_ ?_)
      | (with_reducible refine LeO.bind ?_ (fun _ => ?_))
      | exact ih0 _ _ _ _ _ _ _
      | exact ih1 _ _ _ _ _ _
      | exact barscanlaw14_examples.mono _
      | exact gs1_Chars.mono _ _
      | exact LeO.none _
      | refine LeO.ite ?_ ?_
      | refine LeO.bind ?_ (fun _ => ?_)
    · intro y0 y1 y2 y3 y4 y5
      unfold barscanlaw14_Gs1Separators.l1
      repeat' first
      | (with_reducible exact ih0 _ _ _ _ _ _ _)
      | (with_reducible exact ih1 _ _ _ _ _ _)
      | (with_reducible exact barscanlaw14_examples.mono _)
      | (with_reducible exact gs1_Chars.mono _ _)
      | (with_reducible exact LeO.refl _)
      | (with_reducible exact LeO.none _)
      | (with_reducible refine LeO.ite ?_ ?_)
      | (with_reducible refine LeO.bind ?_ (fun _ => ?_))
      | exact ih0 _ _ _ _ _ _ _
      | exact ih1 _ _ _ _ _ _
      | exact barscanlaw14_examples.mono _
      | exact gs1_Chars.mono _ _
      | exact LeO.none _
      | refine LeO.ite ?_ ?_
      | refine LeO.bind ?_ (fun _ => ?_)
theorem barscanlaw14_Gs1Separators.mono : ∀ a0 k, LeO (barscanlaw14_Gs1Separators.f k a0) (barscanlaw14_Gs1Separators.f (k + 1) a0) := by
  intro a0 k
  obtain ⟨ih0, ih1⟩ := barscanlaw14_Gs1Separators.mono_l k
  unfold barscanlaw14_Gs1Separators.f
  repeat' first
      | (with_reducible exact ih0 _ _ _ _ _ _ _)
      | (with_reducible exact ih1 _ _ _ _ _ _)
      | (with_reducible exact barscanlaw14_examples.mono _)
      | (with_reducible exact gs1_Chars.mono _ _)
      | (with_reducible exact LeO.refl _)
      | (with_reducible exact LeO.none _)
      | (with_reducible refine LeO.ite ?_ ?_)
      | (with_reducible refine LeO.bind ?_ (fun _ => ?_))
      | exact ih0 _ _ _ _ _ _ _
      | exact ih1 _ _ _ _ _ _
      | exact barscanlaw14_examples.mono _
      | exact gs1_Chars.mono _ _
      | exact LeO.none _
      | refine LeO.ite ?_ ?_
      | refine LeO.bind ?_ (fun _ => ?_)
set_option maxHeartbeats 8000000 in
set_option maxRecDepth 100000 in
theorem barscanlaw14_Gs1Separators.calls (k : Nat) (A0 : Option Addr) (c0 : Nat) (l0 : List (S38)) (r : Bool) (w : World) (hT : Tabs w) (hr0 : Kd.C k38 w A0 l0.length l0) (hc0 : l0.length ≤ c0) (h : barscanlaw14_Gs1Separators.f k l0 = some r) :
    Calls Tryd.prog 5 #[.slice A0 l0.length c0] w fun e w' => e = .returned (.bool r) ∧ Below w.heap.size w w' := by
  have hu38 := Tryd.underlying38
  have HR0 := Aside0.mk hr0
  have HC0 := Aside0.mk hc0
  clear hr0 hc0
  have HT := Aside0.mk hT
  clear hT
  have HB := Aside0.mk (Below.refl w.heap.size w)
  have H : ((gs1_Chars.f k l0).bind fun bt270 => (if bt270.2 = 0 then (barscanlaw14_Gs1Separators.l0 k l0 bt270.1 1 (⟨#[]⟩ : ByteArray) l0 (l0.length : Int) 0) else (if (bt270.1.length : Int) = 0 then ((barscanlaw14_examples.f k).bind fun t274 => (some t274)) else (some false)))) = some r := h
  clear h
  replace H := Option.bind_eq_some_iff.mp H
  obtain ⟨⟨t270, t271⟩, A20, H⟩ := H
  replace H : (if t271 = 0 then (barscanlaw14_Gs1Separators.l0 k l0 t270 1 (⟨#[]⟩ : ByteArray) l0 (l0.length : Int) 0) else (if (t270.length : Int) = 0 then ((barscanlaw14_examples.f k).bind fun t274 => (some t274)) else (some false))) = some r := H
  have A2 := Aside0.mk A20
  clear A20
  by_cases c3 : t271 = 0
  · rw [if_pos c3] at H
    have c3b0 : (t271 == 0) = true := beq_iff_eq.mpr c3
    have c3b1 : (t271 != 0) = false := bne_eq_false_iff_eq.mpr c3
    clear c3
    have H' := Aside0.mk H
    clear H
    go_enter Tryd.func5, Tryd.ntmps5
    go_wp2_with (first | ((with_reducible refine gate_callee (f := 10) rfl ?_); refine goesL_ (some 17) rfl rfl Tryd.func10 (by kernel_rfl) rfl #[.slice A0 l0.length c0] rfl (by (try simp only [List.map_toArray, List.map_cons, List.map_nil]); first | done | rfl | (simp only [List.length_drop, List.length_take]; rfl)) ?_; (with_reducible refine (gs1_Chars.calls k _ _ l0 t270 t271 _ ?side3 ?side1 ?side2 A2.out).mono ?_); (case side1 => repeat (first | exact HR0.out | (with_reducible refine Kd.C_alloc ?_ _) | (with_reducible refine Kd.C_drewN ?_ _) | (with_reducible refine Kd.C_drew ?_))); (case side2 => exact HC0.out); (case side3 => exact Tabs.below HT.out (by repeat (first | (with_reducible first | exact HB.out | apply below_alloc | apply pw_below_drewN | apply below_drew1) | exact HB.out))); rintro e w4 ⟨v272, rfl, ho0, hb⟩; refine ⟨_, rfl, ?_⟩; have n0_ := Aside0.mk (Kd.R_lower ho0 (below_size (by repeat (first | (with_reducible first | exact HB.out | apply below_alloc | apply pw_below_drewN | apply below_drew1) | exact HB.out)))); have n1_ := Aside0.mk (below_step (by repeat (first | (with_reducible first | exact HB.out | apply below_alloc | apply pw_below_drewN | apply below_drew1) | exact HB.out)) hb); clear HB; have HO273 := n0_; have HB := n1_; clear n0_ n1_; (try clear hb); (try clear hb2); (try clear hk); (try clear hi); (try clear ho0)))
    go_loopg [5, 6, 30] k (fun kq v5 v6 v30 w' => ∃ (x5_1 : Int) (x6_1 : ByteArray) (x30_1 : Int), v5 = .int .i64 x5_1 ∧ v6 = .string x6_1 ∧ v30 = .int .i64 x30_1 ∧ Aside0 (barscanlaw14_Gs1Separators.l0 kq l0 t270 x5_1 x6_1 l0 (l0.length : Int) x30_1 = some r) ∧ Aside0 (kq ≤ k) ∧ Aside0 (Kd.R (Kd.int .i64) 3 w' w.heap.size (fun _ => True) v272 t270) ∧ Aside0 (Below w.heap.size w w'))
    case atStart => exact ⟨(1), ((⟨#[]⟩ : ByteArray)), (0), (by first | rfl | (simp; done) | (simp [*]; done)), (by first | rfl | (simp; done) | (simp [*]; done)), (by first | rfl | (simp; done) | (simp [*]; done)), H', ⟨Nat.le_refl _⟩, ⟨by (with_reducible repeat (first | apply Kd.R_alloc | apply Kd.R_drewN | apply Kd.R_drew)); exact HO273.out⟩, ⟨by repeat (first | (with_reducible first | exact HB.out | apply below_alloc | apply pw_below_drewN | apply below_drew1) | exact HB.out)⟩⟩
    case round =>
      clear H'
      try clear c1
      try clear p2
      try clear c3
      try clear c3b0
      try clear c3b1
      obtain ⟨x5_1, x6_1, x30_1, rfl, rfl, rfl, HA, HK1, HO_3, HB⟩ := hrel
      cases gk with
      | zero => exact absurd HA.out (by simp [barscanlaw14_Gs1Separators.l0])
      | succ k1 =>
        have H := HA.out
        clear HA
        simp only [barscanlaw14_Gs1Separators.l0] at H
        by_cases c5 : x30_1 < (l0.length : Int)
        · rw [if_pos c5] at H
          have c5b0 : decide (x30_1 < (l0.length : Int)) = true := decide_eq_true c5
          clear c5
          by_cases c6 : 0 ≤ x30_1
          · rw [if_pos c6] at H
            have c6b0 : decide (0 ≤ x30_1) = true := decide_eq_true c6
            clear c6
            by_cases c7 : x30_1 < (l0.length : Int)
            · rw [if_pos c7] at H
              have c7b0 : decide (x30_1 < (l0.length : Int)) = true := decide_eq_true c7
              clear c7
              replace H := Option.bind_eq_some_iff.mp H
              obtain ⟨⟨t277, t278, t279⟩, A80, H⟩ := H
              replace H : (if t279 = 0 then (if t277 = 0 then (if x30_1 < (wrap64 ((l0.length : Int) - 1)) then (if ((rd_T38 l0 x30_1).f0).size + ((rd_T38 l0 x30_1).f1).size ≤ 9223372036854775807 then (if x6_1.size + (((rd_T38 l0 x30_1).f0) ++ ((rd_T38 l0 x30_1).f1)).size ≤ 9223372036854775807 then (barscanlaw14_Gs1Separators.l0 k1 l0 t270 (wrap64 (x5_1 + 1)) (x6_1 ++ (((rd_T38 l0 x30_1).f0) ++ ((rd_T38 l0 x30_1).f1))) l0 (l0.length : Int) (wrap64 (x30_1 + 1))) else (none)) else (none)) else (if ((rd_T38 l0 x30_1).f0).size + ((rd_T38 l0 x30_1).f1).size ≤ 9223372036854775807 then (if x6_1.size + (((rd_T38 l0 x30_1).f0) ++ ((rd_T38 l0 x30_1).f1)).size ≤ 9223372036854775807 then (barscanlaw14_Gs1Separators.l0 k1 l0 t270 x5_1 (x6_1 ++ (((rd_T38 l0 x30_1).f0) ++ ((rd_T38 l0 x30_1).f1))) l0 (l0.length : Int) (wrap64 (x30_1 + 1))) else (none)) else (none))) else (if ((rd_T38 l0 x30_1).f0).size + ((rd_T38 l0 x30_1).f1).size ≤ 9223372036854775807 then (if x6_1.size + (((rd_T38 l0 x30_1).f0) ++ ((rd_T38 l0 x30_1).f1)).size ≤ 9223372036854775807 then (barscanlaw14_Gs1Separators.l0 k1 l0 t270 x5_1 (x6_1 ++ (((rd_T38 l0 x30_1).f0) ++ ((rd_T38 l0 x30_1).f1))) l0 (l0.length : Int) (wrap64 (x30_1 + 1))) else (none)) else (none))) else (some false)) = some r := H
              have A8 := Aside0.mk A80
              clear A80
              by_cases c9 : t279 = 0
              · rw [if_pos c9] at H
                have c9b0 : (t279 == 0) = true := beq_iff_eq.mpr c9
                have c9b1 : (t279 != 0) = false := bne_eq_false_iff_eq.mpr c9
                clear c9
                by_cases c10 : t277 = 0
                · rw [if_pos c10] at H
                  have c10b0 : (t277 == 0) = true := beq_iff_eq.mpr c10
                  have c10b1 : (t277 != 0) = false := bne_eq_false_iff_eq.mpr c10
                  clear c10
                  by_cases c11 : x30_1 < (wrap64 ((l0.length : Int) - 1))
                  · rw [if_pos c11] at H
                    have c11b0 : decide (x30_1 < (wrap64 ((l0.length : Int) - 1))) = true := decide_eq_true c11
                    clear c11
                    by_cases c12 : ((rd_T38 l0 x30_1).f0).size + ((rd_T38 l0 x30_1).f1).size ≤ 9223372036854775807
                    · rw [if_pos c12] at H
                      have c12b0 := eq_true c12
                      (try (have h_ := of_eq_true c12b0; simp only [ByteArray.size_append, ByteArray.size_extract, Nat.min_self, Int.toNat_natCast, Nat.sub_zero, Int.natCast_add, size_lit, List.length_cons, List.length_nil, Nat.zero_add, Nat.reduceAdd, Int.natCast_one, Int.cast_ofNat_Int] at h_; have c12b0s := eq_true h_; clear h_))
                      have c12b1 : decide (((rd_T38 l0 x30_1).f0).size + ((rd_T38 l0 x30_1).f1).size ≤ 9223372036854775807) = true := decide_eq_true c12
                      try have c12b2 : (9223372036854775807 < ((rd_T38 l0 x30_1).f0).size + ((rd_T38 l0 x30_1).f1).size) = False := eq_false (Nat.not_lt.2 c12)
                      by_cases c13 : x6_1.size + (((rd_T38 l0 x30_1).f0) ++ ((rd_T38 l0 x30_1).f1)).size ≤ 9223372036854775807
                      · rw [if_pos c13] at H
                        have c13b0 := eq_true c13
                        (try (have h_ := of_eq_true c13b0; simp only [ByteArray.size_append, ByteArray.size_extract, Nat.min_self, Int.toNat_natCast, Nat.sub_zero, Int.natCast_add, size_lit, List.length_cons, List.length_nil, Nat.zero_add, Nat.reduceAdd, Int.natCast_one, Int.cast_ofNat_Int] at h_; have c13b0s := eq_true h_; clear h_))
                        have c13b1 : decide (x6_1.size + (((rd_T38 l0 x30_1).f0) ++ ((rd_T38 l0 x30_1).f1)).size ≤ 9223372036854775807) = true := decide_eq_true c13
                        (try (have c13b1s := c13b1; simp only [ByteArray.size_append, ByteArray.size_extract, Nat.min_self, Int.toNat_natCast, Nat.sub_zero, Int.natCast_add, size_lit, List.length_cons, List.length_nil, Nat.zero_add, Nat.reduceAdd, Int.natCast_one, Int.cast_ofNat_Int] at c13b1s))
                        (try (have h_ := of_decide_eq_true c13b1; simp only [ByteArray.size_append, ByteArray.size_extract, Nat.min_self, Int.toNat_natCast, Nat.sub_zero, Int.natCast_add, size_lit, List.length_cons, List.length_nil, Nat.zero_add, Nat.reduceAdd, Int.natCast_one, Int.cast_ofNat_Int] at h_; have c13b1t := eq_true h_; clear h_))
                        try have c13b2 : (9223372036854775807 < x6_1.size + (((rd_T38 l0 x30_1).f0) ++ ((rd_T38 l0 x30_1).f1)).size) = False := eq_false (Nat.not_lt.2 c13)
                        (try (have h_ := of_eq_false c13b2; simp only [ByteArray.size_append, ByteArray.size_extract, Nat.min_self, Int.toNat_natCast, Nat.sub_zero, Int.natCast_add, size_lit, List.length_cons, List.length_nil, Nat.zero_add, Nat.reduceAdd, Int.natCast_one, Int.cast_ofNat_Int] at h_; have c13b2s := eq_false h_; clear h_))
                        have H' := Aside0.mk H
                        clear H
                        have p275 : 0 ≤ (x30_1 : Int) := of_decide_eq_true (by first | (with_reducible assumption) | assumption)
                        have q275 : x30_1 < (l0.length : Int) := of_decide_eq_true (by first | (with_reducible assumption) | assumption)
                        obtain ⟨ad275, e275, hx275_0, hx275_1⟩ := at_T38 HR0.out x30_1 p275 q275
                        cases e275
                        replace hx275_0 := (HB.out.cell (World.block_lt_of_cell? w _ hx275_0)).trans hx275_0
                        replace hx275_1 := (HB.out.cell (World.block_lt_of_cell? w _ hx275_1)).trans hx275_1
                        replace p275 := eq_true p275
                        replace q275 := eq_true q275
                        (try (have h_ := of_eq_true q275; simp only [ByteArray.size_append, ByteArray.size_extract, Nat.min_self, Int.toNat_natCast, Nat.sub_zero, Int.natCast_add, size_lit, List.length_cons, List.length_nil, Nat.zero_add, Nat.reduceAdd, Int.natCast_one, Int.cast_ofNat_Int] at h_; have q275s := eq_true h_; clear h_))
                        go_wp2_with (first | ((with_reducible refine gate_dst (N := 8) rfl ?_); (try (refine gate_guard (by rfl) ?_; dsimp only)); refine box_event ?hg (N := 8) ?hd (cs := #[.string (⟨#[]⟩ : ByteArray), .string (⟨#[]⟩ : ByteArray)]) (t := 38) ?hr ?_; (case hd => rfl); (case hg => rfl); (case hr => first | (go_simp; done) | (go_simp; rfl)); intro gb276 hg w14 hbox hb; have n0_ := Aside0.mk (Kd.R_below (by (with_reducible repeat (first | apply Kd.R_alloc | apply Kd.R_drewN | apply Kd.R_drew)); exact HO_3.out) hb); have n1_ := Aside0.mk (below_step (by repeat (first | (with_reducible first | exact HB.out | apply below_alloc | apply pw_below_drewN | apply below_drew1) | exact HB.out)) hb); have n2_ := Aside0.mk (hbox); have n3_ := Aside0.mk ((by rw [hg]; exact (below_size (by repeat (first | (with_reducible first | exact HB.out | apply below_alloc | apply pw_below_drewN | apply below_drew1) | exact HB.out))) : w.heap.size ≤ gb276)); have n4_ := Aside0.mk ((by rw [hg]; exact (below_size (by repeat (first | (with_reducible first | exact HB.out | apply below_alloc | apply pw_below_drewN | apply below_drew1) | exact HB.out))) : w.heap.size ≤ gb276)); clear HO_3; clear HB; have HO_3 := n0_; have HB := n1_; have BK276 := n2_; have GW276 := n3_; have GE276 := n4_; clear n0_ n1_ n2_ n3_ n4_; clear hb hbox hg; have hcz15_0 : w14.cell? ⟨gb276, 0, none⟩ = some (.string (⟨#[]⟩ : ByteArray)) := (blk_cell BK276.out 0).trans rfl; have hcz15_1 : w14.cell? ⟨gb276, 1, none⟩ = some (.string (⟨#[]⟩ : ByteArray)) := (blk_cell BK276.out 1).trans rfl; have hfz15_0 := blk_frozen BK276.out 0; have hfz15_1 := blk_frozen BK276.out 1) | ((with_reducible refine gate_callee (f := 14) rfl ?_); refine goesL_ (some 38) rfl rfl Tryd.func14 (by kernel_rfl) rfl #[.string ((rd_T38 l0 x30_1).f0)] rfl (by (try simp only [List.map_toArray, List.map_cons, List.map_nil]); first | done | rfl | (simp only [List.length_drop, List.length_take]; rfl)) ?_; (with_reducible refine (gs1_Fixed.calls ((rd_T38 l0 x30_1).f0) t277 t278 t279 _ ?side1 A8.out).mono ?_); (case side1 => exact Tabs.below HT.out (by repeat (first | (with_reducible first | exact HB.out | apply below_alloc | apply pw_below_drewN | apply below_drew1 | refine below_set ?_ GE276.out) | exact HB.out))); rintro e w16 ⟨rfl, hb⟩; refine ⟨_, rfl, ?_⟩; have n0_ := Aside0.mk (Kd.R_below (by (with_reducible repeat (first | apply Kd.R_alloc | apply Kd.R_drewN | apply Kd.R_drew)); exact (Kd.R_mono (Kd.R_far (p := ⟨gb276, 1, none⟩) (Kd.R_far (p := ⟨gb276, 0, none⟩) (Kd.R_types HO_3.out BK276.out (by decide)) (fun _ hk => hk.2) (.string ((rd_T38 l0 x30_1).f0))) (fun _ hk => hk.2) (.string ((rd_T38 l0 x30_1).f1))) (fun _ h_ => h_.1))) hb); have n1_ := Aside0.mk (blk_below (g := gb276) (o := .cells #[.string ((rd_T38 l0 x30_1).f0), .string ((rd_T38 l0 x30_1).f1)] 38 (0, 0)) (by (with_reducible repeat (first | refine blk_drewN ?_ _ | refine blk_drew ?_ | refine blk_alloc ?_ _)); refine blk_put (cs := #[.string ((rd_T38 l0 x30_1).f0), .string (⟨#[]⟩ : ByteArray)]) ?_ 1 _ rfl; (with_reducible repeat (first | refine blk_drewN ?_ _ | refine blk_drew ?_ | refine blk_alloc ?_ _)); refine blk_put (cs := #[.string (⟨#[]⟩ : ByteArray), .string (⟨#[]⟩ : ByteArray)]) ?_ 0 _ rfl; (with_reducible repeat (first | refine blk_drewN ?_ _ | refine blk_drew ?_ | refine blk_alloc ?_ _)); exact BK276.out) hb); have n2_ := Aside0.mk (below_step (by repeat (first | (with_reducible first | exact HB.out | apply below_alloc | apply pw_below_drewN | apply below_drew1 | refine below_set ?_ GE276.out) | exact HB.out)) hb); clear HO_3; clear BK276; clear HB; have HO_3 := n0_; have BK276 := n1_; have HB := n2_; clear n0_ n1_ n2_; (try clear hb); (try clear hb2); (try clear hk); (try clear hi); have hcz17_0 : w16.cell? ⟨gb276, 0, none⟩ = some (.string ((rd_T38 l0 x30_1).f0)) := (blk_cell BK276.out 0).trans rfl; have hcz17_1 : w16.cell? ⟨gb276, 1, none⟩ = some (.string ((rd_T38 l0 x30_1).f1)) := (blk_cell BK276.out 1).trans rfl; have hfz17_0 := blk_frozen BK276.out 0; have hfz17_1 := blk_frozen BK276.out 1))
                        go_roundg k1
                        case measure => have := HK1.out; omega
                        case rel => exact ⟨(wrap64 (x5_1 + 1)), (x6_1 ++ (((rd_T38 l0 x30_1).f0) ++ ((rd_T38 l0 x30_1).f1))), (wrap64 (x30_1 + 1)), (by first | rfl | (simp; done) | (simp [*]; done)), (by first | rfl | (simp; done) | (simp [*]; done)), (by first | rfl | (simp; done) | (simp [*]; done)), H', ⟨by have := HK1.out; omega⟩, ⟨by (with_reducible repeat (first | apply Kd.R_alloc | apply Kd.R_drewN | apply Kd.R_drew)); exact HO_3.out⟩, ⟨by repeat (first | (with_reducible first | exact HB.out | apply below_alloc | apply pw_below_drewN | apply below_drew1 | refine below_set ?_ GE276.out) | exact HB.out)⟩⟩
                      · rw [if_neg c13] at H
                        exact absurd H (by simp)
                    · rw [if_neg c12] at H
                      exact absurd H (by simp)
                  · rw [if_neg c11] at H
                    have c11b0 : decide (x30_1 < (wrap64 ((l0.length : Int) - 1))) = false := decide_eq_false c11
                    clear c11
                    by_cases c18 : ((rd_T38 l0 x30_1).f0).size + ((rd_T38 l0 x30_1).f1).size ≤ 9223372036854775807
                    · rw [if_pos c18] at H
                      have c18b0 := eq_true c18
                      (try (have h_ := of_eq_true c18b0; simp only [ByteArray.size_append, ByteArray.size_extract, Nat.min_self, Int.toNat_natCast, Nat.sub_zero, Int.natCast_add, size_lit, List.length_cons, List.length_nil, Nat.zero_add, Nat.reduceAdd, Int.natCast_one, Int.cast_ofNat_Int] at h_; have c18b0s := eq_true h_; clear h_))
                      have c18b1 : decide (((rd_T38 l0 x30_1).f0).size + ((rd_T38 l0 x30_1).f1).size ≤ 9223372036854775807) = true := decide_eq_true c18
                      try have c18b2 : (9223372036854775807 < ((rd_T38 l0 x30_1).f0).size + ((rd_T38 l0 x30_1).f1).size) = False := eq_false (Nat.not_lt.2 c18)
                      by_cases c19 : x6_1.size + (((rd_T38 l0 x30_1).f0) ++ ((rd_T38 l0 x30_1).f1)).size ≤ 9223372036854775807
                      · rw [if_pos c19] at H
                        have c19b0 := eq_true c19
                        (try (have h_ := of_eq_true c19b0; simp only [ByteArray.size_append, ByteArray.size_extract, Nat.min_self, Int.toNat_natCast, Nat.sub_zero, Int.natCast_add, size_lit, List.length_cons, List.length_nil, Nat.zero_add, Nat.reduceAdd, Int.natCast_one, Int.cast_ofNat_Int] at h_; have c19b0s := eq_true h_; clear h_))
                        have c19b1 : decide (x6_1.size + (((rd_T38 l0 x30_1).f0) ++ ((rd_T38 l0 x30_1).f1)).size ≤ 9223372036854775807) = true := decide_eq_true c19
                        (try (have c19b1s := c19b1; simp only [ByteArray.size_append, ByteArray.size_extract, Nat.min_self, Int.toNat_natCast, Nat.sub_zero, Int.natCast_add, size_lit, List.length_cons, List.length_nil, Nat.zero_add, Nat.reduceAdd, Int.natCast_one, Int.cast_ofNat_Int] at c19b1s))
                        (try (have h_ := of_decide_eq_true c19b1; simp only [ByteArray.size_append, ByteArray.size_extract, Nat.min_self, Int.toNat_natCast, Nat.sub_zero, Int.natCast_add, size_lit, List.length_cons, List.length_nil, Nat.zero_add, Nat.reduceAdd, Int.natCast_one, Int.cast_ofNat_Int] at h_; have c19b1t := eq_true h_; clear h_))
                        try have c19b2 : (9223372036854775807 < x6_1.size + (((rd_T38 l0 x30_1).f0) ++ ((rd_T38 l0 x30_1).f1)).size) = False := eq_false (Nat.not_lt.2 c19)
                        (try (have h_ := of_eq_false c19b2; simp only [ByteArray.size_append, ByteArray.size_extract, Nat.min_self, Int.toNat_natCast, Nat.sub_zero, Int.natCast_add, size_lit, List.length_cons, List.length_nil, Nat.zero_add, Nat.reduceAdd, Int.natCast_one, Int.cast_ofNat_Int] at h_; have c19b2s := eq_false h_; clear h_))
                        have H' := Aside0.mk H
                        clear H
                        have p275 : 0 ≤ (x30_1 : Int) := of_decide_eq_true (by first | (with_reducible assumption) | assumption)
                        have q275 : x30_1 < (l0.length : Int) := of_decide_eq_true (by first | (with_reducible assumption) | assumption)
                        obtain ⟨ad275, e275, hx275_0, hx275_1⟩ := at_T38 HR0.out x30_1 p275 q275
                        cases e275
                        replace hx275_0 := (HB.out.cell (World.block_lt_of_cell? w _ hx275_0)).trans hx275_0
                        replace hx275_1 := (HB.out.cell (World.block_lt_of_cell? w _ hx275_1)).trans hx275_1
                        replace p275 := eq_true p275
                        replace q275 := eq_true q275
                        (try (have h_ := of_eq_true q275; simp only [ByteArray.size_append, ByteArray.size_extract, Nat.min_self, Int.toNat_natCast, Nat.sub_zero, Int.natCast_add, size_lit, List.length_cons, List.length_nil, Nat.zero_add, Nat.reduceAdd, Int.natCast_one, Int.cast_ofNat_Int] at h_; have q275s := eq_true h_; clear h_))
                        go_wp2_with (first | ((with_reducible refine gate_dst (N := 8) rfl ?_); (try (refine gate_guard (by rfl) ?_; dsimp only)); refine box_event ?hg (N := 8) ?hd (cs := #[.string (⟨#[]⟩ : ByteArray), .string (⟨#[]⟩ : ByteArray)]) (t := 38) ?hr ?_; (case hd => rfl); (case hg => rfl); (case hr => first | (go_simp; done) | (go_simp; rfl)); intro gb276 hg w20 hbox hb; have n0_ := Aside0.mk (Kd.R_below (by (with_reducible repeat (first | apply Kd.R_alloc | apply Kd.R_drewN | apply Kd.R_drew)); exact HO_3.out) hb); have n1_ := Aside0.mk (below_step (by repeat (first | (with_reducible first | exact HB.out | apply below_alloc | apply pw_below_drewN | apply below_drew1) | exact HB.out)) hb); have n2_ := Aside0.mk (hbox); have n3_ := Aside0.mk ((by rw [hg]; exact (below_size (by repeat (first | (with_reducible first | exact HB.out | apply below_alloc | apply pw_below_drewN | apply below_drew1) | exact HB.out))) : w.heap.size ≤ gb276)); have n4_ := Aside0.mk ((by rw [hg]; exact (below_size (by repeat (first | (with_reducible first | exact HB.out | apply below_alloc | apply pw_below_drewN | apply below_drew1) | exact HB.out))) : w.heap.size ≤ gb276)); clear HO_3; clear HB; have HO_3 := n0_; have HB := n1_; have BK276 := n2_; have GW276 := n3_; have GE276 := n4_; clear n0_ n1_ n2_ n3_ n4_; clear hb hbox hg; have hcz21_0 : w20.cell? ⟨gb276, 0, none⟩ = some (.string (⟨#[]⟩ : ByteArray)) := (blk_cell BK276.out 0).trans rfl; have hcz21_1 : w20.cell? ⟨gb276, 1, none⟩ = some (.string (⟨#[]⟩ : ByteArray)) := (blk_cell BK276.out 1).trans rfl; have hfz21_0 := blk_frozen BK276.out 0; have hfz21_1 := blk_frozen BK276.out 1) | ((with_reducible refine gate_callee (f := 14) rfl ?_); refine goesL_ (some 38) rfl rfl Tryd.func14 (by kernel_rfl) rfl #[.string ((rd_T38 l0 x30_1).f0)] rfl (by (try simp only [List.map_toArray, List.map_cons, List.map_nil]); first | done | rfl | (simp only [List.length_drop, List.length_take]; rfl)) ?_; (with_reducible refine (gs1_Fixed.calls ((rd_T38 l0 x30_1).f0) t277 t278 t279 _ ?side1 A8.out).mono ?_); (case side1 => exact Tabs.below HT.out (by repeat (first | (with_reducible first | exact HB.out | apply below_alloc | apply pw_below_drewN | apply below_drew1 | refine below_set ?_ GE276.out) | exact HB.out))); rintro e w22 ⟨rfl, hb⟩; refine ⟨_, rfl, ?_⟩; have n0_ := Aside0.mk (Kd.R_below (by (with_reducible repeat (first | apply Kd.R_alloc | apply Kd.R_drewN | apply Kd.R_drew)); exact (Kd.R_mono (Kd.R_far (p := ⟨gb276, 1, none⟩) (Kd.R_far (p := ⟨gb276, 0, none⟩) (Kd.R_types HO_3.out BK276.out (by decide)) (fun _ hk => hk.2) (.string ((rd_T38 l0 x30_1).f0))) (fun _ hk => hk.2) (.string ((rd_T38 l0 x30_1).f1))) (fun _ h_ => h_.1))) hb); have n1_ := Aside0.mk (blk_below (g := gb276) (o := .cells #[.string ((rd_T38 l0 x30_1).f0), .string ((rd_T38 l0 x30_1).f1)] 38 (0, 0)) (by (with_reducible repeat (first | refine blk_drewN ?_ _ | refine blk_drew ?_ | refine blk_alloc ?_ _)); refine blk_put (cs := #[.string ((rd_T38 l0 x30_1).f0), .string (⟨#[]⟩ : ByteArray)]) ?_ 1 _ rfl; (with_reducible repeat (first | refine blk_drewN ?_ _ | refine blk_drew ?_ | refine blk_alloc ?_ _)); refine blk_put (cs := #[.string (⟨#[]⟩ : ByteArray), .string (⟨#[]⟩ : ByteArray)]) ?_ 0 _ rfl; (with_reducible repeat (first | refine blk_drewN ?_ _ | refine blk_drew ?_ | refine blk_alloc ?_ _)); exact BK276.out) hb); have n2_ := Aside0.mk (below_step (by repeat (first | (with_reducible first | exact HB.out | apply below_alloc | apply pw_below_drewN | apply below_drew1 | refine below_set ?_ GE276.out) | exact HB.out)) hb); clear HO_3; clear BK276; clear HB; have HO_3 := n0_; have BK276 := n1_; have HB := n2_; clear n0_ n1_ n2_; (try clear hb); (try clear hb2); (try clear hk); (try clear hi); have hcz23_0 : w22.cell? ⟨gb276, 0, none⟩ = some (.string ((rd_T38 l0 x30_1).f0)) := (blk_cell BK276.out 0).trans rfl; have hcz23_1 : w22.cell? ⟨gb276, 1, none⟩ = some (.string ((rd_T38 l0 x30_1).f1)) := (blk_cell BK276.out 1).trans rfl; have hfz23_0 := blk_frozen BK276.out 0; have hfz23_1 := blk_frozen BK276.out 1))
                        go_roundg k1
                        case measure => have := HK1.out; omega
                        case rel => exact ⟨(x5_1), (x6_1 ++ (((rd_T38 l0 x30_1).f0) ++ ((rd_T38 l0 x30_1).f1))), (wrap64 (x30_1 + 1)), (by first | rfl | (simp; done) | (simp [*]; done)), (by first | rfl | (simp; done) | (simp [*]; done)), (by first | rfl | (simp; done) | (simp [*]; done)), H', ⟨by have := HK1.out; omega⟩, ⟨by (with_reducible repeat (first | apply Kd.R_alloc | apply Kd.R_drewN | apply Kd.R_drew)); exact HO_3.out⟩, ⟨by repeat (first | (with_reducible first | exact HB.out | apply below_alloc | apply pw_below_drewN | apply below_drew1 | refine below_set ?_ GE276.out) | exact HB.out)⟩⟩
                      · rw [if_neg c19] at H
                        exact absurd H (by simp)
                    · rw [if_neg c18] at H
                      exact absurd H (by simp)
                · rw [if_neg c10] at H
                  have c10b0 : (t277 == 0) = false := beq_eq_false_iff_ne.mpr c10
                  have c10b1 : (t277 != 0) = true := bne_iff_ne.mpr c10
                  by_cases c24 : ((rd_T38 l0 x30_1).f0).size + ((rd_T38 l0 x30_1).f1).size ≤ 9223372036854775807
                  · rw [if_pos c24] at H
                    have c24b0 := eq_true c24
                    (try (have h_ := of_eq_true c24b0; simp only [ByteArray.size_append, ByteArray.size_extract, Nat.min_self, Int.toNat_natCast, Nat.sub_zero, Int.natCast_add, size_lit, List.length_cons, List.length_nil, Nat.zero_add, Nat.reduceAdd, Int.natCast_one, Int.cast_ofNat_Int] at h_; have c24b0s := eq_true h_; clear h_))
                    have c24b1 : decide (((rd_T38 l0 x30_1).f0).size + ((rd_T38 l0 x30_1).f1).size ≤ 9223372036854775807) = true := decide_eq_true c24
                    try have c24b2 : (9223372036854775807 < ((rd_T38 l0 x30_1).f0).size + ((rd_T38 l0 x30_1).f1).size) = False := eq_false (Nat.not_lt.2 c24)
                    by_cases c25 : x6_1.size + (((rd_T38 l0 x30_1).f0) ++ ((rd_T38 l0 x30_1).f1)).size ≤ 9223372036854775807
                    · rw [if_pos c25] at H
                      have c25b0 := eq_true c25
                      (try (have h_ := of_eq_true c25b0; simp only [ByteArray.size_append, ByteArray.size_extract, Nat.min_self, Int.toNat_natCast, Nat.sub_zero, Int.natCast_add, size_lit, List.length_cons, List.length_nil, Nat.zero_add, Nat.reduceAdd, Int.natCast_one, Int.cast_ofNat_Int] at h_; have c25b0s := eq_true h_; clear h_))
                      have c25b1 : decide (x6_1.size + (((rd_T38 l0 x30_1).f0) ++ ((rd_T38 l0 x30_1).f1)).size ≤ 9223372036854775807) = true := decide_eq_true c25
                      (try (have c25b1s := c25b1; simp only [ByteArray.size_append, ByteArray.size_extract, Nat.min_self, Int.toNat_natCast, Nat.sub_zero, Int.natCast_add, size_lit, List.length_cons, List.length_nil, Nat.zero_add, Nat.reduceAdd, Int.natCast_one, Int.cast_ofNat_Int] at c25b1s))
                      (try (have h_ := of_decide_eq_true c25b1; simp only [ByteArray.size_append, ByteArray.size_extract, Nat.min_self, Int.toNat_natCast, Nat.sub_zero, Int.natCast_add, size_lit, List.length_cons, List.length_nil, Nat.zero_add, Nat.reduceAdd, Int.natCast_one, Int.cast_ofNat_Int] at h_; have c25b1t := eq_true h_; clear h_))
                      try have c25b2 : (9223372036854775807 < x6_1.size + (((rd_T38 l0 x30_1).f0) ++ ((rd_T38 l0 x30_1).f1)).size) = False := eq_false (Nat.not_lt.2 c25)
                      (try (have h_ := of_eq_false c25b2; simp only [ByteArray.size_append, ByteArray.size_extract, Nat.min_self, Int.toNat_natCast, Nat.sub_zero, Int.natCast_add, size_lit, List.length_cons, List.length_nil, Nat.zero_add, Nat.reduceAdd, Int.natCast_one, Int.cast_ofNat_Int] at h_; have c25b2s := eq_false h_; clear h_))
                      have H' := Aside0.mk H
                      clear H
                      have p275 : 0 ≤ (x30_1 : Int) := of_decide_eq_true (by first | (with_reducible assumption) | assumption)
                      have q275 : x30_1 < (l0.length : Int) := of_decide_eq_true (by first | (with_reducible assumption) | assumption)
                      obtain ⟨ad275, e275, hx275_0, hx275_1⟩ := at_T38 HR0.out x30_1 p275 q275
                      cases e275
                      replace hx275_0 := (HB.out.cell (World.block_lt_of_cell? w _ hx275_0)).trans hx275_0
                      replace hx275_1 := (HB.out.cell (World.block_lt_of_cell? w _ hx275_1)).trans hx275_1
                      replace p275 := eq_true p275
                      replace q275 := eq_true q275
                      (try (have h_ := of_eq_true q275; simp only [ByteArray.size_append, ByteArray.size_extract, Nat.min_self, Int.toNat_natCast, Nat.sub_zero, Int.natCast_add, size_lit, List.length_cons, List.length_nil, Nat.zero_add, Nat.reduceAdd, Int.natCast_one, Int.cast_ofNat_Int] at h_; have q275s := eq_true h_; clear h_))
                      go_wp2_with (first | ((with_reducible refine gate_dst (N := 8) rfl ?_); (try (refine gate_guard (by rfl) ?_; dsimp only)); refine box_event ?hg (N := 8) ?hd (cs := #[.string (⟨#[]⟩ : ByteArray), .string (⟨#[]⟩ : ByteArray)]) (t := 38) ?hr ?_; (case hd => rfl); (case hg => rfl); (case hr => first | (go_simp; done) | (go_simp; rfl)); intro gb276 hg w26 hbox hb; have n0_ := Aside0.mk (Kd.R_below (by (with_reducible repeat (first | apply Kd.R_alloc | apply Kd.R_drewN | apply Kd.R_drew)); exact HO_3.out) hb); have n1_ := Aside0.mk (below_step (by repeat (first | (with_reducible first | exact HB.out | apply below_alloc | apply pw_below_drewN | apply below_drew1) | exact HB.out)) hb); have n2_ := Aside0.mk (hbox); have n3_ := Aside0.mk ((by rw [hg]; exact (below_size (by repeat (first | (with_reducible first | exact HB.out | apply below_alloc | apply pw_below_drewN | apply below_drew1) | exact HB.out))) : w.heap.size ≤ gb276)); have n4_ := Aside0.mk ((by rw [hg]; exact (below_size (by repeat (first | (with_reducible first | exact HB.out | apply below_alloc | apply pw_below_drewN | apply below_drew1) | exact HB.out))) : w.heap.size ≤ gb276)); clear HO_3; clear HB; have HO_3 := n0_; have HB := n1_; have BK276 := n2_; have GW276 := n3_; have GE276 := n4_; clear n0_ n1_ n2_ n3_ n4_; clear hb hbox hg; have hcz27_0 : w26.cell? ⟨gb276, 0, none⟩ = some (.string (⟨#[]⟩ : ByteArray)) := (blk_cell BK276.out 0).trans rfl; have hcz27_1 : w26.cell? ⟨gb276, 1, none⟩ = some (.string (⟨#[]⟩ : ByteArray)) := (blk_cell BK276.out 1).trans rfl; have hfz27_0 := blk_frozen BK276.out 0; have hfz27_1 := blk_frozen BK276.out 1) | ((with_reducible refine gate_callee (f := 14) rfl ?_); refine goesL_ (some 38) rfl rfl Tryd.func14 (by kernel_rfl) rfl #[.string ((rd_T38 l0 x30_1).f0)] rfl (by (try simp only [List.map_toArray, List.map_cons, List.map_nil]); first | done | rfl | (simp only [List.length_drop, List.length_take]; rfl)) ?_; (with_reducible refine (gs1_Fixed.calls ((rd_T38 l0 x30_1).f0) t277 t278 t279 _ ?side1 A8.out).mono ?_); (case side1 => exact Tabs.below HT.out (by repeat (first | (with_reducible first | exact HB.out | apply below_alloc | apply pw_below_drewN | apply below_drew1 | refine below_set ?_ GE276.out) | exact HB.out))); rintro e w28 ⟨rfl, hb⟩; refine ⟨_, rfl, ?_⟩; have n0_ := Aside0.mk (Kd.R_below (by (with_reducible repeat (first | apply Kd.R_alloc | apply Kd.R_drewN | apply Kd.R_drew)); exact (Kd.R_mono (Kd.R_far (p := ⟨gb276, 1, none⟩) (Kd.R_far (p := ⟨gb276, 0, none⟩) (Kd.R_types HO_3.out BK276.out (by decide)) (fun _ hk => hk.2) (.string ((rd_T38 l0 x30_1).f0))) (fun _ hk => hk.2) (.string ((rd_T38 l0 x30_1).f1))) (fun _ h_ => h_.1))) hb); have n1_ := Aside0.mk (blk_below (g := gb276) (o := .cells #[.string ((rd_T38 l0 x30_1).f0), .string ((rd_T38 l0 x30_1).f1)] 38 (0, 0)) (by (with_reducible repeat (first | refine blk_drewN ?_ _ | refine blk_drew ?_ | refine blk_alloc ?_ _)); refine blk_put (cs := #[.string ((rd_T38 l0 x30_1).f0), .string (⟨#[]⟩ : ByteArray)]) ?_ 1 _ rfl; (with_reducible repeat (first | refine blk_drewN ?_ _ | refine blk_drew ?_ | refine blk_alloc ?_ _)); refine blk_put (cs := #[.string (⟨#[]⟩ : ByteArray), .string (⟨#[]⟩ : ByteArray)]) ?_ 0 _ rfl; (with_reducible repeat (first | refine blk_drewN ?_ _ | refine blk_drew ?_ | refine blk_alloc ?_ _)); exact BK276.out) hb); have n2_ := Aside0.mk (below_step (by repeat (first | (with_reducible first | exact HB.out | apply below_alloc | apply pw_below_drewN | apply below_drew1 | refine below_set ?_ GE276.out) | exact HB.out)) hb); clear HO_3; clear BK276; clear HB; have HO_3 := n0_; have BK276 := n1_; have HB := n2_; clear n0_ n1_ n2_; (try clear hb); (try clear hb2); (try clear hk); (try clear hi); have hcz29_0 : w28.cell? ⟨gb276, 0, none⟩ = some (.string ((rd_T38 l0 x30_1).f0)) := (blk_cell BK276.out 0).trans rfl; have hcz29_1 : w28.cell? ⟨gb276, 1, none⟩ = some (.string ((rd_T38 l0 x30_1).f1)) := (blk_cell BK276.out 1).trans rfl; have hfz29_0 := blk_frozen BK276.out 0; have hfz29_1 := blk_frozen BK276.out 1))
                      go_roundg k1
                      case measure => have := HK1.out; omega
                      case rel => exact ⟨(x5_1), (x6_1 ++ (((rd_T38 l0 x30_1).f0) ++ ((rd_T38 l0 x30_1).f1))), (wrap64 (x30_1 + 1)), (by first | rfl | (simp; done) | (simp [*]; done)), (by first | rfl | (simp; done) | (simp [*]; done)), (by first | rfl | (simp; done) | (simp [*]; done)), H', ⟨by have := HK1.out; omega⟩, ⟨by (with_reducible repeat (first | apply Kd.R_alloc | apply Kd.R_drewN | apply Kd.R_drew)); exact HO_3.out⟩, ⟨by repeat (first | (with_reducible first | exact HB.out | apply below_alloc | apply pw_below_drewN | apply below_drew1 | refine below_set ?_ GE276.out) | exact HB.out)⟩⟩
                    · rw [if_neg c25] at H
                      exact absurd H (by simp)
                  · rw [if_neg c24] at H
                    exact absurd H (by simp)
              · rw [if_neg c9] at H
                have c9b0 : (t279 == 0) = false := beq_eq_false_iff_ne.mpr c9
                have c9b1 : (t279 != 0) = true := bne_iff_ne.mpr c9
                obtain rfl := Option.some.inj H
                have p275 : 0 ≤ (x30_1 : Int) := of_decide_eq_true (by first | (with_reducible assumption) | assumption)
                have q275 : x30_1 < (l0.length : Int) := of_decide_eq_true (by first | (with_reducible assumption) | assumption)
                obtain ⟨ad275, e275, hx275_0, hx275_1⟩ := at_T38 HR0.out x30_1 p275 q275
                cases e275
                replace hx275_0 := (HB.out.cell (World.block_lt_of_cell? w _ hx275_0)).trans hx275_0
                replace hx275_1 := (HB.out.cell (World.block_lt_of_cell? w _ hx275_1)).trans hx275_1
                replace p275 := eq_true p275
                replace q275 := eq_true q275
                (try (have h_ := of_eq_true q275; simp only [ByteArray.size_append, ByteArray.size_extract, Nat.min_self, Int.toNat_natCast, Nat.sub_zero, Int.natCast_add, size_lit, List.length_cons, List.length_nil, Nat.zero_add, Nat.reduceAdd, Int.natCast_one, Int.cast_ofNat_Int] at h_; have q275s := eq_true h_; clear h_))
                go_wp2_with (first | ((with_reducible refine gate_dst (N := 8) rfl ?_); (try (refine gate_guard (by rfl) ?_; dsimp only)); refine box_event ?hg (N := 8) ?hd (cs := #[.string (⟨#[]⟩ : ByteArray), .string (⟨#[]⟩ : ByteArray)]) (t := 38) ?hr ?_; (case hd => rfl); (case hg => rfl); (case hr => first | (go_simp; done) | (go_simp; rfl)); intro gb276 hg w30 hbox hb; have n0_ := Aside0.mk (Kd.R_below (by (with_reducible repeat (first | apply Kd.R_alloc | apply Kd.R_drewN | apply Kd.R_drew)); exact HO_3.out) hb); have n1_ := Aside0.mk (below_step (by repeat (first | (with_reducible first | exact HB.out | apply below_alloc | apply pw_below_drewN | apply below_drew1) | exact HB.out)) hb); have n2_ := Aside0.mk (hbox); have n3_ := Aside0.mk ((by rw [hg]; exact (below_size (by repeat (first | (with_reducible first | exact HB.out | apply below_alloc | apply pw_below_drewN | apply below_drew1) | exact HB.out))) : w.heap.size ≤ gb276)); have n4_ := Aside0.mk ((by rw [hg]; exact (below_size (by repeat (first | (with_reducible first | exact HB.out | apply below_alloc | apply pw_below_drewN | apply below_drew1) | exact HB.out))) : w.heap.size ≤ gb276)); clear HO_3; clear HB; have HO_3 := n0_; have HB := n1_; have BK276 := n2_; have GW276 := n3_; have GE276 := n4_; clear n0_ n1_ n2_ n3_ n4_; clear hb hbox hg; have hcz31_0 : w30.cell? ⟨gb276, 0, none⟩ = some (.string (⟨#[]⟩ : ByteArray)) := (blk_cell BK276.out 0).trans rfl; have hcz31_1 : w30.cell? ⟨gb276, 1, none⟩ = some (.string (⟨#[]⟩ : ByteArray)) := (blk_cell BK276.out 1).trans rfl; have hfz31_0 := blk_frozen BK276.out 0; have hfz31_1 := blk_frozen BK276.out 1) | ((with_reducible refine gate_callee (f := 14) rfl ?_); refine goesL_ (some 38) rfl rfl Tryd.func14 (by kernel_rfl) rfl #[.string ((rd_T38 l0 x30_1).f0)] rfl (by (try simp only [List.map_toArray, List.map_cons, List.map_nil]); first | done | rfl | (simp only [List.length_drop, List.length_take]; rfl)) ?_; (with_reducible refine (gs1_Fixed.calls ((rd_T38 l0 x30_1).f0) t277 t278 t279 _ ?side1 A8.out).mono ?_); (case side1 => exact Tabs.below HT.out (by repeat (first | (with_reducible first | exact HB.out | apply below_alloc | apply pw_below_drewN | apply below_drew1 | refine below_set ?_ GE276.out) | exact HB.out))); rintro e w32 ⟨rfl, hb⟩; refine ⟨_, rfl, ?_⟩; have n0_ := Aside0.mk (Kd.R_below (by (with_reducible repeat (first | apply Kd.R_alloc | apply Kd.R_drewN | apply Kd.R_drew)); exact (Kd.R_mono (Kd.R_far (p := ⟨gb276, 1, none⟩) (Kd.R_far (p := ⟨gb276, 0, none⟩) (Kd.R_types HO_3.out BK276.out (by decide)) (fun _ hk => hk.2) (.string ((rd_T38 l0 x30_1).f0))) (fun _ hk => hk.2) (.string ((rd_T38 l0 x30_1).f1))) (fun _ h_ => h_.1))) hb); have n1_ := Aside0.mk (blk_below (g := gb276) (o := .cells #[.string ((rd_T38 l0 x30_1).f0), .string ((rd_T38 l0 x30_1).f1)] 38 (0, 0)) (by (with_reducible repeat (first | refine blk_drewN ?_ _ | refine blk_drew ?_ | refine blk_alloc ?_ _)); refine blk_put (cs := #[.string ((rd_T38 l0 x30_1).f0), .string (⟨#[]⟩ : ByteArray)]) ?_ 1 _ rfl; (with_reducible repeat (first | refine blk_drewN ?_ _ | refine blk_drew ?_ | refine blk_alloc ?_ _)); refine blk_put (cs := #[.string (⟨#[]⟩ : ByteArray), .string (⟨#[]⟩ : ByteArray)]) ?_ 0 _ rfl; (with_reducible repeat (first | refine blk_drewN ?_ _ | refine blk_drew ?_ | refine blk_alloc ?_ _)); exact BK276.out) hb); have n2_ := Aside0.mk (below_step (by repeat (first | (with_reducible first | exact HB.out | apply below_alloc | apply pw_below_drewN | apply below_drew1 | refine below_set ?_ GE276.out) | exact HB.out)) hb); clear HO_3; clear BK276; clear HB; have HO_3 := n0_; have BK276 := n1_; have HB := n2_; clear n0_ n1_ n2_; (try clear hb); (try clear hb2); (try clear hk); (try clear hi)))
                go_ret
                exact ⟨by first | rfl | (simp [errW_none, errW_some] <;> rfl) | (simp [*, errW_none, errW_some] <;> rfl), by repeat (first | (with_reducible first | exact HB.out | apply below_alloc | apply pw_below_drewN | apply below_drew1 | refine below_set ?_ GE276.out) | exact HB.out)⟩
            · rw [if_neg c7] at H
              exact absurd H (by simp)
          · rw [if_neg c6] at H
            exact absurd H (by simp)
        · rw [if_neg c5] at H
          have c5b0 : decide (x30_1 < (l0.length : Int)) = false := decide_eq_false c5
          clear c5
          have H' := Aside0.mk H
          clear H
          obtain ⟨Ao33, co33, eo33⟩ := Kd.R_slice HO_3.out
          subst eo33
          go_wp2
          go_loopg [5, 12, 65] k1 (fun kq v5 v12 v65 w' => ∃ (x5_2 : Int) (x12_2 : ByteArray) (x65_2 : Int), v5 = .int .i64 x5_2 ∧ v12 = .string x12_2 ∧ v65 = .int .i64 x65_2 ∧ Aside0 (barscanlaw14_Gs1Separators.l1 kq x5_2 x6_1 x12_2 t270 (t270.length : Int) x65_2 = some r) ∧ Aside0 (kq ≤ k1) ∧ Aside0 (Kd.R (Kd.int .i64) 3 w' w.heap.size (fun _ => True) (.slice Ao33 t270.length co33) t270) ∧ Aside0 (Below w.heap.size w w'))
          case atStart => exact ⟨(x5_1), ((⟨#[]⟩ : ByteArray)), (0), (by first | rfl | (simp; done) | (simp [*]; done)), (by first | rfl | (simp; done) | (simp [*]; done)), (by first | rfl | (simp; done) | (simp [*]; done)), H', ⟨Nat.le_refl _⟩, ⟨by (with_reducible repeat (first | apply Kd.R_alloc | apply Kd.R_drewN | apply Kd.R_drew)); exact HO_3.out⟩, ⟨by repeat (first | (with_reducible first | exact HB.out | apply below_alloc | apply pw_below_drewN | apply below_drew1) | exact HB.out)⟩⟩
          case round =>
            clear H'
            try clear c1
            try clear c2
            try clear p2
            try clear q2
            try clear hx2
            try clear c3
            try clear c3b0
            try clear c3b1
            try clear c5
            try clear c5b0
            try clear c6
            try clear c6b0
            try clear p6
            try clear c7
            try clear c7b0
            try clear c9
            try clear c9b0
            try clear c9b1
            try clear c10
            try clear c10b0
            try clear c10b1
            try clear c11
            try clear c11b0
            try clear c12
            try clear c12b0
            try clear c12b1
            try clear c12b2
            try clear c13
            try clear c13b0
            try clear c13b1
            try clear c13b2
            try clear c14
            try clear c18
            try clear c18b0
            try clear c18b1
            try clear c18b2
            try clear c19
            try clear c19b0
            try clear c19b1
            try clear c19b2
            try clear c24
            try clear c24b0
            try clear c24b1
            try clear c24b2
            try clear c25
            try clear c25b0
            try clear c25b1
            try clear c25b2
            try clear p27
            try clear q27
            try clear hx27
            try clear hcz15_0
            try clear hcz15_1
            try clear hcz17_0
            try clear hcz17_1
            try clear hcz21_0
            try clear hcz21_1
            try clear hcz23_0
            try clear hcz23_1
            try clear hcz27_0
            try clear hcz27_1
            try clear hcz29_0
            try clear hcz29_1
            try clear hcz31_0
            try clear hcz31_1
            try clear hfz15_0
            try clear hfz15_1
            try clear hfz17_0
            try clear hfz17_1
            try clear hfz21_0
            try clear hfz21_1
            try clear hfz23_0
            try clear hfz23_1
            try clear hfz27_0
            try clear hfz27_1
            try clear hfz29_0
            try clear hfz29_1
            try clear hfz31_0
            try clear hfz31_1
            try clear hx275_0
            try clear hx275_1
            try clear p2
            try clear p275
            try clear q275
            obtain ⟨x5_2, x12_2, x65_2, rfl, rfl, rfl, HA, HK2, HO_63, HB⟩ := hrel
            cases gk with
            | zero => exact absurd HA.out (by simp [barscanlaw14_Gs1Separators.l1])
            | succ k2 =>
              have H := HA.out
              clear HA
              simp only [barscanlaw14_Gs1Separators.l1] at H
              by_cases c34 : x65_2 < (t270.length : Int)
              · rw [if_pos c34] at H
                have c34b0 : decide (x65_2 < (t270.length : Int)) = true := decide_eq_true c34
                clear c34
                by_cases c35 : 0 ≤ x65_2
                · rw [if_pos c35] at H
                  have c35b0 : decide (0 ≤ x65_2) = true := decide_eq_true c35
                  clear c35
                  by_cases c36 : x65_2 < (t270.length : Int)
                  · rw [if_pos c36] at H
                    have c36b0 : decide (x65_2 < (t270.length : Int)) = true := decide_eq_true c36
                    clear c36
                    by_cases c37 : (rd t270 x65_2) = 256
                    · rw [if_pos c37] at H
                      have c37b0 : ((rd t270 x65_2) == 256) = true := beq_iff_eq.mpr c37
                      have c37b1 : ((rd t270 x65_2) != 256) = false := bne_eq_false_iff_eq.mpr c37
                      clear c37
                      have H' := Aside0.mk H
                      clear H
                      have p280 : 0 ≤ (x65_2 : Int) := of_decide_eq_true (by first | (with_reducible assumption) | assumption)
                      have q280 : x65_2 < (t270.length : Int) := of_decide_eq_true (by first | (with_reducible assumption) | assumption)
                      obtain ⟨ad280, e280, hx280_0⟩ := Kd.at_int (Kd.R_reads' HO_63.out).2.2 x65_2 p280 q280
                      cases e280
                      replace p280 := eq_true p280
                      replace q280 := eq_true q280
                      (try (have h_ := of_eq_true q280; simp only [ByteArray.size_append, ByteArray.size_extract, Nat.min_self, Int.toNat_natCast, Nat.sub_zero, Int.natCast_add, size_lit, List.length_cons, List.length_nil, Nat.zero_add, Nat.reduceAdd, Int.natCast_one, Int.cast_ofNat_Int] at h_; have q280s := eq_true h_; clear h_))
                      go_wp2
                      go_roundg k2
                      case measure => have := HK1.out; have := HK2.out; omega
                      case rel => exact ⟨(wrap64 (x5_2 - 1)), (x12_2), (wrap64 (x65_2 + 1)), (by first | rfl | (simp; done) | (simp [*]; done)), (by first | rfl | (simp; done) | (simp [*]; done)), (by first | rfl | (simp; done) | (simp [*]; done)), H', ⟨by have := HK1.out; have := HK2.out; omega⟩, ⟨by (with_reducible repeat (first | apply Kd.R_alloc | apply Kd.R_drewN | apply Kd.R_drew)); exact HO_63.out⟩, ⟨by repeat (first | (with_reducible first | exact HB.out | apply below_alloc | apply pw_below_drewN | apply below_drew1) | exact HB.out)⟩⟩
                    · rw [if_neg c37] at H
                      have c37b0 : ((rd t270 x65_2) == 256) = false := beq_eq_false_iff_ne.mpr c37
                      have c37b1 : ((rd t270 x65_2) != 256) = true := bne_iff_ne.mpr c37
                      obtain ⟨y281, hy281⟩ : ∃ y_ : List Int, y_ = (([(rd t270 x65_2) % 256] : List Int)) := ⟨_, rfl⟩
                      replace H : (if x12_2.size + (strOfNums y281).size ≤ 9223372036854775807 then (barscanlaw14_Gs1Separators.l1 k2 x5_2 x6_1 (x12_2 ++ (strOfNums y281)) t270 (t270.length : Int) (wrap64 (x65_2 + 1))) else (none)) = some r := by first | (rw [hy281]; with_reducible exact H) | (have H2_ := (Option.bind_some _ _).symm.trans H; rw [hy281]; with_reducible exact H2_) | (have H2_ := (Option.bind_some _ _).symm.trans H; with_reducible exact H2_) | with_reducible exact H | (rw [hy281]; exact H) | exact H
                      have Ny281 := Aside0.mk hy281
                      clear hy281
                      by_cases c38 : x12_2.size + (strOfNums y281).size ≤ 9223372036854775807
                      · rw [if_pos c38] at H
                        have c38b0 := eq_true c38
                        (try (have h_ := of_eq_true c38b0; simp only [ByteArray.size_append, ByteArray.size_extract, Nat.min_self, Int.toNat_natCast, Nat.sub_zero, Int.natCast_add, size_lit, List.length_cons, List.length_nil, Nat.zero_add, Nat.reduceAdd, Int.natCast_one, Int.cast_ofNat_Int] at h_; have c38b0s := eq_true h_; clear h_))
                        have c38b1 : decide (x12_2.size + (strOfNums y281).size ≤ 9223372036854775807) = true := decide_eq_true c38
                        try have c38b2 : (9223372036854775807 < x12_2.size + (strOfNums y281).size) = False := eq_false (Nat.not_lt.2 c38)
                        have H' := Aside0.mk H
                        clear H
                        have p280 : 0 ≤ (x65_2 : Int) := of_decide_eq_true (by first | (with_reducible assumption) | assumption)
                        have q280 : x65_2 < (t270.length : Int) := of_decide_eq_true (by first | (with_reducible assumption) | assumption)
                        obtain ⟨ad280, e280, hx280_0⟩ := Kd.at_int (Kd.R_reads' HO_63.out).2.2 x65_2 p280 q280
                        cases e280
                        replace p280 := eq_true p280
                        replace q280 := eq_true q280
                        (try (have h_ := of_eq_true q280; simp only [ByteArray.size_append, ByteArray.size_extract, Nat.min_self, Int.toNat_natCast, Nat.sub_zero, Int.natCast_add, size_lit, List.length_cons, List.length_nil, Nat.zero_add, Nat.reduceAdd, Int.natCast_one, Int.cast_ofNat_Int] at h_; have q280s := eq_true h_; clear h_))
                        go_wp2_with (first | ((with_reducible refine gate_dst (N := 76) rfl ?_); (try (refine gate_guard (by rfl) ?_; dsimp only)); refine Kd.R_lit (Kd.int .u8) _ 5 ?hg (N := 76) ?hd (xs := ([(rd t270 x65_2) % 256] : List Int)) (inner := [.int .u8 ((rd t270 x65_2) % 256)]) (ok := fun _ => True) (okp := fun _ => True) ?hr ?hp (fun _ hk => hk) trivial (Below.refl _ _) (Nat.le_refl _) (by simp) ?_; (case hd => rfl); (case hg => rfl); (case hr => first | (go_simp; done) | (go_simp; rfl)); (case hp => exact (Reps.one (show Kd.M (Kd.int .u8) _ _ _ ((rd t270 x65_2) % 256) [.int .u8 ((rd t270 x65_2) % 256)] from rfl) (Reps.none _ _))); intro v282 w39 ho40 hb hg_ hnew_; clear hg_ hnew_; (first | rw [← Ny281.out] at ho40 | (simp only [Int.reduceToNat] at ho40; rw [← Ny281.out] at ho40)); have n0_ := Aside0.mk (Kd.R_below (by (with_reducible repeat (first | apply Kd.R_alloc | apply Kd.R_drewN | apply Kd.R_drew)); exact HO_63.out) hb); have n1_ := Aside0.mk (Kd.R_lower ho40 (below_size (by repeat (first | (with_reducible first | exact HB.out | apply below_alloc | apply pw_below_drewN | apply below_drew1) | exact HB.out)))); have n2_ := Aside0.mk (below_step (by repeat (first | (with_reducible first | exact HB.out | apply below_alloc | apply pw_below_drewN | apply below_drew1) | exact HB.out)) hb); clear HO_63; clear HB; have HO_63 := n0_; have HO283 := n1_; have HB := n2_; clear n0_ n1_ n2_; clear hb ho40; have hcv41 := own_string (P := Tryd.prog) Tryd.underlying41 Tryd.underlying5 Tryd.underlying9 (Kd.own_of_R HO283.out)))
                        go_roundg k2
                        case measure => have := HK1.out; have := HK2.out; omega
                        case rel => exact ⟨(x5_2), (x12_2 ++ (strOfNums y281)), (wrap64 (x65_2 + 1)), (by first | rfl | (simp; done) | (simp [*]; done)), (by first | rfl | (simp; done) | (simp [*]; done)), (by first | rfl | (simp; done) | (simp [*]; done)), H', ⟨by have := HK1.out; have := HK2.out; omega⟩, ⟨by (with_reducible repeat (first | apply Kd.R_alloc | apply Kd.R_drewN | apply Kd.R_drew)); exact HO_63.out⟩, ⟨by repeat (first | (with_reducible first | exact HB.out | apply below_alloc | apply pw_below_drewN | apply below_drew1) | exact HB.out)⟩⟩
                      · rw [if_neg c38] at H
                        exact absurd H (by simp)
                  · rw [if_neg c36] at H
                    exact absurd H (by simp)
                · rw [if_neg c35] at H
                  exact absurd H (by simp)
              · rw [if_neg c34] at H
                have c34b0 : decide (x65_2 < (t270.length : Int)) = false := decide_eq_false c34
                clear c34
                by_cases c42 : x5_2 = 0
                · rw [if_pos c42] at H
                  have c42b0 : (x5_2 == 0) = true := beq_iff_eq.mpr c42
                  have c42b1 : (x5_2 != 0) = false := bne_eq_false_iff_eq.mpr c42
                  clear c42
                  by_cases c43 : x6_1.toList = x12_2.toList
                  · rw [if_pos c43] at H
                    have c43b0 : (x6_1.toList == x12_2.toList) = true := beq_iff_eq.mpr c43
                    have c43b1 : (x6_1.toList != x12_2.toList) = false := bne_eq_false_iff_eq.mpr c43
                    clear c43
                    replace H := Option.bind_eq_some_iff.mp H
                    obtain ⟨t284, A440, H⟩ := H
                    replace H : (some t284) = some r := H
                    have A44 := Aside0.mk A440
                    clear A440
                    obtain rfl := Option.some.inj H
                    go_wp2_with (first | (go_at_call 12; (with_reducible refine (barscanlaw14_examples.calls k2  t284 _ ?side1 A44.out).mono ?_); (case side1 => exact Tabs.below HT.out (by repeat (first | (with_reducible first | exact HB.out | apply below_alloc | apply pw_below_drewN | apply below_drew1) | exact HB.out))); rintro e w45 ⟨rfl, hb⟩; have n0_ := Aside0.mk (Kd.R_below (by (with_reducible repeat (first | apply Kd.R_alloc | apply Kd.R_drewN | apply Kd.R_drew)); exact HO_63.out) hb); have n1_ := Aside0.mk (below_step (by repeat (first | (with_reducible first | exact HB.out | apply below_alloc | apply pw_below_drewN | apply below_drew1) | exact HB.out)) hb); clear HO_63; clear HB; have HO_63 := n0_; have HB := n1_; clear n0_ n1_; (try clear hb); (try clear hb2); (try clear hk); (try clear hi)))
                    go_ret
                    exact ⟨by first | rfl | (simp [errW_none, errW_some] <;> rfl) | (simp [*, errW_none, errW_some] <;> rfl), by repeat (first | (with_reducible first | exact HB.out | apply below_alloc | apply pw_below_drewN | apply below_drew1) | exact HB.out)⟩
                  · rw [if_neg c43] at H
                    have c43b0 : (x6_1.toList == x12_2.toList) = false := beq_eq_false_iff_ne.mpr c43
                    have c43b1 : (x6_1.toList != x12_2.toList) = true := bne_iff_ne.mpr c43
                    obtain rfl := Option.some.inj H
                    go_wp2
                    go_ret
                    exact ⟨by first | rfl | (simp [errW_none, errW_some] <;> rfl) | (simp [*, errW_none, errW_some] <;> rfl), by repeat (first | (with_reducible first | exact HB.out | apply below_alloc | apply pw_below_drewN | apply below_drew1) | exact HB.out)⟩
                · rw [if_neg c42] at H
                  have c42b0 : (x5_2 == 0) = false := beq_eq_false_iff_ne.mpr c42
                  have c42b1 : (x5_2 != 0) = true := bne_iff_ne.mpr c42
                  obtain rfl := Option.some.inj H
                  go_wp2
                  go_ret
                  exact ⟨by first | rfl | (simp [errW_none, errW_some] <;> rfl) | (simp [*, errW_none, errW_some] <;> rfl), by repeat (first | (with_reducible first | exact HB.out | apply below_alloc | apply pw_below_drewN | apply below_drew1) | exact HB.out)⟩
  · rw [if_neg c3] at H
    have c3b0 : (t271 == 0) = false := beq_eq_false_iff_ne.mpr c3
    have c3b1 : (t271 != 0) = true := bne_iff_ne.mpr c3
    by_cases c46 : (t270.length : Int) = 0
    · rw [if_pos c46] at H
      have c46b0 : ((t270.length : Int) == 0) = true := beq_iff_eq.mpr c46
      have c46b1 : ((t270.length : Int) != 0) = false := bne_eq_false_iff_eq.mpr c46
      clear c46
      replace H := Option.bind_eq_some_iff.mp H
      obtain ⟨t274, A470, H⟩ := H
      replace H : (some t274) = some r := H
      have A47 := Aside0.mk A470
      clear A470
      obtain rfl := Option.some.inj H
      go_enter Tryd.func5, Tryd.ntmps5
      go_wp2_with (first | ((with_reducible refine gate_callee (f := 10) rfl ?_); refine goesL_ (some 17) rfl rfl Tryd.func10 (by kernel_rfl) rfl #[.slice A0 l0.length c0] rfl (by (try simp only [List.map_toArray, List.map_cons, List.map_nil]); first | done | rfl | (simp only [List.length_drop, List.length_take]; rfl)) ?_; (with_reducible refine (gs1_Chars.calls k _ _ l0 t270 t271 _ ?side3 ?side1 ?side2 A2.out).mono ?_); (case side1 => repeat (first | exact HR0.out | (with_reducible refine Kd.C_alloc ?_ _) | (with_reducible refine Kd.C_drewN ?_ _) | (with_reducible refine Kd.C_drew ?_))); (case side2 => exact HC0.out); (case side3 => exact Tabs.below HT.out (by repeat (first | (with_reducible first | exact HB.out | apply below_alloc | apply pw_below_drewN | apply below_drew1) | exact HB.out))); rintro e w48 ⟨v272, rfl, ho0, hb⟩; refine ⟨_, rfl, ?_⟩; have n0_ := Aside0.mk (Kd.R_lower ho0 (below_size (by repeat (first | (with_reducible first | exact HB.out | apply below_alloc | apply pw_below_drewN | apply below_drew1) | exact HB.out)))); have n1_ := Aside0.mk (below_step (by repeat (first | (with_reducible first | exact HB.out | apply below_alloc | apply pw_below_drewN | apply below_drew1) | exact HB.out)) hb); clear HB; have HO273 := n0_; have HB := n1_; clear n0_ n1_; (try clear hb); (try clear hb2); (try clear hk); (try clear hi); (try clear ho0); obtain ⟨Ao49, co49, eo49⟩ := Kd.R_slice HO273.out; subst eo49) | (go_at_call 12; (with_reducible refine (barscanlaw14_examples.calls k  t274 _ ?side1 A47.out).mono ?_); (case side1 => exact Tabs.below HT.out (by repeat (first | (with_reducible first | exact HB.out | apply below_alloc | apply pw_below_drewN | apply below_drew1) | exact HB.out))); rintro e w50 ⟨rfl, hb⟩; have n0_ := Aside0.mk (Kd.R_below (by (with_reducible repeat (first | apply Kd.R_alloc | apply Kd.R_drewN | apply Kd.R_drew)); exact HO273.out) hb); have n1_ := Aside0.mk (below_step (by repeat (first | (with_reducible first | exact HB.out | apply below_alloc | apply pw_below_drewN | apply below_drew1) | exact HB.out)) hb); clear HO273; clear HB; have HO273 := n0_; have HB := n1_; clear n0_ n1_; (try clear hb); (try clear hb2); (try clear hk); (try clear hi)))
      go_ret
      exact ⟨by first | rfl | (simp [errW_none, errW_some] <;> rfl) | (simp [*, errW_none, errW_some] <;> rfl), by repeat (first | (with_reducible first | exact HB.out | apply below_alloc | apply pw_below_drewN | apply below_drew1) | exact HB.out)⟩
    · rw [if_neg c46] at H
      have c46b0 : ((t270.length : Int) == 0) = false := beq_eq_false_iff_ne.mpr c46
      have c46b1 : ((t270.length : Int) != 0) = true := bne_iff_ne.mpr c46
      have c46b2 : ¬ (t270 = []) := fun h_ => c46 (by rw [h_]; rfl)
      obtain rfl := Option.some.inj H
      go_enter Tryd.func5, Tryd.ntmps5
      go_wp2_with (first | ((with_reducible refine gate_callee (f := 10) rfl ?_); refine goesL_ (some 17) rfl rfl Tryd.func10 (by kernel_rfl) rfl #[.slice A0 l0.length c0] rfl (by (try simp only [List.map_toArray, List.map_cons, List.map_nil]); first | done | rfl | (simp only [List.length_drop, List.length_take]; rfl)) ?_; (with_reducible refine (gs1_Chars.calls k _ _ l0 t270 t271 _ ?side3 ?side1 ?side2 A2.out).mono ?_); (case side1 => repeat (first | exact HR0.out | (with_reducible refine Kd.C_alloc ?_ _) | (with_reducible refine Kd.C_drewN ?_ _) | (with_reducible refine Kd.C_drew ?_))); (case side2 => exact HC0.out); (case side3 => exact Tabs.below HT.out (by repeat (first | (with_reducible first | exact HB.out | apply below_alloc | apply pw_below_drewN | apply below_drew1) | exact HB.out))); rintro e w51 ⟨v272, rfl, ho0, hb⟩; refine ⟨_, rfl, ?_⟩; have n0_ := Aside0.mk (Kd.R_lower ho0 (below_size (by repeat (first | (with_reducible first | exact HB.out | apply below_alloc | apply pw_below_drewN | apply below_drew1) | exact HB.out)))); have n1_ := Aside0.mk (below_step (by repeat (first | (with_reducible first | exact HB.out | apply below_alloc | apply pw_below_drewN | apply below_drew1) | exact HB.out)) hb); clear HB; have HO273 := n0_; have HB := n1_; clear n0_ n1_; (try clear hb); (try clear hb2); (try clear hk); (try clear hi); (try clear ho0); obtain ⟨Ao52, co52, eo52⟩ := Kd.R_slice HO273.out; subst eo52))
      go_ret
      exact ⟨by first | rfl | (simp [errW_none, errW_some] <;> rfl) | (simp [*, errW_none, errW_some] <;> rfl), by repeat (first | (with_reducible first | exact HB.out | apply below_alloc | apply pw_below_drewN | apply below_drew1) | exact HB.out)⟩

end Go.Proofs.YtghlbdemlmbijaaDoor.Q

/- The plain laws Gs1RoundTrip, Gs1Canonical and Gs1Separators. -/
namespace Go.Proofs.YtghlbdemlmbijaaDoor.Q
open Go.RowKit Go.Proofs.YtghlbdemlmbijaaDoorW.PrintWords Go.Proofs.YtghlbdemlmbijaaDoorW.PrintLast Go.Proofs.YtghlbdemlmbijaaDoorW.PrintMore
set_option linter.unusedVariables false
theorem fmR_bd (l : List El) (B : Nat) (h : ∀ i : Nat, (piece (rd_T38 l i)).size ≤ B) (n : Nat) : ∀ (i : Nat) (out : ByteArray), (fmR l n i out).size ≤ out.size + n * B := by
  induction n with
  | zero => intro i out; simp [fmR]
  | succ n ih =>
    intro i out
    have h1 := ih (i + 1) (out ++ piece (rd_T38 l i))
    have h2 := h i
    rw [ByteArray.size_append] at h1
    simp only [fmR]
    rw [Nat.succ_mul]
    omega
theorem ex_ev : Ev (fun k => barscanlaw14_examples.f k) true := ⟨60, examples_at⟩
theorem same_of (l : List El) (hl : l.length < 4611686018427387904) : Ev (fun k => barscanlaw14_same.f k l l) true := by
  unfold barscanlaw14_same.f
  exact Ev.bind (same_ev _ hl) (Ev.const rfl)
theorem equal_of (l : List Int) (hl : l.length < 4611686018427387904) : Ev (fun k => barscanlaw14_equal.f k l l) true := by
  unfold barscanlaw14_equal.f
  exact Ev.bind (equal_ev _ hl) (Ev.const rfl)
theorem pair_of {α : Type} {x : α × Int} (h : x.2 = 0) : x = (x.1, 0) := by rw [← h]
theorem roundtrip_ev (l : List El) (hz : SzL l) (hl : (fmR l l.length 0 ⟨#[]⟩).size < 140737488355328) : ∃ K, barscanlaw14_Gs1RoundTrip.f K l = some true := by
  have hlen : l.length < 4611686018427387904 := by have := hz.1; omega
  have j0 : Ev (fun k => barscanlaw14_Gs1RoundTrip.j0 k l) true := by
    refine Ev.succ ?_
    simp only [barscanlaw14_Gs1RoundTrip.j0]
    refine Ev.bind (gch_ev l hz) ?_
    by_cases h : (chS l).2 = 0
    · refine Ev.pos h (Ev.bind (gfc_ev _) ?_)
      rw [round_chars l _ hlen (pair_of h)]
      exact Ev.pos rfl (Ev.bind (same_of l hlen) (Ev.pos rfl (Ev.bind ex_ev (Ev.const rfl))))
    · exact Ev.neg h (Ev.bind ex_ev (Ev.const rfl))
  have h : Ev (fun k => barscanlaw14_Gs1RoundTrip.f k l) true := by
    unfold barscanlaw14_Gs1RoundTrip.f
    refine Ev.bind (gfm_ev l hz hl) ?_
    by_cases h : (fmS l).2 = 0
    · refine Ev.pos h (Ev.bind (gparse_ev _) ?_)
      rw [round_text l _ (pair_of h)]
      exact Ev.pos rfl (Ev.bind (same_of l hlen) (Ev.pos rfl j0))
    · exact Ev.neg h j0
  exact h.get
/-! ### Canonical -/
theorem rd_cases (l : List El) (i : Nat) : rd_T38 l i ∈ l ∨ rd_T38 l i = z38 := by
  unfold rd_T38
  rw [Int.toNat_natCast, List.getD_eq_getElem?_getD]
  by_cases h : i < l.length
  · rw [List.getElem?_eq_getElem h]
    exact Or.inl (List.getElem_mem h)
  · rw [List.getElem?_eq_none (by omega)]
    exact Or.inr rfl
theorem szl_of (l : List El) (B : Nat) (hB : B < 1073741824) (h : l.length < 1099511627776) (h2 : ∀ x ∈ l, x.f0.size + x.f1.size ≤ B) : SzL l := by
  refine ⟨h, fun i => ?_⟩
  rcases rd_cases l i with h3 | h3
  · have := h2 _ h3; omega
  · rw [h3]; exact ⟨by decide, by decide⟩
theorem fmL_size (l : List El) : l.length ≤ (fmL l).length ∧ ∀ x ∈ l, x.f0.size + x.f1.size ≤ (fmL l).length := by
  induction l with
  | nil => exact ⟨Nat.le_refl _, fun x hx => absurd hx (by simp)⟩
  | cons y t ih =>
    have e : (fmL (y :: t)).length = (fmL t).length + y.f0.size + y.f1.size + 2 := by
      simp only [fmL, List.length_cons, List.length_append, bs_len]; omega
    refine ⟨by rw [List.length_cons]; omega, fun x hx => ?_⟩
    rcases List.mem_cons.1 hx with rfl | hx
    · omega
    · have := ih.2 x hx; omega
theorem chL_size (l : List El) : ∀ x ∈ l, x.f0.size + x.f1.size ≤ (chL l).length := by
  induction l with
  | nil => exact fun x hx => absurd hx (by simp)
  | cons y t ih =>
    intro x hx
    have e : (chL t).length + (y.f0.size + y.f1.size) ≤ (chL (y :: t)).length := by
      simp only [chL, List.length_append, ints_len, ByteArray.size_append]; omega
    rcases List.mem_cons.1 hx with rfl | hx
    · omega
    · have := ih x hx; omega
theorem fmS_code {l : List El} {s : ByteArray} (h : fmS l = (s, 0)) : (fmL l).length ≤ 4096 ∧ s = mk (fmL l) := by
  rw [fmS_eq] at h
  by_cases ha : allS l = 0
  rotate_left
  · rw [if_neg ha] at h
    injection h with _ h2
    exact absurd h2 ha
  rw [if_pos ha] at h
  by_cases hs : (fmL l).length > 4096
  · rw [if_pos hs] at h
    injection h with _ h2
    exact absurd h2 (by decide)
  rw [if_neg hs] at h
  injection h with h1 _
  exact ⟨by omega, h1.symm⟩
theorem canonical_ev (s : ByteArray) (C : List Int) : ∃ K, barscanlaw14_Gs1Canonical.f K s C = some true := by
  have j0 : Ev (fun k => barscanlaw14_Gs1Canonical.j0 k C) true := by
    refine Ev.succ ?_
    simp only [barscanlaw14_Gs1Canonical.j0]
    refine Ev.bind (gfc_ev C) ?_
    by_cases h : (fcS C).2 = 0
    · have hb := back_chars C _ (pair_of h)
      have hc := chS_code (by have := hb.2; omega) hb.1
      have hs := chL_size (fcS C).1
      have hC := congrArg List.length hc.2.2.1
      rw [List.length_cons] at hC
      have hC2 := hc.2.2.2
      refine Ev.pos h (Ev.bind (gch_ev _ (szl_of _ 4096 (by decide) (by have := hb.2; omega) fun x hx => by have := hs x hx; omega)) ?_)
      rw [hb.1]
      exact Ev.pos rfl (Ev.bind (equal_of C (by omega)) (Ev.pos rfl (Ev.bind ex_ev (Ev.const rfl))))
    · exact Ev.neg h (Ev.bind ex_ev (Ev.const rfl))
  have h : Ev (fun k => barscanlaw14_Gs1Canonical.f k s C) true := by
    unfold barscanlaw14_Gs1Canonical.f
    refine Ev.bind (gparse_ev s) ?_
    by_cases h : (parS s).2 = 0
    · have hb := back_text s _ (pair_of h)
      have hc := fmS_code hb
      have hs := fmL_size (parS s).1
      refine Ev.pos h (Ev.bind (gfm_ev _ (szl_of _ 4096 (by decide) (by have := hs.1; omega) fun x hx => by have := hs.2 x hx; omega) (by rw [← bs_len, fmR_bs]; omega)) ?_)
      rw [hb]
      exact Ev.pos rfl (Ev.pos rfl j0)
    · exact Ev.neg h j0
  exact h.get
/-! ### Separators -/
def sepN : List El → Nat
  | [] => 0
  | x :: t => (if fixE x = 0 ∧ t ≠ [] then 1 else 0) + sepN t
def catL : List El → List UInt8
  | [] => []
  | x :: t => (bs x.f0 ++ bs x.f1) ++ catL t
def cntF : List Int → Nat
  | [] => 0
  | c :: t => (if c = 256 then 1 else 0) + cntF t
def othF : List Int → List UInt8
  | [] => []
  | c :: t => if c = 256 then othF t else UInt8.ofNat (c % 256).toNat :: othF t
theorem cntF_ints (l : List UInt8) (D : List Int) : cntF (l.map (fun b => (b.toNat : Int)) ++ D) = cntF D ∧ othF (l.map (fun b => (b.toNat : Int)) ++ D) = l ++ othF D := by
  induction l with
  | nil => exact ⟨rfl, rfl⟩
  | cons b l ih =>
    have hb := b.toNat_lt
    have hne : ¬ ((b.toNat : Nat) : Int) = 256 := by omega
    have e : UInt8.ofNat (((b.toNat : Nat) : Int) % 256).toNat = b := by
      rw [show (((b.toNat : Nat) : Int) % 256).toNat = b.toNat by omega]; simp
    simp only [List.map_cons, List.cons_append, cntF, othF, if_neg hne, e, ih.1, ih.2]
    exact ⟨by omega, trivial⟩
theorem chL_parts (l : List El) : cntF (chL l) = sepN l ∧ othF (chL l) = catL l := by
  induction l with
  | nil => exact ⟨rfl, rfl⟩
  | cons x t ih =>
    have h := cntF_ints (bs (x.f0 ++ x.f1)) ((if fixE x = 0 ∧ t ≠ [] then [256] else []) ++ chL t)
    have e : chL (x :: t) = (bs (x.f0 ++ x.f1)).map (fun b => (b.toNat : Int)) ++ ((if fixE x = 0 ∧ t ≠ [] then [256] else []) ++ chL t) := rfl
    rw [e, h.1, h.2, bs_append]
    show _ = _ + sepN t ∧ _ = (bs x.f0 ++ bs x.f1) ++ catL t
    by_cases hc : fixE x = 0 ∧ t ≠ []
    · rw [if_pos hc, if_pos hc]
      show (if (256 : Int) = 256 then 1 else 0) + cntF (chL t) = _ ∧ _ ++ (if (256 : Int) = 256 then othF (chL t) else _) = _
      rw [if_pos rfl, if_pos rfl, ih.1, ih.2]
      exact ⟨rfl, rfl⟩
    · rw [if_neg hc, if_neg hc, List.nil_append, ih.1, ih.2, Nat.zero_add]
      exact ⟨rfl, rfl⟩
theorem othF_len (C : List Int) : (othF C).length ≤ C.length := by
  induction C with
  | nil => exact Nat.le_refl _
  | cons c C ih => simp only [othF]; split <;> simp only [List.length_cons] <;> omega
theorem cntF_len (C : List Int) : cntF C ≤ C.length := by
  induction C with
  | nil => exact Nat.le_refl _
  | cons c C ih => simp only [cntF, List.length_cons]; split <;> omega
theorem sep_l1 (C : List Int) (hC : C.length ≤ 4096) (s : ByteArray) (n : Nat) : ∀ (j : Nat) (want : Int) (t : ByteArray), j + n = C.length → t.size ≤ j → want = (cntF (C.drop j) : Int) → bs t ++ othF (C.drop j) = bs s →
    Ev (fun k => barscanlaw14_Gs1Separators.l1 k want s t C (C.length : Int) j) true := by
  induction n with
  | zero =>
    intro j want t h ht hw hs
    rw [List.drop_of_length_le (by omega)] at hw hs
    refine Ev.succ ?_
    simp only [barscanlaw14_Gs1Separators.l1, bs_toList]
    refine Ev.neg (by omega) (Ev.pos hw (Ev.pos ?_ (Ev.bind ex_ev (Ev.const rfl))))
    rw [← hs]
    exact List.append_nil _
  | succ n ih =>
    intro j want t h ht hw hs
    have hlt : j < C.length := by omega
    have hd : C.drop j = C[j] :: C.drop (j + 1) := List.drop_eq_getElem_cons hlt
    have hcl := cntF_len (C.drop (j + 1))
    rw [List.length_drop] at hcl
    rw [hd] at hw hs
    refine Ev.succ ?_
    simp only [barscanlaw14_Gs1Separators.l1, Option.bind_some]
    rw [rd_nat C j hlt, wrap_up j (by omega)]
    refine Ev.pos (by omega) (Ev.pos (by omega) (Ev.pos (by omega) ?_))
    by_cases hc : C[j] = 256
    · simp only [cntF, othF, if_pos hc] at hw hs
      refine Ev.pos hc ?_
      rw [wrap_id (want - 1) (by omega) (by omega)]
      exact ih (j + 1) (want - 1) t (by omega) (by omega) (by omega) hs
    · simp only [cntF, othF, if_neg hc] at hw hs
      have e : bs (strOfNums [C[j] % 256]) = [UInt8.ofNat (C[j] % 256).toNat] := rfl
      have e1 : (strOfNums [C[j] % 256]).size = 1 := rfl
      refine Ev.neg hc (Ev.pos (by rw [e1]; omega) ?_)
      refine ih (j + 1) want _ (by omega) (by rw [ByteArray.size_append, e1]; omega) (by omega) ?_
      rw [bs_append, e, List.append_assoc]
      exact hs
theorem catL_len (l : List El) : (catL l).length ≤ (chL l).length := by
  rw [← (chL_parts l).2]
  exact othF_len _
theorem fixed_ok {x : El} (hv : Va x) : (fixedS (bs x.f0)).2.2 = 0 := by
  have hg := (good_of hv).tb
  unfold fixedS
  rw [if_neg hg]
  split <;> rfl
theorem sep_l0 (l : List El) (hz : SzL l) (hva : ∀ x ∈ l, Va x) (C : List Int) (hC : C = 256 :: chL l) (hC2 : C.length ≤ 4096) (n : Nat) :
    ∀ (i : Nat) (want : Int) (s : ByteArray), i + n = l.length → 0 ≤ want → want + (sepN (l.drop i) : Int) = 1 + (sepN l : Int) → bs s ++ catL (l.drop i) = catL l →
    Ev (fun k => barscanlaw14_Gs1Separators.l0 k l C want s l (l.length : Int) i) true := by
  have hcat := catL_len l
  have hsn : sepN l ≤ 4096 := by rw [← (chL_parts l).1]; have := cntF_len (chL l); rw [hC, List.length_cons] at hC2; omega
  have hcl : (catL l).length ≤ 4096 := by rw [hC, List.length_cons] at hC2; omega
  induction n with
  | zero =>
    intro i want s h hw0 hw hs
    rw [List.drop_of_length_le (by omega)] at hw hs
    refine Ev.succ ?_
    simp only [barscanlaw14_Gs1Separators.l0]
    refine Ev.neg (by omega) ?_
    have hp := chL_parts l
    refine sep_l1 C hC2 s C.length 0 want ⟨#[]⟩ (by omega) (Nat.le_refl _) ?_ ?_
    · rw [List.drop_zero, hC]
      show want = (((if (256 : Int) = 256 then 1 else 0) + cntF (chL l) : Nat) : Int)
      rw [if_pos rfl, hp.1]
      have : sepN [] = 0 := rfl
      omega
    · rw [List.drop_zero, hC]
      show [] ++ (if (256 : Int) = 256 then othF (chL l) else _) = bs s
      rw [if_pos rfl, hp.2, List.nil_append, ← hs]
      exact List.append_nil _
  | succ n ih =>
    intro i want s h hw0 hw hs
    have hz1 := hz.1
    have hz2 := hz.2 i
    have hlt : i < l.length := by omega
    have hd := drop_rd l i hlt
    have hx : rd_T38 l i ∈ l := by
      have : rd_T38 l i ∈ l.drop i := by rw [hd]; exact List.mem_cons_self ..
      exact List.mem_of_mem_drop this
    have hfo := fixed_ok (hva _ hx)
    have hfe := fixE_fixedS (rd_T38 l i)
    rw [hd] at hw hs
    have hcons : catL (rd_T38 l i :: l.drop (i + 1)) = bs ((rd_T38 l i).f0 ++ (rd_T38 l i).f1) ++ catL (l.drop (i + 1)) := by rw [bs_append]; rfl
    rw [hcons, ← List.append_assoc, ← bs_append] at hs
    have hsz := congrArg List.length hs
    rw [List.length_append, bs_len] at hsz
    have hsz2 : (s ++ ((rd_T38 l i).f0 ++ (rd_T38 l i).f1)).size = s.size + ((rd_T38 l i).f0 ++ (rd_T38 l i).f1).size := ByteArray.size_append
    have hne : l.drop (i + 1) ≠ [] ↔ (i : Int) < wrap64 ((l.length : Int) - 1) := by
      rw [wrap_dn _ (by omega)]
      constructor
      · intro h2
        have := List.length_pos_iff.2 h2
        rw [List.length_drop] at this
        omega
      · intro h2 h3
        have := congrArg List.length h3
        rw [List.length_drop, List.length_nil] at this
        omega
    have hsep : sepN (rd_T38 l i :: l.drop (i + 1)) = (if fixE (rd_T38 l i) = 0 ∧ l.drop (i + 1) ≠ [] then 1 else 0) + sepN (l.drop (i + 1)) := rfl
    rw [hsep] at hw
    refine Ev.succ ?_
    simp only [barscanlaw14_Gs1Separators.l0]
    rw [fixed_at _ (by omega), wrap_up i (by omega)]
    refine Ev.pos (by omega) (Ev.pos (by omega) (Ev.pos (by omega) (Ev.bind (Ev.const rfl) (Ev.pos hfo ?_))))
    rw [← hfe]
    have go : ∀ w' : Int, 0 ≤ w' → w' + (sepN (l.drop (i + 1)) : Int) = 1 + (sepN l : Int) →
        Ev (fun k => (if ((rd_T38 l i).f0).size + ((rd_T38 l i).f1).size ≤ 9223372036854775807 then (if s.size + (((rd_T38 l i).f0) ++ ((rd_T38 l i).f1)).size ≤ 9223372036854775807 then (barscanlaw14_Gs1Separators.l0 k l C w' (s ++ (((rd_T38 l i).f0) ++ ((rd_T38 l i).f1))) l (l.length : Int) ((i + 1 : Nat) : Int)) else (none)) else (none))) true := by
      intro w' h0 h1
      exact Ev.pos (by omega) (Ev.pos (by omega) (ih (i + 1) w' _ (by omega) h0 h1 hs))
    by_cases hf : fixE (rd_T38 l i) = 0
    · refine Ev.pos hf ?_
      by_cases hi : (i : Int) < wrap64 ((l.length : Int) - 1)
      · rw [if_pos ⟨hf, hne.2 hi⟩] at hw
        refine Ev.pos hi ?_
        rw [wrap_id (want + 1) (by omega) (by omega)]
        exact go (want + 1) (by omega) (by omega)
      · rw [if_neg (fun h3 => hi (hne.1 h3.2))] at hw
        exact Ev.neg hi (go want hw0 (by omega))
    · rw [if_neg (fun h3 => hf h3.1)] at hw
      exact Ev.neg hf (go want hw0 (by omega))
theorem separators_ev (l : List El) (hz : SzL l) : ∃ K, barscanlaw14_Gs1Separators.f K l = some true := by
  have hlen : l.length < 4611686018427387904 := by have := hz.1; omega
  have h : Ev (fun k => barscanlaw14_Gs1Separators.f k l) true := by
    unfold barscanlaw14_Gs1Separators.f
    refine Ev.bind (gch_ev l hz) ?_
    by_cases h : (chS l).2 = 0
    · have hc := chS_code hlen (pair_of h)
      refine Ev.pos h ?_
      refine sep_l0 l hz hc.2.1 _ hc.2.2.1 hc.2.2.2 l.length 0 1 ⟨#[]⟩ (by omega) (by decide) (by rw [List.drop_zero]) (by rw [List.drop_zero]; rfl)
    · refine Ev.neg h (Ev.pos ?_ (Ev.bind ex_ev (Ev.const rfl)))
      rw [chS_eq l hlen] at h ⊢
      by_cases ha : allS l = 0
      · rw [if_pos ha] at h ⊢
        by_cases hs : (256 :: chL l).length > 4096
        · rw [if_pos hs]; rfl
        · rw [if_neg hs] at h; exact absurd rfl h
      · rw [if_neg ha]; rfl
  exact h.get
end Go.Proofs.YtghlbdemlmbijaaDoor.Q
