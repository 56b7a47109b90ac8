/- Gs1Detects holds: a changed digit in data with a check digit is reported as ErrCheck, where what is read is of bulk at most 1048576. -/
/- Joined by a program of this work (pack.py) out of the texts Wit, Bulk, Det, LawsE, ElsP, LawDetects of this seat, in build order. -/
import Derived.Test.YtghlbdemlmbijaaDoorPD10
import Derived.Test.YtghlbdemlmbijaaDoorWWords
import Derived.Test.YtghlbdemlmbijaaDoorWLast
import Derived.Test.YtghlbdemlmbijaaDoorWApart
import Derived.Test.YtghlbdemlmbijaaDoorWEqStruct
import Derived.Test.YtghlbdemlmbijaaDoorWFoot
import Derived.Test.YtghlbdemlmbijaaDoorWGuard
import Derived.Test.YtghlbdemlmbijaaDoorWShare
import Derived.Test.YtghlbdemlmbijaaDoorWMore
import Derived.Test.YtghlbdemlmbijaaDoorWRepsOne
import Derived.Test.YtghlbdemlmbijaaDoorWTab
import Derived.Test.YtghlbdemlmbijaaDoorCards
import Derived.Test.YtghlbdemlmbijaaDoorTie
import Derived.WalkKit
import Derived.ProofKit
import Derived.OpenShut
import Derived.Deep.DeepHandedRow
import Derived.Deep.DeepWitnessRowRef
import Derived.Lib.LaidTab
import Derived.Lib.LaidU8
import Derived.Test.YtghlbdemlmbijaaDoorRows
import Derived.Carry
import Derived.ShutString
import Derived.Deep.Slices
import Derived.Deep.Fields
import Derived.ChangeSame
import Derived.Lib.SmallJoins
/- What the four rows share: a world that holds the laid variables; what the list gives the walks. -/
namespace Go.Proofs.YtghlbdemlmbijaaDoor.Wit
open Go.RowKit
theorem own : ownKnob Tryd.prog.godebug = none := by kernel_rfl
theorem gSpaceType : (Tryd.prog.globals[1]?).map (·.type) = some 94 := by kernel_rfl
theorem cellsTab : Tryd.prog.cellsOf 94 = 256 := by kernel_rfl
theorem cellsByte : Tryd.prog.cellsOf 5 = 1 := by kernel_rfl
abbrev laidL : List (String × DataW Unit) := [("unicode/utf8.acceptRanges", Rows.laid_unicode_utf8_acceptRanges), ("unicode.White_Space", Rows.laid_unicode_White_Space), ("strings.asciiSpace", Rows.laid_strings_asciiSpace), ("unicode/utf8.first", Rows.laid_unicode_utf8_first)]
set_option maxRecDepth 100000 in
theorem spaceData : (Rows.laid_strings_asciiSpace : DataW Unit) = Lib.tabData .u8 Lib.asciiSpaceTab := by kernel_rfl
theorem pick : (laidL.filter fun x => x.1 == "strings.asciiSpace") = [("strings.asciiSpace", (Rows.laid_strings_asciiSpace : DataW Unit))] := by kernel_rfl
theorem tabs {W : World} (h : laidMetH Tryd.prog laidL W) : Tabs W := by
  have h2 := laidMetH.filter (fun x => x.1 == "strings.asciiSpace") h
  rw [pick, spaceData] at h2
  exact ⟨Lib.tabIs_of_head (rest := []) gSpace gSpaceType Tryd.underlying94 Tryd.underlying5 cellsByte cellsTab h2⟩
/-- A WORLD FOR THE WITNESS: the settled one, the four variables holding what their initialisers lay; the table of white space and its ranges in two blocks of their own. -/
noncomputable def laidWorld (os : Os) : World :=
  let w0 := World.holding Tryd.prog os ⟨#[.cells #[.slice (some ⟨15, 0, none⟩) 7 7, .slice none 0 0, .int .i64 2] 124, .cells (#[(9 : Int), 13, 1, 32, 133, 101, 160, 5760, 5600, 8192, 8202, 1, 8232, 8233, 1, 8239, 8287, 48, 12288, 12288, 1].map fun z => Value.int .u16 z) 127], #[], []⟩
  let put (h : Array Obj) (g : Nat) (cs : Array Value) : Array Obj := h.modify g fun
    | .cells _ t frozen => .cells cs t frozen
    | o => o
  let h1 := put w0.heap 3 (Lib.firstTab.map fun z => Value.int .u8 z).toArray
  let h2 := put h1 4 #[.int .u8 128, .int .u8 191, .int .u8 160, .int .u8 191, .int .u8 128, .int .u8 159, .int .u8 144, .int .u8 191, .int .u8 128, .int .u8 143, .int .u8 0, .int .u8 0, .int .u8 0, .int .u8 0, .int .u8 0, .int .u8 0, .int .u8 0, .int .u8 0, .int .u8 0, .int .u8 0, .int .u8 0, .int .u8 0, .int .u8 0, .int .u8 0, .int .u8 0, .int .u8 0, .int .u8 0, .int .u8 0, .int .u8 0, .int .u8 0, .int .u8 0, .int .u8 0]
  let h3 := put h2 1 (Lib.asciiSpaceTab.map fun z => Value.int .u8 z).toArray
  let h4 := put h3 2 #[.pointer (some ⟨14, 0, none⟩)]
  { w0 with heap := h4 }
theorem settled (os : Os) : (World.settled Tryd.prog os).heap.size = 14 := by kernel_rfl
theorem laid_met (os : Os) (args : Array Value) : laidMet Tryd.prog laidL ((laidWorld os).forCall (fun _ _ => 0) ⟨#[], args, []⟩).memory :=
  laidMet_of_run' 8 (by kernel_rfl) (by kernel_rfl)
end Go.Proofs.YtghlbdemlmbijaaDoor.Wit

/-
  FOR A PROOF OF AN '..UptoSaid': WHAT THE BOUND GIVES. Copy it as <Name>Bulk.lean (put your seat's Name for YtghlbdemlmbijaaDoor, the bound of 'uptoSmall' for 1048576), name it in GOCLAIM.json's 'order' behind <Name>Rows. By an AI agent, Sun Nov 15 2026. No person has read it. No macro, syntax, notation, axiom, sorry.
-/
namespace Go.Proofs.YtghlbdemlmbijaaDoor.bulks

theorem one_le {H : Type} (d : DataW H) : 1 ≤ Rows.uptoBulk d := by
  cases d with
  | lit l => cases l <;> simp [Rows.uptoBulk]
  | nil => simp [Rows.uptoBulk]
  | ptr d => simp [Rows.uptoBulk]
  | slice elems spare => simp [Rows.uptoBulk]
  | agg parts => simp [Rows.uptoBulk]
  | iface t d => simp [Rows.uptoBulk]
  | map entries => simp [Rows.uptoBulk]
  | held h => simp [Rows.uptoBulk]

/-- a part's bulk is at most the whole's -/
theorem part_le {H : Type} {d : DataW H} {l : List (DataW H)} (h : d ∈ l) : Rows.uptoBulk d ≤ Rows.uptoBulkAll l := by
  induction l with
  | nil => cases h
  | cons x r ih =>
    simp only [Rows.uptoBulkAll]
    cases List.mem_cons.1 h with
    | inl e => subst e; omega
    | inr e => have := ih e; omega

theorem append {H : Type} (l r : List (DataW H)) : Rows.uptoBulkAll (l ++ r) = Rows.uptoBulkAll l + Rows.uptoBulkAll r := by
  induction l with
  | nil => simp [Rows.uptoBulkAll]
  | cons x l ih => simp only [List.cons_append, Rows.uptoBulkAll, ih]; omega

/-- so many values at the most -/
theorem length_le {H : Type} (l : List (DataW H)) : l.length ≤ Rows.uptoBulkAll l := by
  induction l with
  | nil => simp [Rows.uptoBulkAll]
  | cons x r ih => have := one_le x; simp only [Rows.uptoBulkAll, List.length_cons]; omega

/-- a slice's places, and what they hold -/
theorem slice_le {H : Type} (elems spare : List (DataW H)) : elems.length + spare.length + 1 ≤ Rows.uptoBulk (.slice elems spare) := by
  have h1 := length_le elems
  have h2 := length_le spare
  simp only [Rows.uptoBulk]
  omega
theorem slice_elems {H : Type} (elems spare : List (DataW H)) : Rows.uptoBulkAll elems + 1 ≤ Rows.uptoBulk (.slice elems spare) := by
  simp only [Rows.uptoBulk]
  omega

/-- a string's letters -/
theorem string_eq {H : Type} (bytes : List UInt8) : Rows.uptoBulk (DataW.lit (H := H) (.string bytes)) = bytes.length + 1 := by
  simp [Rows.uptoBulk]

/-- THE BOUND, as the builder hands it over ('hk') -/
theorem bound {H : Type} {l : List (DataW H)} (hk : Rows.uptoSmall H l = true) : Rows.uptoBulkAll l ≤ 1048576 := by
  simpa [Rows.uptoSmall] using hk

/-- ROOM: a slice of n elements of b bytes, grown by append: below the 2^48 bytes that append, make and a Builder bear. Here n up to 2^21, b up to 4,096: put your own numbers. -/
theorem room {n b : Nat} (hn : n ≤ 2097152) (hb : b ≤ 4096) : (n + n / 4 + 192) * b ≤ 281474976710656 := by
  have h : (n + n / 4 + 192) * b ≤ 2621632 * 4096 := Nat.mul_le_mul (by omega) hb
  omega

end Go.Proofs.YtghlbdemlmbijaaDoor.bulks

/- The law Gs1Detects: the walk, by hand: it has a conversion of a string to bytes. -/
namespace Go.Proofs.YtghlbdemlmbijaaDoor.Q
open Go.RowKit Go.Proofs.YtghlbdemlmbijaaDoorW.PrintWords Go.Proofs.YtghlbdemlmbijaaDoorW.PrintLast Go.Proofs.YtghlbdemlmbijaaDoorW.PrintMore
set_option linter.unusedVariables false
theorem box_lt (w : World) (cs : Array Value) (T : Nat) : w.heap.size < (w.alloc (.cells cs T)).heap.size := by simp
theorem box_heap (w : World) (cs : Array Value) (T : Nat) : (w.alloc (.cells cs T)).heap[w.heap.size]? = some (.cells cs T (0, 0)) := by show (w.heap.push _)[w.heap.size]? = _; simp
theorem box_cell (w : World) (cs : Array Value) (T i : Nat) : (w.alloc (.cells cs T)).cell? ⟨w.heap.size, i, none⟩ = cs[i]? := Lib.cell_of_heap (box_heap w cs T) i
set_option maxRecDepth 100000 in
set_option maxHeartbeats 8000000 in
theorem detects_no1 (k : Nat) (ai d : ByteArray) (n m e : Int) (at_ by_ : Int) (w : World) (hT : Tabs w) (hF : gs1_Fixed.f ai = some (n, m, e)) (hX : barscanlaw14_examples.f k = some true) (he : e ≠ 0) :
    Calls Tryd.prog 6 #[.agg #[.string ai, .string d], .int .u8 at_, .int .u8 by_] w fun e w' => e = .returned (.bool true) ∧ Below w.heap.size w w' := by
  have hu := Tryd.underlying38
  have HT := Aside0.mk hT
  have e1 : (e != 0) = true := bne_iff_ne.2 he
  go_enter Tryd.func6, Tryd.ntmps6
  go_wp2_with (first | (go_at_call 14; refine (gs1_Fixed.calls ai n m e _ (Tabs.below HT.out ((Below.refl w.heap.size w).alloc (Nat.le_refl _) _)) hF).mono ?_; rintro e w4 ⟨rfl, hb⟩; have HB4 := Aside0.mk (below_step ((Below.refl w.heap.size w).alloc (Nat.le_refl _) (.cells #[.string ai, .string d] 38)) hb); have hx0 : w4.cell? ⟨w.heap.size, 0, none⟩ = some (.string ai) := (hb.cell (box_lt _ _ _)).trans (box_cell _ _ _ 0); have hx1 : w4.cell? ⟨w.heap.size, 1, none⟩ = some (.string d) := (hb.cell (box_lt _ _ _)).trans (box_cell _ _ _ 1); clear hb) | (go_at_call 12; refine (barscanlaw14_examples.calls k true _ (Tabs.below HT.out HB4.out) hX).mono ?_; rintro e w6 ⟨rfl, hb⟩; have HE := Aside0.mk (below_step HB4.out hb)))
  go_ret
  exact ⟨rfl, HE.out⟩
set_option maxRecDepth 100000 in
set_option maxHeartbeats 8000000 in
theorem detects_no2 (k : Nat) (ai d : ByteArray) (n m e : Int) (at_ by_ : Int) (w : World) (hT : Tabs w) (hF : gs1_Fixed.f ai = some (n, m, e)) (hX : barscanlaw14_examples.f k = some true) (he : e = 0) (hn : n < 13) :
    Calls Tryd.prog 6 #[.agg #[.string ai, .string d], .int .u8 at_, .int .u8 by_] w fun e w' => e = .returned (.bool true) ∧ Below w.heap.size w w' := by
  have hu := Tryd.underlying38
  have HT := Aside0.mk hT
  have e1 : (e != 0) = false := bne_eq_false_iff_eq.2 he
  have e2 : decide (n < 13) = true := decide_eq_true hn
  go_enter Tryd.func6, Tryd.ntmps6
  go_wp2_with (first | (go_at_call 14; refine (gs1_Fixed.calls ai n m e _ (Tabs.below HT.out ((Below.refl w.heap.size w).alloc (Nat.le_refl _) _)) hF).mono ?_; rintro e w4 ⟨rfl, hb⟩; have HB4 := Aside0.mk (below_step ((Below.refl w.heap.size w).alloc (Nat.le_refl _) (.cells #[.string ai, .string d] 38)) hb); have hx0 : w4.cell? ⟨w.heap.size, 0, none⟩ = some (.string ai) := (hb.cell (box_lt _ _ _)).trans (box_cell _ _ _ 0); have hx1 : w4.cell? ⟨w.heap.size, 1, none⟩ = some (.string d) := (hb.cell (box_lt _ _ _)).trans (box_cell _ _ _ 1); clear hb) | (go_at_call 12; refine (barscanlaw14_examples.calls k true _ (Tabs.below HT.out HB4.out) hX).mono ?_; rintro e w6 ⟨rfl, hb⟩; have HE := Aside0.mk (below_step HB4.out hb)))
  go_ret
  exact ⟨rfl, HE.out⟩
set_option maxRecDepth 100000 in
set_option maxHeartbeats 8000000 in
theorem detects_no3 (k : Nat) (ai d : ByteArray) (n m e : Int) (at_ by_ : Int) (w : World) (hT : Tabs w) (hF : gs1_Fixed.f ai = some (n, m, e)) (hX : barscanlaw14_examples.f k = some true) (he : e = 0) (hn : ¬ n < 13) (v : Int) (hV : gs1_Verify.f k ai d = some v) (hv : v ≠ 0) :
    Calls Tryd.prog 6 #[.agg #[.string ai, .string d], .int .u8 at_, .int .u8 by_] w fun e w' => e = .returned (.bool true) ∧ Below w.heap.size w w' := by
  have hu := Tryd.underlying38
  have HT := Aside0.mk hT
  have e1 : (e != 0) = false := bne_eq_false_iff_eq.2 he
  have e2 : decide (n < 13) = false := decide_eq_false hn
  have e3 : (v != 0) = true := bne_iff_ne.2 hv
  go_enter Tryd.func6, Tryd.ntmps6
  go_wp2_with (first | (go_at_call 14; refine (gs1_Fixed.calls ai n m e _ (Tabs.below HT.out ((Below.refl w.heap.size w).alloc (Nat.le_refl _) _)) hF).mono ?_; rintro e w4 ⟨rfl, hb⟩; have HB4 := Aside0.mk (below_step ((Below.refl w.heap.size w).alloc (Nat.le_refl _) (.cells #[.string ai, .string d] 38)) hb); have hx0 : w4.cell? ⟨w.heap.size, 0, none⟩ = some (.string ai) := (hb.cell (box_lt _ _ _)).trans (box_cell _ _ _ 0); have hx1 : w4.cell? ⟨w.heap.size, 1, none⟩ = some (.string d) := (hb.cell (box_lt _ _ _)).trans (box_cell _ _ _ 1); clear hb) | (go_at_call 15; refine (gs1_Verify.calls k ai d v _ (Tabs.below HT.out HB4.out) hV).mono ?_; rintro e w5 ⟨rfl, hb⟩; have HB5 := Aside0.mk (below_step HB4.out hb); replace hx0 := (hb.cell (World.block_lt_of_cell? w4 _ hx0)).trans hx0; replace hx1 := (hb.cell (World.block_lt_of_cell? w4 _ hx1)).trans hx1; clear hb) | (go_at_call 12; refine (barscanlaw14_examples.calls k true _ (Tabs.below HT.out HB5.out) hX).mono ?_; rintro e w6 ⟨rfl, hb⟩; have HE := Aside0.mk (below_step HB5.out hb)))
  go_ret
  exact ⟨rfl, HE.out⟩
theorem cell_ne (w : World) (b i j : Nat) (v : Value) (h : i ≠ j) : (w.setCell ⟨b, i, none⟩ v).cell? ⟨b, j, none⟩ = w.cell? ⟨b, j, none⟩ :=
  World.cell?_setCell_other _ _ _ _ (fun h2 => h (by injection h2))
theorem bytes_cell (W : World) (d : ByteArray) (j : Nat) (hj : j < d.size) : (Lib.bytesWorld W 5 d).cell? ⟨W.heap.size, j, none⟩ = some (.int .u8 ((ints d).getD j 0)) := by
  rw [Lib.bytesWorld_cell W 5 d j hj]
  have h1 : j < (bs d).length := by rw [bs_len]; exact hj
  have h2 : j < (ints d).length := by rw [ints_len]; exact hj
  have h3 : d.data.toList = bs d := rfl
  rw [h3, List.getD_eq_getElem?_getD, List.getD_eq_getElem?_getD, List.getElem?_eq_getElem h1, List.getElem?_eq_getElem h2]
  simp [ints]
theorem bytes_thaw (W : World) (d : ByteArray) (j : Nat) (hj : j < d.size) : (Lib.bytesWorld W 5 d).frozen? ⟨W.heap.size, j, none⟩ = false := by
  have h := Lib.bytesWorld_at_new W 5 d
  have h2 : d.size ≤ (Lib.bytesCells W 5 d).size := by
    unfold Lib.bytesCells
    rw [Array.size_append, Array.size_map]
    exact Nat.le_add_right _ _
  unfold World.frozen?
  simp only [h]
  rw [Bool.and_eq_false_iff]
  left
  exact decide_eq_false (by show ¬ (Lib.bytesCells W 5 d).size ≤ j; omega)
/-- As the printed words have it. -/
theorem string_of_reads_ {P : Program} {w : World} {src dst e : TypeId} {A : Option Addr} {n c : Nat} {xs : List Int} (hs : P.underlying src = some (.slice e)) (he : P.underlying e = some (.int .u8)) (hd : P.underlying dst = some .string)
    (h : xs.length = n ∧ n ≤ 9223372036854775807 ∧ (0 < n → ∃ ad, A = some ad ∧ ∀ j, j < n → w.cell? (ad.add j) = some (.int .u8 (xs.getD j 0)))) : (convert src dst (.slice A n c)).run P w = .ok (.string (strOfNums xs)) w := by
  have hn : xs.length = n := h.1
  rcases A with _ | ad
  · have h0 : n = 0 := by
      rcases Nat.eq_zero_or_pos n with h0 | h0
      · exact h0
      · obtain ⟨ad, h', _⟩ := h.2.2 h0
        cases h'
    subst h0
    obtain rfl : xs = [] := List.eq_nil_of_length_eq_zero hn
    exact run_convert_bytes_nil w src e hs he 0 c dst hd
  · have hl : (loadCells ad n).run P w = .ok (xs.map (Value.int .u8)).toArray w := by
      have := run_loadCells_list (P := P) w ad (xs.map (Value.int .u8)) (fun j v hj => by
        have hjl : j < xs.length := by
          rcases Nat.lt_or_ge j xs.length with h' | h'
          · exact h'
          · rw [List.getElem?_eq_none (by rw [List.length_map]; exact h')] at hj
            cases hj
        obtain ⟨ad', he', hc⟩ := h.2.2 (by omega)
        injection he' with he'
        subst he'
        rw [hc j (by omega)]
        rw [List.getElem?_map, List.getElem?_eq_getElem hjl] at hj
        simp at hj
        subst hj
        simp [List.getD_eq_getElem?_getD, List.getElem?_eq_getElem hjl])
      simpa [hn] using this
    rw [run_convert_bytes_string w src dst e _ n c hs he hd, run_bytesToString w ad n c xs hl, foldl_push_bytes]
    simp [strOfNums, ByteArray.empty, ByteArray.emptyWithCapacity]
    rfl
theorem det_conv (W : World) (d : ByteArray) (c : Nat) (hd : d.size ≤ 9223372036854775807) (i : Nat) (hi : i < d.size) (x : Int) :
    Sem.run Tryd.prog (convert 41 9 (.slice (some ⟨W.heap.size, 0, none⟩) d.size c)) ((Lib.bytesWorld W 5 d).setCell ⟨W.heap.size, i, none⟩ (.int .u8 x)) = .ok (.string (strOfNums ((ints d).set i x))) ((Lib.bytesWorld W 5 d).setCell ⟨W.heap.size, i, none⟩ (.int .u8 x)) := by
  refine string_of_reads_ (P := Tryd.prog) (e := 5) Tryd.underlying41 Tryd.underlying5 Tryd.underlying9 ⟨by rw [List.length_set, ints_len], hd, fun _ => ⟨_, rfl, fun j hj => ?_⟩⟩
  have e : (Addr.add ⟨W.heap.size, 0, none⟩ j) = ⟨W.heap.size, j, none⟩ := by rw [Addr.add]; split <;> simp_all
  rw [e]
  have hl : (ints d).length = d.size := ints_len d
  by_cases h : i = j
  · subst h
    rw [World.cell?_setCell_same _ _ _ (bytes_cell W d i hi), List.getD_eq_getElem?_getD, List.getElem?_set_self (by omega)]
    rfl
  · rw [cell_ne _ _ _ _ _ h, bytes_cell W d j hj, List.getD_eq_getElem?_getD, List.getD_eq_getElem?_getD, List.getElem?_set_ne h]
theorem det_old (W : World) (d : ByteArray) (i : Nat) (v : Value) {b : Nat} {u : Value} (h : W.cell? ⟨b, 0, none⟩ = some u) : ((Lib.bytesWorld W 5 d).setCell ⟨W.heap.size, i, none⟩ v).cell? ⟨b, 0, none⟩ = some u := by
  have hb := World.block_lt_of_cell? W _ h
  rw [World.cell?_setCell_other _ _ _ _ (fun h2 => by injection h2 with h3; simp only at hb; omega), Lib.bytesWorld_old W 5 d _ hb]
  exact h
set_option maxRecDepth 100000 in
set_option maxHeartbeats 8000000 in
theorem detects_yes (k : Nat) (ai d : ByteArray) (n m e : Int) (at_ by_ : Int) (w : World) (hT : Tabs w) (hF : gs1_Fixed.f ai = some (n, m, e)) (hX : barscanlaw14_examples.f k = some true) (he : e = 0) (hn : ¬ n < 13) (v : Int) (hV : gs1_Verify.f k ai d = some v) (hv : v = 0) (hs : (d.size : Int) = n) (hat : 0 ≤ at_ ∧ at_ < 256) (hby : 0 ≤ by_ ∧ by_ < 256) (i : Nat) (hi : Int.tmod at_ n = (i : Int)) (hid : i < d.size) (hd : d.size ≤ 4096) (c : Int) (hc : (ints d).getD i 0 = c) (hV2 : gs1_Verify.f k ai (strOfNums ((ints d).set i (48 + (c - 48 + 1 + by_ % 9) % 256 % 10))) = some 8) :
    Calls Tryd.prog 6 #[.agg #[.string ai, .string d], .int .u8 at_, .int .u8 by_] w fun e w' => e = .returned (.bool true) ∧ Below w.heap.size w w' := by
  have hu := Tryd.underlying38
  have HT := Aside0.mk hT
  have e1 : (e != 0) = false := bne_eq_false_iff_eq.2 he
  have e2 : decide (n < 13) = false := decide_eq_false hn
  have e3 : (v != 0) = false := bne_eq_false_iff_eq.2 hv
  have e4 : ((d.size : Int) != n) = false := bne_eq_false_iff_eq.2 hs
  have hw1 : wrap64 at_ = at_ := wrap_id _ (by omega) (by omega)
  have i0 : (0 ≤ (i : Int)) = True := eq_true (by omega)
  have i1 : ((i : Int) < n) = True := eq_true (by omega)
  have i2 : (i < d.size) = True := eq_true hid
  have bc : ∀ W : World, (Lib.bytesWorld W 5 d).cell? ⟨W.heap.size, i, none⟩ = some (.int .u8 c) := fun W => hc ▸ bytes_cell W d i hid
  have bf : ∀ W : World, (Lib.bytesWorld W 5 d).frozen? ⟨W.heap.size, i, none⟩ = false := fun W => bytes_thaw W d i hid
  have hcv : ∀ W : World, Sem.run Tryd.prog (convert 9 41 (.string d)) W = _ := fun W => Lib.run_convert_string_bytes W 9 41 5 _ Tryd.underlying9 Tryd.underlying41 Tryd.underlying5
  go_enter Tryd.func6, Tryd.ntmps6
  go_wp2_with (first | (go_at_call 14; refine (gs1_Fixed.calls ai n m e _ (Tabs.below HT.out ((Below.refl w.heap.size w).alloc (Nat.le_refl _) _)) hF).mono ?_; rintro e w4 ⟨rfl, hb⟩; have HB4 := Aside0.mk (below_step ((Below.refl w.heap.size w).alloc (Nat.le_refl _) (.cells #[.string ai, .string d] 38)) hb); have hx0 : w4.cell? ⟨w.heap.size, 0, none⟩ = some (.string ai) := (hb.cell (box_lt _ _ _)).trans (box_cell _ _ _ 0); have hx1 : w4.cell? ⟨w.heap.size, 1, none⟩ = some (.string d) := (hb.cell (box_lt _ _ _)).trans (box_cell _ _ _ 1); clear hb) | (go_at_call 15; refine (gs1_Verify.calls k ai d v _ (Tabs.below HT.out HB4.out) hV).mono ?_; rintro e w5 ⟨rfl, hb⟩; have HB5 := Aside0.mk (below_step HB4.out hb); replace hx0 := (hb.cell (World.block_lt_of_cell? w4 _ hx0)).trans hx0; replace hx1 := (hb.cell (World.block_lt_of_cell? w4 _ hx1)).trans hx1; have hx2 : ((Lib.bytesWorld w5 5 d).setCell ⟨w5.heap.size, i, none⟩ (.int .u8 (48 + (c - 48 + 1 + by_ % 9) % 256 % 10))).cell? ⟨w.heap.size, 0, none⟩ = some (.string ai) := det_old w5 d i _ hx0; have hcv2 : Sem.run Tryd.prog (convert 41 9 (.slice (some ⟨w5.heap.size, 0, none⟩) d.size (grownCap w5 d.size 0 5))) ((Lib.bytesWorld w5 5 d).setCell ⟨w5.heap.size, i, none⟩ (.int .u8 (48 + (c - 48 + 1 + by_ % 9) % 256 % 10))) = _ := det_conv w5 d _ (by omega) i hid _; have HB7 := Aside0.mk (below_set (j := i) (v := .int .u8 (48 + (c - 48 + 1 + by_ % 9) % 256 % 10)) (below_step HB5.out (Lib.bytesWorld_below w5 5 d)) (below_size HB5.out)); clear hb hV) | (go_at_call 15; refine (gs1_Verify.calls k ai (strOfNums ((ints d).set i (48 + (c - 48 + 1 + by_ % 9) % 256 % 10))) 8 _ (Tabs.below HT.out HB7.out) hV2).mono ?_; rintro e w8 ⟨rfl, hb⟩; have HB8 := Aside0.mk (below_step HB7.out hb); clear hb) | (go_at_call 12; refine (barscanlaw14_examples.calls k true _ (Tabs.below HT.out HB8.out) hX).mono ?_; rintro e w9 ⟨rfl, hb⟩; have HE := Aside0.mk (below_step HB8.out hb)))
  go_ret
  exact ⟨rfl, HE.out⟩
end Go.Proofs.YtghlbdemlmbijaaDoor.Q

/- The plain law Gs1Detects: a changed digit changes the check sum. -/
namespace Go.Proofs.YtghlbdemlmbijaaDoor.Q
open Go.RowKit Go.Proofs.YtghlbdemlmbijaaDoorW.PrintWords Go.Proofs.YtghlbdemlmbijaaDoorW.PrintLast Go.Proofs.YtghlbdemlmbijaaDoorW.PrintMore
set_option linter.unusedVariables false
theorem rsum_change (l l' : List Int) (p : Nat) (h : ∀ j : Nat, j ≠ p → rd l' j = rd l j) : ∀ k : Nat, rsum l' k = rsum l k + if p < k then (1 + (p : Int) % 2 * 2) * (rd l' p - rd l p) else 0
  | 0 => by simp [rsum]
  | k + 1 => by
    have ih := rsum_change l l' p h k
    simp only [rsum]
    by_cases hk : k = p
    · subst hk
      rw [if_neg (by omega)] at ih
      rw [if_pos (by omega), ih, Int.mul_sub]
      omega
    · rw [h k hk, ih]
      by_cases hp : p < k
      · rw [if_pos hp, if_pos (by omega)]; omega
      · rw [if_neg hp, if_neg (by omega)]; omega
/-- The changed data. -/
def chg (d : ByteArray) (i : Nat) (x : Int) : ByteArray := strOfNums ((ints d).set i x)
theorem chg_bs (d : ByteArray) (i : Nat) (x : Int) : bs (chg d i x) = ((ints d).set i x).map fun n => UInt8.ofNat n.toNat := rfl
theorem chg_size (d : ByteArray) (i : Nat) (x : Int) : (chg d i x).size = d.size := by rw [← bs_len, chg_bs, List.length_map, List.length_set, ints_len]
theorem chg_at (d : ByteArray) (i : Nat) (x : Int) (hx : 0 ≤ x ∧ x < 256) (j : Nat) (hj : j < d.size) : bt (chg d i x) (j : Int) = if i = j then x else bt d (j : Int) := by
  have h1 : j < (bs (chg d i x)).length := by rw [bs_len, chg_size]; exact hj
  have h2 : j < (bs d).length := by rw [bs_len]; exact hj
  rw [bt_nat _ j h1, bt_nat d j h2]
  have e : (bs (chg d i x))[j] = UInt8.ofNat (((ints d).set i x)[j]'(by rw [List.length_set, ints_len]; exact hj)).toNat := by
    simp only [chg_bs, List.getElem_map]
  rw [e]
  by_cases h : i = j
  · subst h
    rw [if_pos rfl, List.getElem_set_self, UInt8.toNat_ofNat']
    omega
  · rw [if_neg h, List.getElem_set_ne h]
    simp [ints]
theorem chg_dig (d : ByteArray) (i : Nat) (x : Int) (hx : 48 ≤ x ∧ x ≤ 57) (h : (bs d).all isDig = true) : (bs (chg d i x)).all isDig = true := by
  rw [List.all_eq_true] at h ⊢
  intro b hb
  rw [chg_bs] at hb
  obtain ⟨n, hn, rfl⟩ := List.mem_map.1 hb
  rcases List.mem_or_eq_of_mem_set hn with hn | rfl
  · obtain ⟨b, hb2, rfl⟩ := List.mem_map.1 (show n ∈ (bs d).map fun b => (b.toNat : Int) from hn)
    have e : UInt8.ofNat ((b.toNat : Nat) : Int).toNat = b := by simp
    rw [e]
    exact h b hb2
  · unfold isDig
    rw [Bool.and_eq_true, decide_eq_true_iff, decide_eq_true_iff, UInt8.toNat_ofNat']
    omega
theorem dig_at (d : ByteArray) (h : (bs d).all isDig = true) (j : Nat) (hj : j < d.size) : 48 ≤ bt d (j : Int) ∧ bt d (j : Int) ≤ 57 := by
  have h2 : j < (bs d).length := by rw [bs_len]; exact hj
  rw [bt_nat d j h2]
  have h3 := List.all_eq_true.1 h _ (List.getElem_mem h2)
  unfold isDig at h3
  rw [Bool.and_eq_true, decide_eq_true_iff, decide_eq_true_iff] at h3
  omega
/-- Another digit in one place is told by the check sum. -/
theorem chg_check (d : ByteArray) (i : Nat) (x : Int) (hi : i < d.size) (hx : 48 ≤ x ∧ x ≤ 57) (hd : (bs d).all isDig = true) (hne : x ≠ bt d (i : Int)) (hc : chkS d = true) : chkS (chg d i x) = false := by
  have hlen := chg_size d i x
  have hp : (d.size - 1 - i) + i + 1 = d.size := by omega
  have hch := rsum_change (backL d) (backL (chg d i x)) (d.size - 1 - i) (fun j hj => by
    by_cases hjl : j < d.size
    · rw [back_rd (chg d i x) j (d.size - 1 - j) (by rw [hlen]; omega), back_rd d j (d.size - 1 - j) (by omega), chg_at d i x (by omega) _ (by omega), if_neg (by omega)]
    · have e1 : (backL (chg d i x)).length ≤ j := by rw [backL_len, hlen]; omega
      have e2 : (backL d).length ≤ j := by rw [backL_len]; omega
      unfold rd
      rw [Int.toNat_natCast, List.getD_eq_getElem?_getD, List.getD_eq_getElem?_getD, List.getElem?_eq_none e1, List.getElem?_eq_none e2]) d.size
  rw [if_pos (by omega)] at hch
  rw [back_rd (chg d i x) (d.size - 1 - i) i (by rw [hlen]; omega), back_rd d (d.size - 1 - i) i (by omega), chg_at d i x (by omega) i hi, if_pos rfl] at hch
  have hb := dig_at d hd i hi
  have hs1 := rsum_bd (backL d) (backL_bd d) d.size
  have hs2 := rsum_bd (backL (chg d i x)) (backL_bd (chg d i x)) d.size
  unfold chkS at hc ⊢
  rw [hlen]
  rw [beq_iff_eq, Int.tmod_eq_emod_of_nonneg hs1.1] at hc
  rw [beq_eq_false_iff_ne, Int.tmod_eq_emod_of_nonneg hs2.1, hch]
  generalize rsum (backL d) d.size = S at hc
  generalize bt d (i : Int) = c at hb hne
  have e1 : (x - 48) % 256 = x - 48 := by omega
  have e2 : (c - 48) % 256 = c - 48 := by omega
  rw [e1, e2]
  rcases (show ((d.size - 1 - i : Nat) : Int) % 2 = 0 ∨ ((d.size - 1 - i : Nat) : Int) % 2 = 1 by omega) with e3 | e3 <;> rw [e3] <;> omega
theorem table_chk (l : List UInt8) (h : ¬ (fixedS l).1 < 13) : (tableS l).1 = 2 ∧ (tableS l).2 = (fixedS l).1 ∧ (fixedS l).1 ≤ 18 := by
  unfold fixedS at h ⊢
  have hf := tableS_form l
  simp only [List.mem_cons, List.not_mem_nil, or_false] at hf
  rcases hf with hf | hf | hf | hf | hf | hf | hf | hf | hf | hf | hf | hf | hf <;> rw [hf] at h ⊢ <;> simp at h ⊢
theorem detects_calls (ai d : ByteArray) (ha : ai.size < 1073741824) (hd : d.size < 1073741824) (at_ by_ : Int) (hat : 0 ≤ at_ ∧ at_ < 256) (hby : 0 ≤ by_ ∧ by_ < 256) (w : World) (hT : Tabs w) :
    Calls Tryd.prog 6 #[.agg #[.string ai, .string d], .int .u8 at_, .int .u8 by_] w fun e w' => e = .returned (.bool true) ∧ Below w.heap.size w w' := by
  have hF : gs1_Fixed.f ai = some ((fixedS (bs ai)).1, (fixedS (bs ai)).2.1, (fixedS (bs ai)).2.2) := fixed_at ai (by omega)
  have hex : ∀ k, 60 ≤ k → barscanlaw14_examples.f k = some true := examples_at
  have hver : ∀ s : ByteArray, s.size = d.size → ∀ k, d.size + 81 ≤ k → gs1_Verify.f k ai s = some (verS ai s) := fun s hs k hk => ver_at ai s (by omega) (by omega) k (by omega)
  have hX := hex (d.size + 81) (by omega)
  have hV := hver d rfl (d.size + 81) (Nat.le_refl _)
  by_cases he : (fixedS (bs ai)).2.2 = 0
  rotate_left
  · exact detects_no1 _ ai d _ _ _ at_ by_ w hT hF hX he
  by_cases hn : (fixedS (bs ai)).1 < 13
  · exact detects_no2 _ ai d _ _ _ at_ by_ w hT hF hX he hn
  by_cases hv : verS ai d = 0
  rotate_left
  · exact detects_no3 _ ai d _ _ _ at_ by_ w hT hF hX he hn _ hV hv
  have htb := table_chk (bs ai) hn
  have hg := good_of (x := ⟨ai, d⟩) hv
  have hfe := fixE_fixedS ⟨ai, d⟩
  have hsz : (d.size : Int) = (fixedS (bs ai)).1 := by
    have := hg.fix (by rw [hfe]; show (fixedS (bs ai)).1 > 0; omega)
    rw [hfe] at this
    exact this
  have hvT := hg.ver
  have hvD : verT (tableS (bs ai)) d = 0 := hvT
  unfold verT at hvD
  rw [htb.1, htb.2.1, if_neg (by omega)] at hvD
  have hdig : (bs d).all isDig = true := by
    by_cases h : (bs d).all (okc 2) = true
    · rw [okc_dig d 2 (by decide)] at h; exact h
    · rw [if_neg h] at hvD; exact absurd hvD (by decide)
  have hchk : chkS d = true := by
    rw [if_pos (by rw [okc_dig d 2 (by decide)]; exact hdig)] at hvD
    unfold tailS at hvD
    rw [if_neg (show ¬ ((2 : Int) = 3 ∧ _) from fun h => absurd h.1 (by decide))] at hvD
    rcases h : chkS d with _ | _
    · rw [if_pos ⟨rfl, h⟩] at hvD; exact absurd hvD (by decide)
    · rfl
  generalize hN : (fixedS (bs ai)).1 = n at hn hsz htb hF
  have h0 : 0 ≤ Int.tmod at_ n := Int.tmod_nonneg n hat.1
  have h1 : Int.tmod at_ n < n := Int.tmod_lt_of_pos at_ (by omega)
  obtain ⟨i, hi⟩ : ∃ i : Nat, Int.tmod at_ n = (i : Int) := ⟨(Int.tmod at_ n).toNat, by omega⟩
  have hid : i < d.size := by omega
  obtain ⟨c, hc⟩ : ∃ c, (ints d).getD i 0 = c := ⟨_, rfl⟩
  have hbt : bt d (i : Int) = c := by
    have h2 : i < (bs d).length := by rw [bs_len]; exact hid
    have h3 : i < (ints d).length := by rw [ints_len]; exact hid
    rw [bt_nat d i h2, ← hc, List.getD_eq_getElem?_getD, List.getElem?_eq_getElem h3]
    simp [ints]
  have hcb := dig_at d hdig i hid
  rw [hbt] at hcb
  have hx : 48 ≤ (48 + (c - 48 + 1 + by_ % 9) % 256 % 10) ∧ (48 + (c - 48 + 1 + by_ % 9) % 256 % 10) ≤ 57 ∧ (48 + (c - 48 + 1 + by_ % 9) % 256 % 10) ≠ c := by
    have e : (c - 48 + 1 + by_ % 9) % 256 = c - 48 + 1 + by_ % 9 := by omega
    have e2 : 0 ≤ by_ % 9 ∧ by_ % 9 ≤ 8 := by omega
    rw [e]
    omega
  have hV2 : gs1_Verify.f (d.size + 81) ai (chg d i (48 + (c - 48 + 1 + by_ % 9) % 256 % 10)) = some 8 := by
    generalize (48 + (c - 48 + 1 + by_ % 9) % 256 % 10) = x at hx
    have hs := chg_size d i x
    rw [hver _ hs _ (Nat.le_refl _)]
    have hdg := chg_dig d i x ⟨hx.1, hx.2.1⟩ hdig
    have hck := chg_check d i x hid ⟨hx.1, hx.2.1⟩ hdig (by rw [hbt]; exact hx.2.2) hchk
    congr 1
    unfold verS verT
    rw [if_neg (by omega), htb.1, htb.2.1, hs, if_neg (by omega), if_pos (by rw [okc_dig _ 2 (by decide)]; exact hdg)]
    unfold tailS
    rw [if_neg (show ¬ ((2 : Int) = 3 ∧ _) from fun h => absurd h.1 (by decide)), if_pos ⟨rfl, hck⟩]
  exact detects_yes _ ai d n _ _ at_ by_ w hT hF hX he hn _ hV hv hsz hat hby i hi hid (by omega) c hc hV2
end Go.Proofs.YtghlbdemlmbijaaDoor.Q

/- An argument that is a list of elements, opened. -/
namespace Go.Proofs.YtghlbdemlmbijaaDoor.Els
open Go.ChangeShapes Go.WideShapes Go.Deep Go.RowKit
set_option linter.unusedVariables false
theorem laidOut : laidOutB Tryd.prog = true := by kernel_rfl
section
variable {H : Type} {enc : TypeId × Value → H} {P : Program} {w : World} {base : Nat} {spare : Nat → Bool} {held : Bool}
theorem open_slice_fields {t e : TypeId} {fs : Array Field} {fuel : Nat} {cs : List Value} {x : DataW H × List MemPlace} (ht : P.underlying t = some (.slice e)) (he : P.underlying e = some (.struct fs))
    (hone : oneCellFields P fs = true) (hC : P.cellsOf e = fs.size) (h : DataW.trod enc P w base spare held fuel t cs = some x) :
    (cs = [.slice none 0 0] ∧ x = (.nil, [])) ∨
    ∃ (a : Addr) (len cap m : Nat) (D : Nat → DataW H) (Pl : Nat → List MemPlace), cs = [.slice (some a) len cap] ∧ base ≤ a.block ∧ len ≤ cap ∧ cap ≤ maxLen ∧ m = (if spare a.block then cap else len) ∧
      x = (.slice ((List.range len).map D) ((List.range (m - len)).map fun j => D (len + j)), MemPlace.row a (m * fs.size) ++ (List.range m).flatMap Pl) ∧
      ∀ i, i < m → ∃ (ys : List (DataW H × List MemPlace)) (n : Nat), D i = .agg (ys.map (·.1)) ∧ Pl i = ys.flatMap (·.2) ∧ ys.length = fs.size ∧
        ∀ (j : Nat) (f : Field), fs[j]? = some f → ∃ (v : Value) (y : DataW H × List MemPlace), w.cell? (a.add (i * fs.size + j)) = some v ∧ ys[j]? = some y ∧ DataW.trod enc P w base spare held n f.type [v] = some y := by
  rcases open_slice ht h with h0 | ⟨a, len, cap, m, n, D, Pl, hcs, hb, hl, hm, hmm, hx, hi⟩
  · exact .inl h0
  · refine .inr ⟨a, len, cap, m, D, Pl, hcs, hb, hl, hm, hmm, by rw [hC] at hx; exact hx, fun i him => ?_⟩
    obtain ⟨cs', hc, ht'⟩ := hi i him
    rw [hC] at hc
    obtain ⟨ys, n', hn', hy, hlen, hyl, hf⟩ := DataW.trod_struct he ht'
    obtain ⟨_, hcl, hat⟩ := World.cells?_some hc
    simp only [Prod.mk.injEq] at hy
    refine ⟨ys, n', hy.1, hy.2, hyl, fun j f hj => ?_⟩
    obtain ⟨ho, hk⟩ := hone_of hone j f hj
    have hjl : j < fs.size := (Array.getElem?_eq_some_iff.1 hj).1
    have hcell := hat j hjl
    have hv : cs'[j]? = some (cs'[j]'(by omega)) := List.getElem?_eq_getElem (by omega)
    have h1 := hf j f hj
    rw [ho, hk] at h1
    have hone' : (cs'.drop j).take 1 = [cs'[j]'(by omega)] := by
      rw [List.drop_eq_getElem_cons (by omega)]
      rfl
    rw [hone'] at h1
    have hys : ys[j]? = some (ys[j]'(by omega)) := List.getElem?_eq_getElem (by omega)
    refine ⟨_, _, ?_, hys, h1.trans hys⟩
    rw [← Go.Deep.add_add, hcell, hv]
end
/-- What the list weighs, each text by its bytes. -/
def weight (l : List Q.El) : Nat := (l.map fun x => x.f0.size + x.f1.size + 3).sum
section
variable {H : Type} {enc : TypeId × Value → H} {w : World} {base : Nat} {spare : Nat → Bool} {held : Bool}
theorem open_els {fuel : Nat} {v : Value} {x : DataW H × List MemPlace} (h : DataW.trod enc Tryd.prog w base spare held fuel 22 [v] = some x) :
    ∃ (A : Option Addr) (l : List Q.El) (c : Nat), v = .slice A l.length c ∧ l.length ≤ c ∧ Go.Proofs.YtghlbdemlmbijaaDoorW.PrintWords.Kd.C Q.k38 w A l.length l ∧ weight l ≤ Rows.uptoBulk x.1 := by
  rcases open_slice_fields Tryd.underlying22 Tryd.underlying38 (by kernel_rfl) (by kernel_rfl) h with ⟨hcs, rfl⟩ | ⟨a, len, cap, m, D, Pl, hcs, _, hl, hm, hmm, rfl, hi⟩
  · obtain rfl : v = .slice none 0 0 := by simpa using hcs
    exact ⟨none, [], 0, rfl, Nat.le_refl _, ⟨rfl, by simp, fun h => absurd h (Nat.lt_irrefl 0)⟩, by simp [weight, Rows.uptoBulk]⟩
  · obtain rfl : v = .slice (some a) len cap := by simpa using hcs
    have hE : ∀ i, i < m → ∃ e : Q.El, w.cell? (a.add (i * 2)) = some (.string e.f0) ∧ w.cell? (a.add (i * 2 + 1)) = some (.string e.f1) ∧ D i = .agg [.lit (.string e.f0.data.toList), .lit (.string e.f1.data.toList)] := by
      intro i him
      obtain ⟨ys, n, hD, _, hlen, hf⟩ := hi i him
      obtain ⟨v0, y0, hc0, hy0, ht0⟩ := hf 0 _ rfl
      obtain ⟨v1, y1, hc1, hy1, ht1⟩ := hf 1 _ rfl
      obtain ⟨s0, e0, rfl, _⟩ := DataW.trod_string Tryd.underlying9 ht0
      obtain ⟨s1, e1, rfl, _⟩ := DataW.trod_string Tryd.underlying9 ht1
      obtain rfl : v0 = .string s0 := by simpa using e0
      obtain rfl : v1 = .string s1 := by simpa using e1
      have hlen2 : ys.length = 2 := hlen
      refine ⟨⟨s0, s1⟩, hc0, hc1, ?_⟩
      rw [hD]
      match ys, hlen2, hy0, hy1 with
      | [a0, a1], _, hy0, hy1 =>
        obtain rfl : a0 = _ := Option.some.inj hy0
        obtain rfl : a1 = _ := Option.some.inj hy1
        rfl
    have hlm : len ≤ m := by rw [hmm]; split <;> omega
    let g : Nat → Q.El := fun i => if h : i < m then (hE i h).choose else Q.z38
    have hg : ∀ i, i < m → w.cell? (a.add (i * 2)) = some (.string (g i).f0) ∧ w.cell? (a.add (i * 2 + 1)) = some (.string (g i).f1) ∧ D i = .agg [.lit (.string (g i).f0.data.toList), .lit (.string (g i).f1.data.toList)] := by
      intro i h
      have e : g i = (hE i h).choose := dif_pos h
      rw [e]
      exact (hE i h).choose_spec
    have hlen : ((List.range len).map g).length = len := by simp
    refine ⟨some a, (List.range len).map g, cap, by rw [hlen], by rw [hlen]; exact hl, ⟨rfl, by rw [hlen]; exact Nat.le_trans hl hm, fun _ => ⟨a, rfl, fun j p hp => ⟨[.string p.f0, .string p.f1], rfl, Q.k38_mk w p, ?_⟩⟩⟩, ?_⟩
    · have hj : j < len := by have := (List.getElem?_eq_some_iff.1 hp).1; rw [hlen] at this; exact this
      have hpe : p = g j := by
        have h2 : ((List.range len).map g)[j]? = some (g j) := by simp [hj]
        rw [h2] at hp
        exact (Option.some.inj hp).symm
      subst hpe
      have h3 := hg j (by omega)
      intro i u hu
      match i, hu with
      | 0, hu => obtain rfl := Option.some.inj hu; exact h3.1
      | 1, hu => obtain rfl := Option.some.inj hu; exact h3.2.1
    · have hw : ∀ L : List Nat, (∀ i ∈ L, i < m) → weight (L.map g) ≤ Rows.uptoBulkAll (L.map D) := by
        intro L
        induction L with
        | nil => intro _; exact Nat.le_refl _
        | cons i L ih =>
          intro hL
          have h1 := ih fun k hk => hL k (by simp [hk])
          have h2 := (hg i (hL i (by simp))).2.2
          simp only [List.map_cons, Rows.uptoBulkAll, h2, Rows.uptoBulk, Array.length_toList, weight, List.sum_cons] at h1 ⊢
          have e0 : (g i).f0.data.size = (g i).f0.size := rfl
          have e1 : (g i).f1.data.size = (g i).f1.size := rfl
          omega
      have h4 := hw (List.range len) fun i hi => by have := List.mem_range.1 hi; omega
      simp only [Rows.uptoBulk]
      omega
end
/-- What a list's weight gives the walks. -/
theorem weight_at (l : List Q.El) : ∀ i : Nat, (Q.rd_T38 l i).f0.size + (Q.rd_T38 l i).f1.size ≤ weight l := by
  induction l with
  | nil => intro i; exact Nat.le_refl 0
  | cons x l ih =>
    intro i
    simp only [weight, List.map_cons, List.sum_cons] at ih ⊢
    match i with
    | 0 => simp only [Q.rd_T38, Int.toNat_natCast, List.getD_cons_zero]; omega
    | i + 1 => have := ih i; simp only [Q.rd_T38, Int.toNat_natCast, List.getD_cons_succ] at this ⊢; omega
theorem weight_len (l : List Q.El) : 3 * l.length ≤ weight l := by
  induction l with
  | nil => simp [weight]
  | cons x l ih => simp only [weight, List.map_cons, List.sum_cons, List.length_cons] at ih ⊢; omega
theorem szl (l : List Q.El) (h : weight l ≤ 1048576) : Q.SzL l := by
  have h1 := weight_len l
  exact ⟨by omega, fun i => by have := weight_at l i; omega⟩
end Go.Proofs.YtghlbdemlmbijaaDoor.Els

/- The law Gs1Detects: its row and its card, where what it reads is of bulk at most 1048576. -/
namespace Go.Proofs.YtghlbdemlmbijaaDoor.gs1Detects
open Go.ChangeShapes Go.WideShapes Go.ChangeAt Go.RowKit
open Go.ChangeMaps (open_string shut_string)
set_option linter.unusedVariables false
set_option maxRecDepth 2000000 in
/-- WHAT THE WALK GIVES. -/
theorem contract (H : Type) (enc : TypeId × Value → H) (W : World) (base : Nat) (args : Array Value) (ds gs : List (DataW H)) (before : List MemPlace)
    (hval : ∀ (j : Nat) t v, Tryd.f6.params[j]? = some t → args[j]? = some v → Value.okWide Tryd.prog W .any base t v)
    (hW : DataW.Whole enc Tryd.prog Tryd.f6.params.toList Rows.gs1DetectsSpec.vars false W args.toList ds gs before) (hk : Rows.uptoSmall H (ds ++ gs) = true) (hL : laidMetH Tryd.prog Rows.gs1DetectsRow.laid W) :
    Calls Tryd.prog 6 args W fun e W' => ∃ v, e = .returned v ∧ Rows.gs1DetectsSpec.post enc Tryd.prog Tryd.f6 false true false false W args v W' := by
  have hW' := hW
  obtain ⟨p, q, hA0, hV, rfl, hfz, hnd⟩ := hW
  have hA : DataW.TrodAll enc Tryd.prog W 0 (fun _ => true) true Tryd.f6.params.toList args.toList ds p := hA0
  rw [Tryd.params6] at hA hval
  obtain ⟨v0, vs0, d0, ds0, p0, q0, hargs, rfl, rfl, h0, r0⟩ := trodAll_cons hA
  obtain ⟨v1, vs1, d1, ds1, p1, q1, rfl, rfl, rfl, h1, r1⟩ := trodAll_cons r0
  obtain ⟨v2, vs2, d2, ds2, p2, q2, rfl, rfl, rfl, h2, r2⟩ := trodAll_cons r1
  obtain ⟨rfl, rfl, rfl⟩ := trodAll_nil r2
  obtain rfl : args = #[v0, v1, v2] := by cases args; simp_all
  obtain ⟨rfl, rfl⟩ := trodVars_none hV
  have k0 := h0
  have lt0 : ∀ x ∈ p0, x.block < W.heap.size := by obtain ⟨m, hm⟩ := k0; exact DataW.trod_lt m _ _ _ hm
  obtain ⟨c0, c1, y0, y1, fu, rfl, rfl, rfl, g0, g1⟩ := Go.Joins.open_agg2 Tryd.underlying38 (by kernel_rfl) (by kernel_rfl) (hval 0 38 v0 rfl rfl) h0
  obtain ⟨a0, e0, rfl, _⟩ := DataW.trod_string Tryd.underlying9 g0
  obtain ⟨a1, e1, rfl, _⟩ := DataW.trod_string Tryd.underlying9 g1
  obtain rfl : c0 = .string a0 := by simpa using e0
  obtain rfl : c1 = .string a1 := by simpa using e1
  obtain ⟨n1, rfl, rfl, rfl, w1⟩ := open_int Tryd.underlying5 (hval 1 5 v1 rfl rfl) h1
  obtain ⟨n2, rfl, rfl, rfl, w2⟩ := open_int Tryd.underlying5 (hval 2 5 v2 rfl rfl) h2
  have hb : Rows.uptoBulkAll ([.agg [.lit (.string a0.data.toList), .lit (.string a1.data.toList)], .lit (.int .u8 n1), .lit (.int .u8 n2)] : List (DataW H)) ≤ 1048576 := of_decide_eq_true hk
  simp only [Rows.uptoBulkAll, Rows.uptoBulk, Array.length_toList] at hb
  have hs0 : a0.size < 1073741824 := by have : a0.data.size = a0.size := rfl; omega
  have hs1 : a1.size < 1073741824 := by have : a1.data.size = a1.size := rfl; omega
  have b1 : 0 ≤ n1 ∧ n1 < 256 := by
    have := w1
    simp only [Lit.wf, Bool.and_eq_true, decide_eq_true_iff] at this
    exact ⟨this.1, Int.lt_add_one_of_le this.2⟩
  have b2 : 0 ≤ n2 ∧ n2 < 256 := by
    have := w2
    simp only [Lit.wf, Bool.and_eq_true, decide_eq_true_iff] at this
    exact ⟨this.1, Int.lt_add_one_of_le this.2⟩
  clear hA0
  have walk := Q.detects_calls a0 a1 hs0 hs1 n1 n2 b1 b2 W (Wit.tabs hL)
  refine walk.mono fun e W' ⟨he, hg⟩ => ?_
  subst he
  exact ⟨_, rfl, _, _, _, [], _, [], hW', trodAll_mk1 (shut_bool Tryd.underlying4 _), (trodAll_cons_mk (Below.trod Els.laidOut (by kernel_rfl) (of_decide_eq_true (by kernel_rfl)) k0 hg lt0) (trodAll_cons_mk (shut_int Tryd.underlying5 w1) (trodAll_cons_mk (shut_int Tryd.underlying5 w2) trodAll_mk0))), rfl, hg.frame _, fun h => by cases h⟩
theorem reads (os : Os) {H : Type} (enc : TypeId × Value → H) : ∃ places, DataW.whole enc Tryd.prog ((Wit.laidWorld os).forCall (fun _ _ => 0) ⟨#[], #[.agg #[.string ⟨#[]⟩, .string ⟨#[]⟩], .int .u8 0, .int .u8 0], []⟩).memory Tryd.f6.params.toList Rows.gs1DetectsSpec.vars false #[Value.agg #[.string ⟨#[]⟩, .string ⟨#[]⟩], .int .u8 0, .int .u8 0].toList 8 = some ([.agg [.lit (.string []), .lit (.string [])], .lit (.int .u8 0), .lit (.int .u8 0)], [], places) :=
  ⟨[], by kernel_rfl⟩
set_option maxRecDepth 100000 in
theorem liftedUpto (os : Os) (started : os.Started) (H : Type) (enc : TypeId × Value → H) (F : Stop.Interp) :
    ReturnsInHanded {} Tryd.checked os 6 .any ((Rows.OpenSpec.upto Rows.gs1DetectsSpec).preRow enc Tryd.prog Tryd.f6 Rows.gs1DetectsUptoRow.domain false Rows.gs1DetectsUptoRow.laid) (((Rows.OpenSpec.upto Rows.gs1DetectsSpec).at F).post enc Tryd.prog Tryd.f6 false true false false) := by
  obtain ⟨places, hx⟩ := reads os enc
  refine returnsInHanded_of_row (C := Tryd.checked) (s := Rows.OpenSpec.upto Rows.gs1DetectsSpec) Wit.own started (by kernel_rfl) Tryd.func6
    (witness_row_atRef (enc := enc) (C := Tryd.checked) false (Wit.laidWorld os) #[.agg #[.string ⟨#[]⟩, .string ⟨#[]⟩], .int .u8 0, .int .u8 0] rfl (by kernel_rfl) (by kernel_rfl) (by kernel_rfl)
      (OpenSpec.preRow_of_cond 8 hx (by kernel_rfl) (fun k hk => by cases hk; kernel_rfl) (by kernel_rfl) (Wit.laid_met os _))) ?_
  intro W base args ds gs before hval hW _ hcond _ hL _ _
  exact contract H enc W base args ds gs before hval hW (hcond _ rfl) hL
theorem saidUpto : Rows.Gs1DetectsUptoSaid :=
  OpenClaim.holds_of_cond 6 Tryd.f6 rfl rfl rfl rfl rfl rfl rfl ⟨rfl, rfl, rfl, rfl, rfl⟩ rfl rfl rfl rfl rfl (by kernel_rfl) Tryd.func6 (by kernel_rfl)
    (of_decide_eq_true (by kernel_rfl)) (by unfold Func.isWrapper; first | (rw [if_pos (by decide +kernel)]; kernel_rfl) | (rw [if_neg (by decide +kernel)]; exact ⟨rfl, rfl⟩))
    (fun os started H enc _ F => by rw [OpenClaim.pre_eq_preRow]; exact liftedUpto os started H enc F)
theorem plain (f : FuncId) (fn : Func) (hf : Tryd.pinned.checked.prog.funcNamed "barscan/barscanlaw14.Gs1Detects" = some f) (hfn : Tryd.pinned.checked.prog.funcs[f]? = some fn) :
    false = Tryd.pinned.checked.prog.looks [] ∧ ∀ (j : Nat) t, fn.params[j]? = some t → Tryd.pinned.checked.prog.wantsStandIn t = false := by
  obtain rfl : f = 6 := Option.some.inj ((show Tryd.prog.funcNamed "barscan/barscanlaw14.Gs1Detects" = some 6 by kernel_rfl).symm.trans hf) |>.symm
  obtain rfl : fn = Tryd.f6 := (Option.some.inj (Tryd.func6.symm.trans hfn)).symm
  refine ⟨by kernel_rfl, fun j t ht => ?_⟩
  rw [Tryd.params6] at ht
  obtain rfl | rfl : t = 38 ∨ t = 5 := by simpa using Array.mem_of_getElem? ht
  · exact (show Tryd.prog.wantsStandIn 38 = false by kernel_rfl)
  · exact (show Tryd.prog.wantsStandIn 5 = false by kernel_rfl)
/-- THE CARD. -/
theorem cardUpto : Rows.Gs1DetectsUptoCardSaid :=
  Claim7.holds_tied_plain_at .later [] _ _ _ _ saidUpto (fun _ h => by cases h) (by kernel_rfl) (fun _ h => by cases h) gs1DetectsUpto_row_tie rfl ⟨rfl, rfl⟩ (by kernel_rfl) rfl plain (by kernel_rfl)
end Go.Proofs.YtghlbdemlmbijaaDoor.gs1Detects
