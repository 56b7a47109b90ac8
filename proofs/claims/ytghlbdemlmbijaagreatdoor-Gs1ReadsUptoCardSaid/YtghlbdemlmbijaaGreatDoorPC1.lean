/- Joined by a program of this work (pack.py) out of the texts Tabs, Wit, Bulk, Q0, Qbarscanref14digit, Qbarscanref14digits, Qbarscanref14table, Qbarscanref14Fixed, Pl, GMap, Shelf, GLib, Qgs1checked, Qgs1number, Qgs1text, GForms1 of this seat, in build order. -/
import Derived.Test.YtghlbdemlmbijaaGreatDoorWWords
import Derived.Test.YtghlbdemlmbijaaGreatDoorWLast
import Derived.Test.YtghlbdemlmbijaaGreatDoorWApart
import Derived.Test.YtghlbdemlmbijaaGreatDoorWEqStruct
import Derived.Test.YtghlbdemlmbijaaGreatDoorWFoot
import Derived.Test.YtghlbdemlmbijaaGreatDoorWGuard
import Derived.Test.YtghlbdemlmbijaaGreatDoorWShare
import Derived.Test.YtghlbdemlmbijaaGreatDoorWMore
import Derived.Test.YtghlbdemlmbijaaGreatDoorWRepsOne
import Derived.Test.YtghlbdemlmbijaaGreatDoorWTab
import Derived.Test.YtghlbdemlmbijaaGreatDoorProg
import Derived.Lib.LaidTab
import Derived.Lib.Space
import Derived.Below
import Derived.WalkSmall
import Derived.KernelRfl
import Derived.Test.YtghlbdemlmbijaaGreatDoorCards
import Derived.Test.YtghlbdemlmbijaaGreatDoorTie
import Derived.WalkKit
import Derived.ProofKit
import Derived.OpenShut
import Derived.Deep.DeepHandedRow
import Derived.Deep.DeepWitnessRowRef
import Derived.Lib.LaidU8
import Derived.Test.YtghlbdemlmbijaaGreatDoorRows
import Derived.Deep.Draws
import Derived.Deep.AppendLies
import Derived.Maps.AppendAt
import Derived.OwnWalk
import Derived.Laws.BytesArg
import Derived.Laws.MakeOwn
import Derived.Laws.OwnMore
import Derived.Deep.OwnRows
import Derived.Tactics
import Derived.Lib.ConvBytes
import Derived.Laws.Slices
import Derived.RowKit3
import Derived.Deep.LoopGhost
import Derived.Deep.QuietTactic
import Derived.BigQuiet
import Derived.WideLaws
import Derived.Deep.DeepCutAuto
import Derived.Deep.CutBlock
import Derived.Deep.RegionHeld3
import Derived.Laws.Rows
import Derived.Lib.AppendStr
import Derived.ArgAppend
import Derived.Laws.IdiomCopy
import Derived.OrdersHeld
import Derived.Laws.BitsLemmas
import Derived.RowKit
import Derived.WalkLawsBesides
import Derived.Lib.IndexLaws
import Derived.Lib.Strings
import Derived.Lib.ItoaNum
import Derived.Maps.Own
import Derived.Maps.OwnOps
import Derived.Maps.OwnSet
import Derived.StringKeys
import Derived.Shelf.Strings.Builder1
import Derived.Shelf.Strings.Trim
import Derived.Shelf.Small.Utf8
import Derived.Shelf.Small.Strs
import Derived.Shelf.Strconv.Itoa0
import Derived.Shelf.Strconv.Itoa1
import Derived.Shelf.LaysM
import Derived.Shelf.Strconv.Itoa2
import Derived.Shelf.Strconv.Itoa3
import Derived.Shelf.Strings.Search1
import Derived.Shelf.Strings.Fields
import Derived.Shelf.Unicode.Latin
import Derived.Shelf.Strings.Runes
import Derived.Shelf.Strings.AsciiSet
import Derived.Shelf.Unicode.DecodeSlow
import Derived.Shelf.Unicode.Is16White
import Derived.Shelf.Unicode.IsSpaceAny
import Derived.Shelf.Unicode.Is16Any
import Derived.Shelf.Unicode.Is32Any
import Derived.Shelf.Unicode.ExclAny
import Derived.Shelf.Slices.Turned
import Derived.Shelf.Strings.SlTrimAscii
import Derived.Lib.Hide
/- The library's table of white space, as the program's text lays it: what the walks ask of the world, and that it stays. -/
namespace Go.Proofs.YtghlbdemlmbijaaGreatDoor
open Go.RowKit
/-- The table strings.asciiSpace holds what its initialiser lays. -/
structure Tabs (w : World) : Prop where
  space : Lib.TabIs Tryz.prog w "strings.asciiSpace" .u8 Lib.asciiSpaceTab
theorem gSpace : Tryz.prog.globalNamed "strings.asciiSpace" = some 0 := by kernel_rfl
theorem Tabs.lt {w : World} (h : Tabs w) : 0 < w.heap.size := by
  have h1 := h.space
  unfold Lib.TabIs World.var? at h1
  simp only [gSpace, Option.bind_some] at h1
  rcases Nat.lt_or_ge 0 w.heap.size with h2 | h2
  · exact h2
  · simp [Array.getElem?_eq_none h2] at h1
theorem Tabs.below {w w1 : World} (h : Tabs w) (hb : Below w.heap.size w w1) : Tabs w1 := ⟨var?_below hb gSpace h.lt h.space⟩
/-- A constant string's size. -/
theorem size_lit (l : List UInt8) : (⟨⟨l⟩⟩ : ByteArray).size = l.length := rfl
end Go.Proofs.YtghlbdemlmbijaaGreatDoor

/- What the four rows share: a world that holds the laid variables; what the list gives the walks. -/
namespace Go.Proofs.YtghlbdemlmbijaaGreatDoor.Wit
open Go.RowKit
theorem own : ownKnob Tryz.prog.godebug = none := by kernel_rfl
theorem gSpaceType : (Tryz.prog.globals[0]?).map (·.type) = some 98 := by kernel_rfl
theorem cellsTab : Tryz.prog.cellsOf 98 = 256 := by kernel_rfl
theorem cellsByte : Tryz.prog.cellsOf 5 = 1 := by kernel_rfl
abbrev laidL : List (String × DataW Unit) := [("unicode/utf8.acceptRanges", Rows.laid_unicode_utf8_acceptRanges), ("unicode.White_Space", Rows.laid_unicode_White_Space), ("strings.asciiSpace", Rows.laid_strings_asciiSpace), ("unicode/utf8.first", Rows.laid_unicode_utf8_first)]
set_option maxRecDepth 100000 in
theorem spaceData : (Rows.laid_strings_asciiSpace : DataW Unit) = Lib.tabData .u8 Lib.asciiSpaceTab := by kernel_rfl
theorem pick : (laidL.filter fun x => x.1 == "strings.asciiSpace") = [("strings.asciiSpace", (Rows.laid_strings_asciiSpace : DataW Unit))] := by kernel_rfl
theorem tabs {W : World} (h : laidMetH Tryz.prog laidL W) : Tabs W := by
  have h2 := laidMetH.filter (fun x => x.1 == "strings.asciiSpace") h
  rw [pick, spaceData] at h2
  exact ⟨Lib.tabIs_of_head (rest := []) gSpace gSpaceType Tryz.underlying98 Tryz.underlying5 cellsByte cellsTab h2⟩
/-- A WORLD FOR THE WITNESS: the settled one, the four variables holding what their initialisers lay; the table of white space and its ranges in two blocks of their own. -/
noncomputable def laidWorld (os : Os) : World :=
  let w0 := World.holding Tryz.prog os ⟨#[.cells #[.slice (some ⟨15, 0, none⟩) 7 7, .slice none 0 0, .int .i64 2] 127, .cells (#[(9 : Int), 13, 1, 32, 133, 101, 160, 5760, 5600, 8192, 8202, 1, 8232, 8233, 1, 8239, 8287, 48, 12288, 12288, 1].map fun z => Value.int .u16 z) 130], #[], []⟩
  let put (h : Array Obj) (g : Nat) (cs : Array Value) : Array Obj := h.modify g fun
    | .cells _ t frozen => .cells cs t frozen
    | o => o
  let h1 := put w0.heap 3 (Lib.firstTab.map fun z => Value.int .u8 z).toArray
  let h2 := put h1 4 #[.int .u8 128, .int .u8 191, .int .u8 160, .int .u8 191, .int .u8 128, .int .u8 159, .int .u8 144, .int .u8 191, .int .u8 128, .int .u8 143, .int .u8 0, .int .u8 0, .int .u8 0, .int .u8 0, .int .u8 0, .int .u8 0, .int .u8 0, .int .u8 0, .int .u8 0, .int .u8 0, .int .u8 0, .int .u8 0, .int .u8 0, .int .u8 0, .int .u8 0, .int .u8 0, .int .u8 0, .int .u8 0, .int .u8 0, .int .u8 0, .int .u8 0, .int .u8 0]
  let h3 := put h2 0 (Lib.asciiSpaceTab.map fun z => Value.int .u8 z).toArray
  let h4 := put h3 2 #[.pointer (some ⟨14, 0, none⟩)]
  { w0 with heap := h4 }
theorem settled (os : Os) : (World.settled Tryz.prog os).heap.size = 14 := by kernel_rfl
theorem laid_met (os : Os) (args : Array Value) : laidMet Tryz.prog laidL ((laidWorld os).forCall (fun _ _ => 0) ⟨#[], args, []⟩).memory :=
  laidMet_of_run' 8 (by kernel_rfl) (by kernel_rfl)
end Go.Proofs.YtghlbdemlmbijaaGreatDoor.Wit

/-
  FOR A PROOF OF AN '..UptoSaid': WHAT THE BOUND GIVES. Copy it as <Name>Bulk.lean (put your seat's Name for YtghlbdemlmbijaaGreatDoor, the bound of 'uptoSmall' for 1048576), name it in GOCLAIM.json's 'order' behind <Name>Rows. By an AI agent, Sun Nov 15 2026. No person has read it. No macro, syntax, notation, axiom, sorry.
-/
namespace Go.Proofs.YtghlbdemlmbijaaGreatDoor.bulks

theorem one_le {H : Type} (d : DataW H) : 1 ≤ Rows.uptoBulk d := by
  cases d with
  | lit l => cases l <;> simp [Rows.uptoBulk]
  | nil => simp [Rows.uptoBulk]
  | ptr d => simp [Rows.uptoBulk]
  | slice elems spare => simp [Rows.uptoBulk]
  | agg parts => simp [Rows.uptoBulk]
  | iface t d => simp [Rows.uptoBulk]
  | map entries => simp [Rows.uptoBulk]
  | held h => simp [Rows.uptoBulk]

/-- a part's bulk is at most the whole's -/
theorem part_le {H : Type} {d : DataW H} {l : List (DataW H)} (h : d ∈ l) : Rows.uptoBulk d ≤ Rows.uptoBulkAll l := by
  induction l with
  | nil => cases h
  | cons x r ih =>
    simp only [Rows.uptoBulkAll]
    cases List.mem_cons.1 h with
    | inl e => subst e; omega
    | inr e => have := ih e; omega

theorem append {H : Type} (l r : List (DataW H)) : Rows.uptoBulkAll (l ++ r) = Rows.uptoBulkAll l + Rows.uptoBulkAll r := by
  induction l with
  | nil => simp [Rows.uptoBulkAll]
  | cons x l ih => simp only [List.cons_append, Rows.uptoBulkAll, ih]; omega

/-- so many values at the most -/
theorem length_le {H : Type} (l : List (DataW H)) : l.length ≤ Rows.uptoBulkAll l := by
  induction l with
  | nil => simp [Rows.uptoBulkAll]
  | cons x r ih => have := one_le x; simp only [Rows.uptoBulkAll, List.length_cons]; omega

/-- a slice's places, and what they hold -/
theorem slice_le {H : Type} (elems spare : List (DataW H)) : elems.length + spare.length + 1 ≤ Rows.uptoBulk (.slice elems spare) := by
  have h1 := length_le elems
  have h2 := length_le spare
  simp only [Rows.uptoBulk]
  omega
theorem slice_elems {H : Type} (elems spare : List (DataW H)) : Rows.uptoBulkAll elems + 1 ≤ Rows.uptoBulk (.slice elems spare) := by
  simp only [Rows.uptoBulk]
  omega

/-- a string's letters -/
theorem string_eq {H : Type} (bytes : List UInt8) : Rows.uptoBulk (DataW.lit (H := H) (.string bytes)) = bytes.length + 1 := by
  simp [Rows.uptoBulk]

/-- THE BOUND, as the builder hands it over ('hk') -/
theorem bound {H : Type} {l : List (DataW H)} (hk : Rows.uptoSmall H l = true) : Rows.uptoBulkAll l ≤ 1048576 := by
  simpa [Rows.uptoSmall] using hk

/-- ROOM: a slice of n elements of b bytes, grown by append: below the 2^48 bytes that append, make and a Builder bear. Here n up to 2^21, b up to 4,096: put your own numbers. -/
theorem room {n b : Nat} (hn : n ≤ 2097152) (hb : b ≤ 4096) : (n + n / 4 + 192) * b ≤ 281474976710656 := by
  have h : (n + n / 4 + 192) * b ≤ 2621632 * 4096 := Nat.mul_le_mul (by omega) hb
  omega

end Go.Proofs.YtghlbdemlmbijaaGreatDoor.bulks

namespace Go.Proofs.YtghlbdemlmbijaaGreatDoor.Q
open Go.RowKit Go.Proofs.YtghlbdemlmbijaaGreatDoorW.PrintWords Go.Proofs.YtghlbdemlmbijaaGreatDoorW.PrintLast Go.Proofs.YtghlbdemlmbijaaGreatDoorW.PrintMore

set_option linter.unusedVariables false
set_option linter.unusedSimpArgs false



def errW : Option Int → Value
  | none => .nilIface
  | some c => .iface 0 (.int .i64 c)
theorem errW_none : errW none = .nilIface := rfl
theorem errW_some (c : Int) : errW (some c) = .iface 0 (.int .i64 c) := rfl

theorem info3 : (Tryz.prog.info? 3).map (fun i => (i.zero, i.size, i.bytes)) = some (some (.int .i64 0), 1, 8) := by kernel_rfl
theorem info5 : (Tryz.prog.info? 5).map (fun i => (i.zero, i.size, i.bytes)) = some (some (.int .u8 0), 1, 1) := by kernel_rfl
theorem info23 : (Tryz.prog.info? 23).map (fun i => (i.zero, i.size, i.bytes)) = some (some (.agg #[(.string ⟨#[]⟩), (.string ⟨#[]⟩)]), 2, 32) := by kernel_rfl
-- the values' own types
/-! #### struct type 45 -/
structure S45 where
  f0 : Int
  f1 : Int
  f2 : Bool
  f3 : Bool
  f4 : Bool
def z45 : S45 := ⟨(0 : Int), (0 : Int), false, false, false⟩
def k45 : Kd S45 := Kd.iso (Kd.pair (Kd.int .i64) (Kd.pair (Kd.int .i64) (Kd.pair Kd.bool (Kd.pair Kd.bool Kd.bool)))) (fun x : S45 => (x.f0, x.f1, x.f2, x.f3, x.f4))
theorem k45_heap : Kd.Heap k45 := Kd.heap_iso _ (Kd.heap_pair (Kd.heap_int .i64) (Kd.heap_pair (Kd.heap_int .i64) (Kd.heap_pair Kd.heap_bool (Kd.heap_pair Kd.heap_bool Kd.heap_bool))))
theorem k45_open {w : World} {x : S45} {cs : List Value} (h : k45.K w x cs) : cs = [.int .i64 x.f0, .int .i64 x.f1, .bool x.f2, .bool x.f3, .bool x.f4] := by
  obtain ⟨_, _, rfl, rfl, ⟨_, _, rfl, rfl, ⟨_, _, rfl, rfl, ⟨_, _, rfl, rfl, rfl⟩⟩⟩⟩ := h
  exact rfl
theorem k45_openM {w : World} {base : Nat} {ok : Nat → Prop} {x : S45} {cs : List Value} (h : k45.M w base ok x cs) : cs = [.int .i64 x.f0, .int .i64 x.f1, .bool x.f2, .bool x.f3, .bool x.f4] := by
  obtain ⟨_, _, rfl, rfl, ⟨_, _, rfl, rfl, ⟨_, _, rfl, rfl, ⟨_, _, rfl, rfl, rfl⟩⟩⟩⟩ := h
  exact rfl
theorem k45_mk (w : World) (x : S45)  : k45.K w x [.int .i64 x.f0, .int .i64 x.f1, .bool x.f2, .bool x.f3, .bool x.f4] := ⟨[.int .i64 x.f0], [.int .i64 x.f1, .bool x.f2, .bool x.f3, .bool x.f4], rfl, rfl, ⟨[.int .i64 x.f1], [.bool x.f2, .bool x.f3, .bool x.f4], rfl, rfl, ⟨[.bool x.f2], [.bool x.f3, .bool x.f4], rfl, rfl, ⟨[.bool x.f3], [.bool x.f4], rfl, rfl, rfl⟩⟩⟩⟩
theorem k45_mkM (w : World) (base : Nat) (ok : Nat → Prop) (x : S45)  : k45.M w base ok x [.int .i64 x.f0, .int .i64 x.f1, .bool x.f2, .bool x.f3, .bool x.f4] := ⟨[.int .i64 x.f0], [.int .i64 x.f1, .bool x.f2, .bool x.f3, .bool x.f4], rfl, rfl, ⟨[.int .i64 x.f1], [.bool x.f2, .bool x.f3, .bool x.f4], rfl, rfl, ⟨[.bool x.f2], [.bool x.f3, .bool x.f4], rfl, rfl, ⟨[.bool x.f3], [.bool x.f4], rfl, rfl, rfl⟩⟩⟩⟩
theorem k45_mkF (W : World) (ok : Nat → Prop) (x : S45) : Kd.FK k45 W ok x [.int .i64 x.f0, .int .i64 x.f1, .bool x.f2, .bool x.f3, .bool x.f4] := fun W2 _ => k45_mk W2 x
def rd_T45 (xs : List S45) (i : Int) : S45 := xs.getD i.toNat z45
theorem at_T45 {w : World} {A : Option Addr} {n : Nat} {xs : List S45} (h : Kd.C k45 w A n xs) (i : Int) (h0 : 0 ≤ i) (h1 : i < n) : ∃ ad , A = some ad ∧ w.cell? (ad.add (i.toNat * 5)) = some (.int .i64 (rd_T45 xs i).f0) ∧ w.cell? ⟨(ad.add (i.toNat * 5)).block, (ad.add (i.toNat * 5)).off + 1, none⟩ = some (.int .i64 (rd_T45 xs i).f1) ∧ w.cell? ⟨(ad.add (i.toNat * 5)).block, (ad.add (i.toNat * 5)).off + 2, none⟩ = some (.bool (rd_T45 xs i).f2) ∧ w.cell? ⟨(ad.add (i.toNat * 5)).block, (ad.add (i.toNat * 5)).off + 3, none⟩ = some (.bool (rd_T45 xs i).f3) ∧ w.cell? ⟨(ad.add (i.toNat * 5)).block, (ad.add (i.toNat * 5)).off + 4, none⟩ = some (.bool (rd_T45 xs i).f4) := by
  obtain ⟨ad, c, e, _, hK, hc0⟩ := Kd.C_get h z45 i h0 h1
  have hc : ∀ j u, c[j]? = some u → w.cell? (ad.add (i.toNat * 5 + j)) = some u := hc0
  obtain rfl := k45_open hK
  exact ⟨ad, e, hc 0 _ rfl, by rw [← add_field _ _ 1 (by omega)]; exact hc 1 _ rfl, by rw [← add_field _ _ 2 (by omega)]; exact hc 2 _ rfl, by rw [← add_field _ _ 3 (by omega)]; exact hc 3 _ rfl, by rw [← add_field _ _ 4 (by omega)]; exact hc 4 _ rfl⟩

/-! #### struct type 23 -/
structure S23 where
  f0 : ByteArray
  f1 : ByteArray
def z23 : S23 := ⟨(⟨#[]⟩ : ByteArray), (⟨#[]⟩ : ByteArray)⟩
def k23 : Kd S23 := Kd.iso (Kd.pair Kd.string Kd.string) (fun x : S23 => (x.f0, x.f1))
theorem k23_heap : Kd.Heap k23 := Kd.heap_iso _ (Kd.heap_pair Kd.heap_string Kd.heap_string)
theorem k23_open {w : World} {x : S23} {cs : List Value} (h : k23.K w x cs) : cs = [.string x.f0, .string x.f1] := by
  obtain ⟨_, _, rfl, rfl, rfl⟩ := h
  exact rfl
theorem k23_openM {w : World} {base : Nat} {ok : Nat → Prop} {x : S23} {cs : List Value} (h : k23.M w base ok x cs) : cs = [.string x.f0, .string x.f1] := by
  obtain ⟨_, _, rfl, rfl, rfl⟩ := h
  exact rfl
theorem k23_mk (w : World) (x : S23)  : k23.K w x [.string x.f0, .string x.f1] := ⟨[.string x.f0], [.string x.f1], rfl, rfl, rfl⟩
theorem k23_mkM (w : World) (base : Nat) (ok : Nat → Prop) (x : S23)  : k23.M w base ok x [.string x.f0, .string x.f1] := ⟨[.string x.f0], [.string x.f1], rfl, rfl, rfl⟩
theorem k23_mkF (W : World) (ok : Nat → Prop) (x : S23) : Kd.FK k23 W ok x [.string x.f0, .string x.f1] := fun W2 _ => k23_mk W2 x
def rd_T23 (xs : List S23) (i : Int) : S23 := xs.getD i.toNat z23
theorem at_T23 {w : World} {A : Option Addr} {n : Nat} {xs : List S23} (h : Kd.C k23 w A n xs) (i : Int) (h0 : 0 ≤ i) (h1 : i < n) : ∃ ad , A = some ad ∧ w.cell? (ad.add (i.toNat * 2)) = some (.string (rd_T23 xs i).f0) ∧ w.cell? ⟨(ad.add (i.toNat * 2)).block, (ad.add (i.toNat * 2)).off + 1, none⟩ = some (.string (rd_T23 xs i).f1) := by
  obtain ⟨ad, c, e, _, hK, hc0⟩ := Kd.C_get h z23 i h0 h1
  have hc : ∀ j u, c[j]? = some u → w.cell? (ad.add (i.toNat * 2 + j)) = some u := hc0
  obtain rfl := k23_open hK
  exact ⟨ad, e, hc 0 _ rfl, by rw [← add_field _ _ 1 (by omega)]; exact hc 1 _ rfl⟩

def rd_L6 (xs : List (List S23)) (i : Int) : (List S23) := xs.getD i.toNat ([] : List S23)
theorem at_L6 {w : World} {A : Option Addr} {n : Nat} {xs : List (List S23)} (h : Kd.C (Kd.slice 23 k23) w A n xs) (i : Int) (h0 : 0 ≤ i) (h1 : i < n) : ∃ ad A0 c0, A = some ad ∧ w.cell? (ad.add i.toNat) = some (.slice A0 (rd_L6 xs i).length c0) ∧ (rd_L6 xs i).length ≤ c0 ∧ k23.C w A0 (rd_L6 xs i).length (rd_L6 xs i) := by
  obtain ⟨ad, c, e, _, hK, hc0⟩ := Kd.C_get h ([] : List S23) i h0 h1
  have hc : ∀ j u, c[j]? = some u → w.cell? (ad.add (i.toNat * 1 + j)) = some u := hc0
  obtain ⟨A0, c0, rfl, l0, g0⟩ := hK
  exact ⟨ad, A0, c0, e, by have hq := hc 0 _ rfl; rwa [Nat.mul_one, Nat.add_zero] at hq, l0, g0⟩

def rd_L7 (xs : List (List Int)) (i : Int) : (List Int) := xs.getD i.toNat ([] : List Int)
theorem at_L7 {w : World} {A : Option Addr} {n : Nat} {xs : List (List Int)} (h : Kd.C (Kd.slice 3 (Kd.int .i64)) w A n xs) (i : Int) (h0 : 0 ≤ i) (h1 : i < n) : ∃ ad A0 c0, A = some ad ∧ w.cell? (ad.add i.toNat) = some (.slice A0 (rd_L7 xs i).length c0) ∧ (rd_L7 xs i).length ≤ c0 ∧ (Kd.int .i64).C w A0 (rd_L7 xs i).length (rd_L7 xs i) := by
  obtain ⟨ad, c, e, _, hK, hc0⟩ := Kd.C_get h ([] : List Int) i h0 h1
  have hc : ∀ j u, c[j]? = some u → w.cell? (ad.add (i.toNat * 1 + j)) = some u := hc0
  obtain ⟨A0, c0, rfl, l0, g0⟩ := hK
  exact ⟨ad, A0, c0, e, by have hq := hc 0 _ rfl; rwa [Nat.mul_one, Nat.add_zero] at hq, l0, g0⟩

end Go.Proofs.YtghlbdemlmbijaaGreatDoor.Q

namespace Go.Proofs.YtghlbdemlmbijaaGreatDoor.Q
open Go.RowKit Go.Proofs.YtghlbdemlmbijaaGreatDoorW.PrintWords Go.Proofs.YtghlbdemlmbijaaGreatDoorW.PrintLast Go.Proofs.YtghlbdemlmbijaaGreatDoorW.PrintMore

set_option linter.unusedVariables false
set_option linter.unusedSimpArgs false

/-! ### barscanref14_digit: function 26 -/
def barscanref14_digit.f (a0 : Int) : Option (Bool) := if a0 ≥ 48 then (some (decide (a0 ≤ 57))) else (some false)
set_option maxHeartbeats 8000000 in
set_option maxRecDepth 100000 in
theorem barscanref14_digit.calls (a0 : Int) (r : Bool) (w : World) (h : barscanref14_digit.f a0 = some r) :
  Calls Tryz.prog 26 #[.int .u8 a0] w fun e w' => e = .returned (.bool r) ∧ Drawn0 w w' := by
 have H : (if a0 ≥ 48 then (some (decide (a0 ≤ 57))) else (some false)) = some r := h
 clear h
 by_cases c2 : a0 ≥ 48
 ·rw [if_pos c2] at H
  have c2b0 : decide (48 ≤ a0) = true := decide_eq_true c2
  clear c2
  obtain rfl := Option.some.inj H
  go_enter Tryz.func26, Tryz.ntmps26
  go_wp2
  go_ret
  exact ⟨by first | rfl | (simp; done) | (simp [*]; done), by repeat (first | exact Drawn0.refl _ | apply Drawn0.step)⟩
 ·rw [if_neg c2] at H
  have c2b0 : decide (48 ≤ a0) = false := decide_eq_false c2
  clear c2
  obtain rfl := Option.some.inj H
  go_enter Tryz.func26, Tryz.ntmps26
  go_wp2
  go_ret
  exact ⟨by first | rfl | (simp; done) | (simp [*]; done), by repeat (first | exact Drawn0.refl _ | apply Drawn0.step)⟩

end Go.Proofs.YtghlbdemlmbijaaGreatDoor.Q

namespace Go.Proofs.YtghlbdemlmbijaaGreatDoor.Q
open Go.RowKit Go.Proofs.YtghlbdemlmbijaaGreatDoorW.PrintWords Go.Proofs.YtghlbdemlmbijaaGreatDoorW.PrintLast Go.Proofs.YtghlbdemlmbijaaGreatDoorW.PrintMore

set_option linter.unusedVariables false
set_option linter.unusedSimpArgs false

/-! ### barscanref14_digits: function 47 -/
def barscanref14_digits.l0 : Nat → ByteArray → Int → Option (Bool)
 | 0, _, _ => none
 | k + 1, x0, x3 => if x3 < (x0.size : Int) then (if 0 ≤ x3 then ((barscanref14_digit.f (bt x0 x3)).bind fun t111 => (if t111 = true then (barscanref14_digits.l0 k x0 (wrap64 (x3 + 1))) else (some false))) else (none)) else (some true)
def barscanref14_digits.f (k : Nat) (a0 : ByteArray) : Option (Bool) := barscanref14_digits.l0 k a0 0
theorem barscanref14_digits.mono_l : ∀ k, (∀ y0 y1, LeO (barscanref14_digits.l0 k y0 y1) (barscanref14_digits.l0 (k + 1) y0 y1))
 | 0 => fun _ _ r h => by simp [barscanref14_digits.l0] at h
 | k + 1 => by
  have ih0 := barscanref14_digits.mono_l k
  ·intro y0 y1
   unfold barscanref14_digits.l0
   repeat' first
   | (with_reducible exact ih0 _ _)
   | (with_reducible exact LeO.refl _)
   | (with_reducible exact LeO.none _)
   | (with_reducible refine LeO.ite ?_ ?_)
   | (with_reducible refine LeO.bind ?_ (fun _ => ?_))
   | exact ih0 _ _
   | exact LeO.none _
   | refine LeO.ite ?_ ?_
   | refine LeO.bind ?_ (fun _ => ?_)
theorem barscanref14_digits.mono : ∀ a0 k, LeO (barscanref14_digits.f k a0) (barscanref14_digits.f (k + 1) a0) := by
 intro a0 k
 have ih0 := barscanref14_digits.mono_l k
 unfold barscanref14_digits.f
 repeat' first
   | (with_reducible exact ih0 _ _)
   | (with_reducible exact LeO.refl _)
   | (with_reducible exact LeO.none _)
   | (with_reducible refine LeO.ite ?_ ?_)
   | (with_reducible refine LeO.bind ?_ (fun _ => ?_))
   | exact ih0 _ _
   | exact LeO.none _
   | refine LeO.ite ?_ ?_
   | refine LeO.bind ?_ (fun _ => ?_)
set_option maxHeartbeats 8000000 in
set_option maxRecDepth 100000 in
theorem barscanref14_digits.calls (k : Nat) (a0 : ByteArray) (r : Bool) (w : World) (h : barscanref14_digits.f k a0 = some r) :
  Calls Tryz.prog 47 #[.string a0] w fun e w' => e = .returned (.bool r) ∧ Drawn0 w w' := by
 have H : (barscanref14_digits.l0 k a0 0) = some r := h
 clear h
 have H' := Aside0.mk H
 clear H
 go_enter Tryz.func47, Tryz.ntmps47
 go_wp2
 go_loopg [3] k (fun kq v3 w' => ∃ (x3_1 : Int), v3 = .int .i64 x3_1 ∧ Aside0 (barscanref14_digits.l0 kq a0 x3_1 = some r) ∧ Aside0 (kq ≤ k) ∧ Drawn0 w w')
 case atStart => exact ⟨(0), (by first | rfl | (simp; done) | (simp [*]; done)), H', ⟨Nat.le_refl _⟩, by repeat (first | exact Drawn0.refl _ | apply Drawn0.step)⟩
 case round =>
  clear H'
  obtain ⟨x3_1, rfl, HA, HK1, ⟨m1, rfl⟩⟩ := hrel
  cases gk with
  | zero => exact absurd HA.out (by simp [barscanref14_digits.l0])
  | succ k1 =>
   have H := HA.out
   clear HA
   simp only [barscanref14_digits.l0] at H
   by_cases c2 : x3_1 < (a0.size : Int)
   ·rw [if_pos c2] at H
    have c2b0 : decide (x3_1 < (a0.size : Int)) = true := decide_eq_true c2
    clear c2
    by_cases c3 : 0 ≤ x3_1
    ·rw [if_pos c3] at H
     have c3b0 : decide (0 ≤ x3_1) = true := decide_eq_true c3
     clear c3
     replace H := Option.bind_eq_some_iff.mp H
     obtain ⟨t111, A50, H⟩ := H
     replace H : (if t111 = true then (barscanref14_digits.l0 k1 a0 (wrap64 (x3_1 + 1))) else (some false)) = some r := H
     have A5 := Aside0.mk A50
     clear A50
     by_cases c6 : t111 = true
     ·subst c6
      have H1 : (barscanref14_digits.l0 k1 a0 (wrap64 (x3_1 + 1))) = some r := by rw [if_pos rfl] at H; exact H
      clear H
      have H := H1
      clear H1
      have H' := Aside0.mk H
      clear H
      have p4 : 0 ≤ (x3_1 : Int) := of_decide_eq_true (by first | (with_reducible assumption) | assumption)
      have q4 : x3_1 < (a0.size : Int) := of_decide_eq_true (by first | (with_reducible assumption) | assumption)
      have hx4 := bt_at a0 x3_1
      replace p4 := eq_true p4
      replace q4 := eq_true q4
      go_wp2_with (first | ((with_reducible refine gate_callee (f := 26) rfl ?_); refine goesL_ (some 13) rfl rfl Tryz.func26 (by kernel_rfl) rfl #[.int .u8 (bt a0 x3_1)] rfl (by (try simp only [List.map_toArray, List.map_cons, List.map_nil]); first | done | rfl | (simp only [List.length_drop, List.length_take]; rfl)) ?_; (with_reducible refine (barscanref14_digit.calls (bt a0 x3_1) true _ A5.out).mono ?_); rintro e w' ⟨rfl, ⟨nd, rfl⟩⟩; refine ⟨_, rfl, ?_⟩))
      go_roundg k1
      case measure => have := HK1.out; omega
      case rel => exact ⟨(wrap64 (x3_1 + 1)), (by first | rfl | (simp; done) | (simp [*]; done)), H', ⟨by have := HK1.out; omega⟩, by repeat (first | exact Drawn0.refl _ | apply Drawn0.step)⟩
     ·replace c6 := Bool.eq_false_iff.mpr c6
      subst c6
      have H1 : (some false) = some r := by rw [if_neg (show ¬ (false = true) by decide)] at H; exact H
      clear H
      have H := H1
      clear H1
      obtain rfl := Option.some.inj H
      have p4 : 0 ≤ (x3_1 : Int) := of_decide_eq_true (by first | (with_reducible assumption) | assumption)
      have q4 : x3_1 < (a0.size : Int) := of_decide_eq_true (by first | (with_reducible assumption) | assumption)
      have hx4 := bt_at a0 x3_1
      replace p4 := eq_true p4
      replace q4 := eq_true q4
      go_wp2_with (first | ((with_reducible refine gate_callee (f := 26) rfl ?_); refine goesL_ (some 13) rfl rfl Tryz.func26 (by kernel_rfl) rfl #[.int .u8 (bt a0 x3_1)] rfl (by (try simp only [List.map_toArray, List.map_cons, List.map_nil]); first | done | rfl | (simp only [List.length_drop, List.length_take]; rfl)) ?_; (with_reducible refine (barscanref14_digit.calls (bt a0 x3_1) false _ A5.out).mono ?_); rintro e w' ⟨rfl, ⟨nd, rfl⟩⟩; refine ⟨_, rfl, ?_⟩))
      go_ret
      exact ⟨by first | rfl | (simp; done) | (simp [*]; done), by repeat (first | exact Drawn0.refl _ | apply Drawn0.step)⟩
    ·rw [if_neg c3] at H
     exact absurd H (by simp)
   ·rw [if_neg c2] at H
    have c2b0 : decide (x3_1 < (a0.size : Int)) = false := decide_eq_false c2
    clear c2
    obtain rfl := Option.some.inj H
    go_wp2
    go_ret
    exact ⟨by first | rfl | (simp; done) | (simp [*]; done), by repeat (first | exact Drawn0.refl _ | apply Drawn0.step)⟩

end Go.Proofs.YtghlbdemlmbijaaGreatDoor.Q

namespace Go.Proofs.YtghlbdemlmbijaaGreatDoor.Q
open Go.RowKit Go.Proofs.YtghlbdemlmbijaaGreatDoorW.PrintWords Go.Proofs.YtghlbdemlmbijaaGreatDoorW.PrintLast Go.Proofs.YtghlbdemlmbijaaGreatDoorW.PrintMore

set_option linter.unusedVariables false
set_option linter.unusedSimpArgs false

/-! ### barscanref14_table: function 23 -/
mutual
def barscanref14_table.j0 : Nat → ByteArray → ByteArray → Bool → Option (Int × Int)
 | 0, _, _, _ => none
 | k + 1, x0, x4, x7 => if x7 = true then (some (2, 14)) else (if x4.toList = ([49, 49] : List UInt8) then (barscanref14_table.j1 k x0 x4 (x4.toList == ([49, 49] : List UInt8))) else (if x4.toList = ([49, 50] : List UInt8) then (barscanref14_table.j1 k x0 x4 (x4.toList == ([49, 50] : List UInt8))) else (if x4.toList = ([49, 51] : List UInt8) then (barscanref14_table.j1 k x0 x4 (x4.toList == ([49, 51] : List UInt8))) else (if x4.toList = ([49, 53] : List UInt8) then (barscanref14_table.j1 k x0 x4 (x4.toList == ([49, 53] : List UInt8))) else (if x4.toList = ([49, 54] : List UInt8) then (barscanref14_table.j1 k x0 x4 (x4.toList == ([49, 54] : List UInt8))) else (barscanref14_table.j1 k x0 x4 (x4.toList == ([49, 55] : List UInt8))))))))
def barscanref14_table.j1 : Nat → ByteArray → ByteArray → Bool → Option (Int × Int)
 | 0, _, _, _ => none
 | k + 1, x0, x4, x10 => if x10 = true then (some (3, 6)) else (if x4.toList = ([50, 48] : List UInt8) then (some (1, 2)) else (if x4.toList = ([51, 48] : List UInt8) then (barscanref14_table.j2 k x0 x4 (x4.toList == ([51, 48] : List UInt8))) else (barscanref14_table.j2 k x0 x4 (x4.toList == ([51, 55] : List UInt8)))))
def barscanref14_table.j2 : Nat → ByteArray → ByteArray → Bool → Option (Int × Int)
 | 0, _, _, _ => none
 | k + 1, x0, x4, x19 => if x19 = true then (some (4, 8)) else (if x4.toList = ([49, 48] : List UInt8) then (barscanref14_table.j3 k x0 x4 (x4.toList == ([49, 48] : List UInt8))) else (if x4.toList = ([50, 49] : List UInt8) then (barscanref14_table.j3 k x0 x4 (x4.toList == ([50, 49] : List UInt8))) else (if x4.toList = ([50, 50] : List UInt8) then (barscanref14_table.j3 k x0 x4 (x4.toList == ([50, 50] : List UInt8))) else (barscanref14_table.j3 k x0 x4 (x4.toList == ([50, 53, 52] : List UInt8))))))
def barscanref14_table.j3 : Nat → ByteArray → ByteArray → Bool → Option (Int × Int)
 | 0, _, _, _ => none
 | k + 1, x0, x4, x22 => if x22 = true then (some (5, 20)) else (if x4.toList = ([56, 48, 50, 48] : List UInt8) then (some (5, 25)) else (if x4.toList = ([50, 52, 48] : List UInt8) then (some (5, 30)) else (if x4.toList = ([50, 52, 49] : List UInt8) then (some (5, 30)) else (if x4.toList = ([50, 53, 48] : List UInt8) then (some (5, 30)) else (if x4.toList = ([50, 53, 49] : List UInt8) then (some (5, 30)) else (if x4.toList = ([52, 48, 48] : List UInt8) then (some (5, 30)) else (if x4.toList = ([52, 48, 49] : List UInt8) then (some (5, 30)) else (if x4.toList = ([52, 48, 51] : List UInt8) then (some (5, 30)) else (if x4.toList = ([57, 48] : List UInt8) then (some (5, 30)) else ((barscanref14_digits.f k x0).bind fun t112 => (if t112 = true then (if (x0.size : Int) = 2 then (barscanref14_table.j4 k x0 (!(Op.bytesLess x0.toList ([57, 48] : List UInt8) || x0.toList == ([57, 48] : List UInt8)))) else (barscanref14_table.j4 k x0 false)) else (some (0, 0)))))))))))))
def barscanref14_table.j4 : Nat → ByteArray → Bool → Option (Int × Int)
 | 0, _, _ => none
 | k + 1, x0, x47 => if x47 = true then (some (5, 90)) else (if (x0.size : Int) = 3 then (if ((Op.bytesLess x0.toList ([52, 49, 48] : List UInt8)) = true) then (barscanref14_table.j5 k x0 false) else (barscanref14_table.j5 k x0 (Op.bytesLess x0.toList ([52, 49, 55] : List UInt8) || x0.toList == ([52, 49, 55] : List UInt8)))) else (barscanref14_table.j5 k x0 false))
def barscanref14_table.j5 : Nat → ByteArray → Bool → Option (Int × Int)
 | 0, _, _ => none
 | k + 1, x0, x58 => if x58 = true then (some (2, 13)) else (if (x0.size : Int) = 4 then (if 0 ≤ 3 then (if 3 ≤ (x0.size : Int) then (if (x0.extract 0 3).toList = ([51, 57, 48] : List UInt8) then (barscanref14_table.j6 k x0 true) else (barscanref14_table.j6 k x0 ((x0.extract 0 3).toList == ([51, 57, 50] : List UInt8)))) else (none)) else (none)) else (barscanref14_table.j6 k x0 false))
def barscanref14_table.j6 : Nat → ByteArray → Bool → Option (Int × Int)
 | 0, _, _ => none
 | k + 1, x0, x71 => if x71 = true then (some (4, 15)) else (if (x0.size : Int) = 4 then (if 3 < (x0.size : Int) then (if (bt x0 3) ≤ 53 then (if 0 ≤ 3 then (if 3 ≤ (x0.size : Int) then (if ((Op.bytesLess ((x0.extract 0 3).toList) ([51, 49, 48] : List UInt8)) = true) then (if ((Op.bytesLess ((x0.extract 0 3).toList) ([51, 50, 48] : List UInt8)) = true) then (some (0, 0)) else (if (Op.bytesLess ((x0.extract 0 3).toList) ([51, 51, 55] : List UInt8) || (x0.extract 0 3).toList == ([51, 51, 55] : List UInt8)) = true then (some (1, 6)) else (some (0, 0)))) else (if (Op.bytesLess ((x0.extract 0 3).toList) ([51, 49, 54] : List UInt8) || (x0.extract 0 3).toList == ([51, 49, 54] : List UInt8)) = true then (some (1, 6)) else (if ((Op.bytesLess ((x0.extract 0 3).toList) ([51, 50, 48] : List UInt8)) = true) then (some (0, 0)) else (if (Op.bytesLess ((x0.extract 0 3).toList) ([51, 51, 55] : List UInt8) || (x0.extract 0 3).toList == ([51, 51, 55] : List UInt8)) = true then (some (1, 6)) else (some (0, 0)))))) else (none)) else (none)) else (some (0, 0))) else (none)) else (some (0, 0)))
end
def barscanref14_table.f (k : Nat) (a0 : ByteArray) : Option (Int × Int) := if a0.toList = ([48, 48] : List UInt8) then (some (2, 18)) else (if a0.toList = ([48, 49] : List UInt8) then (barscanref14_table.j0 k a0 a0 (a0.toList == ([48, 49] : List UInt8))) else (barscanref14_table.j0 k a0 a0 (a0.toList == ([48, 50] : List UInt8))))
theorem barscanref14_table.mono_l : ∀ k, (∀ y0 y1 y2, LeO (barscanref14_table.j0 k y0 y1 y2) (barscanref14_table.j0 (k + 1) y0 y1 y2)) ∧ (∀ y0 y1 y2, LeO (barscanref14_table.j1 k y0 y1 y2) (barscanref14_table.j1 (k + 1) y0 y1 y2)) ∧ (∀ y0 y1 y2, LeO (barscanref14_table.j2 k y0 y1 y2) (barscanref14_table.j2 (k + 1) y0 y1 y2)) ∧ (∀ y0 y1 y2, LeO (barscanref14_table.j3 k y0 y1 y2) (barscanref14_table.j3 (k + 1) y0 y1 y2)) ∧ (∀ y0 y1, LeO (barscanref14_table.j4 k y0 y1) (barscanref14_table.j4 (k + 1) y0 y1)) ∧ (∀ y0 y1, LeO (barscanref14_table.j5 k y0 y1) (barscanref14_table.j5 (k + 1) y0 y1)) ∧ (∀ y0 y1, LeO (barscanref14_table.j6 k y0 y1) (barscanref14_table.j6 (k + 1) y0 y1))
 | 0 => ⟨fun _ _ _ r h => by simp [barscanref14_table.j0] at h, fun _ _ _ r h => by simp [barscanref14_table.j1] at h, fun _ _ _ r h => by simp [barscanref14_table.j2] at h, fun _ _ _ r h => by simp [barscanref14_table.j3] at h, fun _ _ r h => by simp [barscanref14_table.j4] at h, fun _ _ r h => by simp [barscanref14_table.j5] at h, fun _ _ r h => by simp [barscanref14_table.j6] at h⟩
 | k + 1 => by
  obtain ⟨ih0, ih1, ih2, ih3, ih4, ih5, ih6⟩ := barscanref14_table.mono_l k
  refine ⟨?_, ?_, ?_, ?_, ?_, ?_, ?_⟩
  ·intro y0 y1 y2
   unfold barscanref14_table.j0
   repeat' first
   | (with_reducible exact ih0 _ _ _)
   | (with_reducible exact ih1 _ _ _)
   | (with_reducible exact ih2 _ _ _)
   | (with_reducible exact ih3 _ _ _)
   | (with_reducible exact ih4 _ _)
   | (with_reducible exact ih5 _ _)
   | (with_reducible exact ih6 _ _)
   | (with_reducible exact barscanref14_digits.mono _ _)
   | (with_reducible exact LeO.refl _)
   | (with_reducible exact LeO.none _)
   | (with_reducible refine LeO.ite ?_ ?_)
   | (with_reducible refine LeO.bind ?_ (fun _ => ?_))
   | exact ih0 _ _ _
   | exact ih1 _ _ _
   | exact ih2 _ _ _
   | exact ih3 _ _ _
   | exact ih4 _ _
   | exact ih5 _ _
   | exact ih6 _ _
   | exact barscanref14_digits.mono _ _
   | exact LeO.none _
   | refine LeO.ite ?_ ?_
   | refine LeO.bind ?_ (fun _ => ?_)
  ·intro y0 y1 y2
   unfold barscanref14_table.j1
   repeat' first
   | (with_reducible exact ih0 _ _ _)
   | (with_reducible exact ih1 _ _ _)
   | (with_reducible exact ih2 _ _ _)
   | (with_reducible exact ih3 _ _ _)
   | (with_reducible exact ih4 _ _)
   | (with_reducible exact ih5 _ _)
   | (with_reducible exact ih6 _ _)
   | (with_reducible exact barscanref14_digits.mono _ _)
   | (with_reducible exact LeO.refl _)
   | (with_reducible exact LeO.none _)
   | (with_reducible refine LeO.ite ?_ ?_)
   | (with_reducible refine LeO.bind ?_ (fun _ => ?_))
   | exact ih0 _ _ _
   | exact ih1 _ _ _
   | exact ih2 _ _ _
   | exact ih3 _ _ _
   | exact ih4 _ _
   | exact ih5 _ _
   | exact ih6 _ _
   | exact barscanref14_digits.mono _ _
   | exact LeO.none _
   | refine LeO.ite ?_ ?_
   | refine LeO.bind ?_ (fun _ => ?_)
  ·intro y0 y1 y2
   unfold barscanref14_table.j2
   repeat' first
   | (with_reducible exact ih0 _ _ _)
   | (with_reducible exact ih1 _ _ _)
   | (with_reducible exact ih2 _ _ _)
   | (with_reducible exact ih3 _ _ _)
   | (with_reducible exact ih4 _ _)
   | (with_reducible exact ih5 _ _)
   | (with_reducible exact ih6 _ _)
   | (with_reducible exact barscanref14_digits.mono _ _)
   | (with_reducible exact LeO.refl _)
   | (with_reducible exact LeO.none _)
   | (with_reducible refine LeO.ite ?_ ?_)
   | (with_reducible refine LeO.bind ?_ (fun _ => ?_))
   | exact ih0 _ _ _
   | exact ih1 _ _ _
   | exact ih2 _ _ _
   | exact ih3 _ _ _
   | exact ih4 _ _
   | exact ih5 _ _
   | exact ih6 _ _
   | exact barscanref14_digits.mono _ _
   | exact LeO.none _
   | refine LeO.ite ?_ ?_
   | refine LeO.bind ?_ (fun _ => ?_)
  ·intro y0 y1 y2
   unfold barscanref14_table.j3
   repeat' first
   | (with_reducible exact ih0 _ _ _)
   | (with_reducible exact ih1 _ _ _)
   | (with_reducible exact ih2 _ _ _)
   | (with_reducible exact ih3 _ _ _)
   | (with_reducible exact ih4 _ _)
   | (with_reducible exact ih5 _ _)
   | (with_reducible exact ih6 _ _)
   | (with_reducible exact barscanref14_digits.mono _ _)
   | (with_reducible exact LeO.refl _)
   | (with_reducible exact LeO.none _)
   | (with_reducible refine LeO.ite ?_ ?_)
   | (with_reducible refine LeO.bind ?_ (fun _ => ?_))
   | exact ih0 _ _ _
   | exact ih1 _ _ _
   | exact ih2 _ _ _
   | exact ih3 _ _ _
   | exact ih4 _ _
   | exact ih5 _ _
   | exact ih6 _ _
   | exact barscanref14_digits.mono _ _
   | exact LeO.none _
   | refine LeO.ite ?_ ?_
   | refine LeO.bind ?_ (fun _ => ?_)
  ·intro y0 y1
   unfold barscanref14_table.j4
   repeat' first
   | (with_reducible exact ih0 _ _ _)
   | (with_reducible exact ih1 _ _ _)
   | (with_reducible exact ih2 _ _ _)
   | (with_reducible exact ih3 _ _ _)
   | (with_reducible exact ih4 _ _)
   | (with_reducible exact ih5 _ _)
   | (with_reducible exact ih6 _ _)
   | (with_reducible exact barscanref14_digits.mono _ _)
   | (with_reducible exact LeO.refl _)
   | (with_reducible exact LeO.none _)
   | (with_reducible refine LeO.ite ?_ ?_)
   | (with_reducible refine LeO.bind ?_ (fun _ => ?_))
   | exact ih0 _ _ _
   | exact ih1 _ _ _
   | exact ih2 _ _ _
   | exact ih3 _ _ _
   | exact ih4 _ _
   | exact ih5 _ _
   | exact ih6 _ _
   | exact barscanref14_digits.mono _ _
   | exact LeO.none _
   | refine LeO.ite ?_ ?_
   | refine LeO.bind ?_ (fun _ => ?_)
  ·intro y0 y1
   unfold barscanref14_table.j5
   repeat' first
   | (with_reducible exact ih0 _ _ _)
   | (with_reducible exact ih1 _ _ _)
   | (with_reducible exact ih2 _ _ _)
   | (with_reducible exact ih3 _ _ _)
   | (with_reducible exact ih4 _ _)
   | (with_reducible exact ih5 _ _)
   | (with_reducible exact ih6 _ _)
   | (with_reducible exact barscanref14_digits.mono _ _)
   | (with_reducible exact LeO.refl _)
   | (with_reducible exact LeO.none _)
   | (with_reducible refine LeO.ite ?_ ?_)
   | (with_reducible refine LeO.bind ?_ (fun _ => ?_))
   | exact ih0 _ _ _
   | exact ih1 _ _ _
   | exact ih2 _ _ _
   | exact ih3 _ _ _
   | exact ih4 _ _
   | exact ih5 _ _
   | exact ih6 _ _
   | exact barscanref14_digits.mono _ _
   | exact LeO.none _
   | refine LeO.ite ?_ ?_
   | refine LeO.bind ?_ (fun _ => ?_)
  ·intro y0 y1
   unfold barscanref14_table.j6
   repeat' first
   | (with_reducible exact ih0 _ _ _)
   | (with_reducible exact ih1 _ _ _)
   | (with_reducible exact ih2 _ _ _)
   | (with_reducible exact ih3 _ _ _)
   | (with_reducible exact ih4 _ _)
   | (with_reducible exact ih5 _ _)
   | (with_reducible exact ih6 _ _)
   | (with_reducible exact barscanref14_digits.mono _ _)
   | (with_reducible exact LeO.refl _)
   | (with_reducible exact LeO.none _)
   | (with_reducible refine LeO.ite ?_ ?_)
   | (with_reducible refine LeO.bind ?_ (fun _ => ?_))
   | exact ih0 _ _ _
   | exact ih1 _ _ _
   | exact ih2 _ _ _
   | exact ih3 _ _ _
   | exact ih4 _ _
   | exact ih5 _ _
   | exact ih6 _ _
   | exact barscanref14_digits.mono _ _
   | exact LeO.none _
   | refine LeO.ite ?_ ?_
   | refine LeO.bind ?_ (fun _ => ?_)
theorem barscanref14_table.mono : ∀ a0 k, LeO (barscanref14_table.f k a0) (barscanref14_table.f (k + 1) a0) := by
 intro a0 k
 obtain ⟨ih0, ih1, ih2, ih3, ih4, ih5, ih6⟩ := barscanref14_table.mono_l k
 unfold barscanref14_table.f
 repeat' first
   | (with_reducible exact ih0 _ _ _)
   | (with_reducible exact ih1 _ _ _)
   | (with_reducible exact ih2 _ _ _)
   | (with_reducible exact ih3 _ _ _)
   | (with_reducible exact ih4 _ _)
   | (with_reducible exact ih5 _ _)
   | (with_reducible exact ih6 _ _)
   | (with_reducible exact barscanref14_digits.mono _ _)
   | (with_reducible exact LeO.refl _)
   | (with_reducible exact LeO.none _)
   | (with_reducible refine LeO.ite ?_ ?_)
   | (with_reducible refine LeO.bind ?_ (fun _ => ?_))
   | exact ih0 _ _ _
   | exact ih1 _ _ _
   | exact ih2 _ _ _
   | exact ih3 _ _ _
   | exact ih4 _ _
   | exact ih5 _ _
   | exact ih6 _ _
   | exact barscanref14_digits.mono _ _
   | exact LeO.none _
   | refine LeO.ite ?_ ?_
   | refine LeO.bind ?_ (fun _ => ?_)
set_option maxHeartbeats 8000000 in
set_option maxRecDepth 100000 in
theorem barscanref14_table.calls (k : Nat) (a0 : ByteArray) (r1 : Int) (r2 : Int) (w : World) (h : barscanref14_table.f k a0 = some (r1, r2)) :
  Calls Tryz.prog 23 #[.string a0] w fun e w' => e = .returned (.tuple #[.int .i64 r1, .int .i64 r2]) ∧ Drawn0 w w' := by
 have H : (if a0.toList = ([48, 48] : List UInt8) then (some (2, 18)) else (if a0.toList = ([48, 49] : List UInt8) then (barscanref14_table.j0 k a0 a0 (a0.toList == ([48, 49] : List UInt8))) else (barscanref14_table.j0 k a0 a0 (a0.toList == ([48, 50] : List UInt8))))) = some (r1, r2) := h
 clear h
 by_cases c2 : a0.toList = ([48, 48] : List UInt8)
 ·rw [if_pos c2] at H
  have c2b0 : (a0.toList == ([48, 48] : List UInt8)) = true := beq_iff_eq.mpr c2
  have c2b1 : (a0.toList != ([48, 48] : List UInt8)) = false := bne_eq_false_iff_eq.mpr c2
  clear c2
  simp only [Option.some.injEq, Prod.mk.injEq] at H
  obtain ⟨rfl, rfl⟩ := H
  go_enter Tryz.func23, Tryz.ntmps23
  go_wp2
  go_ret2
  exact ⟨by first | rfl | (simp; done) | (simp [*]; done), by repeat (first | exact Drawn0.refl _ | apply Drawn0.step)⟩
 ·rw [if_neg c2] at H
  have c2b0 : (a0.toList == ([48, 48] : List UInt8)) = false := beq_eq_false_iff_ne.mpr c2
  have c2b1 : (a0.toList != ([48, 48] : List UInt8)) = true := bne_iff_ne.mpr c2
  have HC3 := Aside0.mk H
  clear H
  go_enter Tryz.func23, Tryz.ntmps23
  go_upto_if 7 with (fail)
  go_cut [7] (fun v7 wc => ∃ (kq : Nat) (x7_2 : Bool), v7 = .bool x7_2 ∧ Aside0 (barscanref14_table.j0 kq a0 a0 x7_2 = some (r1, r2)) ∧ Aside0 (kq ≤ k) ∧ Drawn0 w wc)
  case first =>
   have H := HC3.out
   clear HC3
   by_cases c4 : a0.toList = ([48, 49] : List UInt8)
   ·rw [if_pos c4] at H
    have c4b0 : (a0.toList == ([48, 49] : List UInt8)) = true := beq_iff_eq.mpr c4
    have c4b1 : (a0.toList != ([48, 49] : List UInt8)) = false := bne_eq_false_iff_eq.mpr c4
    clear c4
    (first | rw [c4b0] | (simp only [i64_w, i32_w]; rw [c4b0]) | skip)
    have H' := Aside0.mk H
    clear H
    go_wp2
    go_meet
    case rel => exact ⟨_, ((a0.toList == ([48, 49] : List UInt8))), (by first | rfl | (simp; done) | (simp [*]; done)), H', ⟨by first | omega | exact Nat.le_refl _⟩, by repeat (first | exact Drawn0.refl _ | apply Drawn0.step)⟩
   ·rw [if_neg c4] at H
    have c4b0 : (a0.toList == ([48, 49] : List UInt8)) = false := beq_eq_false_iff_ne.mpr c4
    have c4b1 : (a0.toList != ([48, 49] : List UInt8)) = true := bne_iff_ne.mpr c4
    (first | rw [c4b0] | (simp only [i64_w, i32_w]; rw [c4b0]) | skip)
    have H' := Aside0.mk H
    clear H
    go_wp2
    go_meet
    case rel => exact ⟨_, ((a0.toList == ([48, 50] : List UInt8))), (by first | rfl | (simp; done) | (simp [*]; done)), H', ⟨by first | omega | exact Nat.le_refl _⟩, by repeat (first | exact Drawn0.refl _ | apply Drawn0.step)⟩
  case rest =>
   clear HC3
   obtain ⟨kq, x7_2, rfl, HA, HJ2, ⟨mc2, rfl⟩⟩ := hcut
   cases kq with
   | zero => exact absurd HA.out (by simp [barscanref14_table.j0])
   | succ kj2 =>
    have H := HA.out
    clear HA
    simp only [barscanref14_table.j0] at H
    by_cases c5 : x7_2 = true
    ·subst c5
     have H1 : (some (2, 14)) = some (r1, r2) := by rw [if_pos rfl] at H; exact H
     clear H
     have H := H1
     clear H1
     simp only [Option.some.injEq, Prod.mk.injEq] at H
     obtain ⟨rfl, rfl⟩ := H
     go_wp2
     go_ret2
     exact ⟨by first | rfl | (simp; done) | (simp [*]; done), by repeat (first | exact Drawn0.refl _ | apply Drawn0.step)⟩
    ·replace c5 := Bool.eq_false_iff.mpr c5
     subst c5
     have H1 : (if a0.toList = ([49, 49] : List UInt8) then (barscanref14_table.j1 kj2 a0 a0 (a0.toList == ([49, 49] : List UInt8))) else (if a0.toList = ([49, 50] : List UInt8) then (barscanref14_table.j1 kj2 a0 a0 (a0.toList == ([49, 50] : List UInt8))) else (if a0.toList = ([49, 51] : List UInt8) then (barscanref14_table.j1 kj2 a0 a0 (a0.toList == ([49, 51] : List UInt8))) else (if a0.toList = ([49, 53] : List UInt8) then (barscanref14_table.j1 kj2 a0 a0 (a0.toList == ([49, 53] : List UInt8))) else (if a0.toList = ([49, 54] : List UInt8) then (barscanref14_table.j1 kj2 a0 a0 (a0.toList == ([49, 54] : List UInt8))) else (barscanref14_table.j1 kj2 a0 a0 (a0.toList == ([49, 55] : List UInt8)))))))) = some (r1, r2) := by rw [if_neg (show ¬ (false = true) by decide)] at H; exact H
     clear H
     have H := H1
     clear H1
     have HC6 := Aside0.mk H
     clear H
     go_upto_if 10 with (fail)
     go_cut [10] (fun v10 wc => ∃ (kq : Nat) (x10_5 : Bool), v10 = .bool x10_5 ∧ Aside0 (barscanref14_table.j1 kq a0 a0 x10_5 = some (r1, r2)) ∧ Aside0 (kq ≤ kj2) ∧ Drawn0 w wc)
     case first =>
      have H := HC6.out
      clear HC6
      by_cases c7 : a0.toList = ([49, 49] : List UInt8)
      ·rw [if_pos c7] at H
       have c7b0 : (a0.toList == ([49, 49] : List UInt8)) = true := beq_iff_eq.mpr c7
       have c7b1 : (a0.toList != ([49, 49] : List UInt8)) = false := bne_eq_false_iff_eq.mpr c7
       clear c7
       (first | rw [c7b0] | (simp only [i64_w, i32_w]; rw [c7b0]) | skip)
       have H' := Aside0.mk H
       clear H
       go_wp2
       go_meet
       case rel => exact ⟨_, ((a0.toList == ([49, 49] : List UInt8))), (by first | rfl | (simp; done) | (simp [*]; done)), H', ⟨by have := HJ2.out; first | omega | exact Nat.le_refl _⟩, by repeat (first | exact Drawn0.refl _ | apply Drawn0.step)⟩
      ·rw [if_neg c7] at H
       have c7b0 : (a0.toList == ([49, 49] : List UInt8)) = false := beq_eq_false_iff_ne.mpr c7
       have c7b1 : (a0.toList != ([49, 49] : List UInt8)) = true := bne_iff_ne.mpr c7
       (first | rw [c7b0] | (simp only [i64_w, i32_w]; rw [c7b0]) | skip)
       by_cases c8 : a0.toList = ([49, 50] : List UInt8)
       ·rw [if_pos c8] at H
        have c8b0 : (a0.toList == ([49, 50] : List UInt8)) = true := beq_iff_eq.mpr c8
        have c8b1 : (a0.toList != ([49, 50] : List UInt8)) = false := bne_eq_false_iff_eq.mpr c8
        clear c8
        have H' := Aside0.mk H
        clear H
        go_wp2
        go_meet
        case rel => exact ⟨_, ((a0.toList == ([49, 50] : List UInt8))), (by first | rfl | (simp; done) | (simp [*]; done)), H', ⟨by have := HJ2.out; first | omega | exact Nat.le_refl _⟩, by repeat (first | exact Drawn0.refl _ | apply Drawn0.step)⟩
       ·rw [if_neg c8] at H
        have c8b0 : (a0.toList == ([49, 50] : List UInt8)) = false := beq_eq_false_iff_ne.mpr c8
        have c8b1 : (a0.toList != ([49, 50] : List UInt8)) = true := bne_iff_ne.mpr c8
        by_cases c9 : a0.toList = ([49, 51] : List UInt8)
        ·rw [if_pos c9] at H
         have c9b0 : (a0.toList == ([49, 51] : List UInt8)) = true := beq_iff_eq.mpr c9
         have c9b1 : (a0.toList != ([49, 51] : List UInt8)) = false := bne_eq_false_iff_eq.mpr c9
         clear c9
         have H' := Aside0.mk H
         clear H
         go_wp2
         go_meet
         case rel => exact ⟨_, ((a0.toList == ([49, 51] : List UInt8))), (by first | rfl | (simp; done) | (simp [*]; done)), H', ⟨by have := HJ2.out; first | omega | exact Nat.le_refl _⟩, by repeat (first | exact Drawn0.refl _ | apply Drawn0.step)⟩
        ·rw [if_neg c9] at H
         have c9b0 : (a0.toList == ([49, 51] : List UInt8)) = false := beq_eq_false_iff_ne.mpr c9
         have c9b1 : (a0.toList != ([49, 51] : List UInt8)) = true := bne_iff_ne.mpr c9
         by_cases c10 : a0.toList = ([49, 53] : List UInt8)
         ·rw [if_pos c10] at H
          have c10b0 : (a0.toList == ([49, 53] : List UInt8)) = true := beq_iff_eq.mpr c10
          have c10b1 : (a0.toList != ([49, 53] : List UInt8)) = false := bne_eq_false_iff_eq.mpr c10
          clear c10
          have H' := Aside0.mk H
          clear H
          go_wp2
          go_meet
          case rel => exact ⟨_, ((a0.toList == ([49, 53] : List UInt8))), (by first | rfl | (simp; done) | (simp [*]; done)), H', ⟨by have := HJ2.out; first | omega | exact Nat.le_refl _⟩, by repeat (first | exact Drawn0.refl _ | apply Drawn0.step)⟩
         ·rw [if_neg c10] at H
          have c10b0 : (a0.toList == ([49, 53] : List UInt8)) = false := beq_eq_false_iff_ne.mpr c10
          have c10b1 : (a0.toList != ([49, 53] : List UInt8)) = true := bne_iff_ne.mpr c10
          by_cases c11 : a0.toList = ([49, 54] : List UInt8)
          ·rw [if_pos c11] at H
           have c11b0 : (a0.toList == ([49, 54] : List UInt8)) = true := beq_iff_eq.mpr c11
           have c11b1 : (a0.toList != ([49, 54] : List UInt8)) = false := bne_eq_false_iff_eq.mpr c11
           clear c11
           have H' := Aside0.mk H
           clear H
           go_wp2
           go_meet
           case rel => exact ⟨_, ((a0.toList == ([49, 54] : List UInt8))), (by first | rfl | (simp; done) | (simp [*]; done)), H', ⟨by have := HJ2.out; first | omega | exact Nat.le_refl _⟩, by repeat (first | exact Drawn0.refl _ | apply Drawn0.step)⟩
          ·rw [if_neg c11] at H
           have c11b0 : (a0.toList == ([49, 54] : List UInt8)) = false := beq_eq_false_iff_ne.mpr c11
           have c11b1 : (a0.toList != ([49, 54] : List UInt8)) = true := bne_iff_ne.mpr c11
           have H' := Aside0.mk H
           clear H
           go_wp2
           go_meet
           case rel => exact ⟨_, ((a0.toList == ([49, 55] : List UInt8))), (by first | rfl | (simp; done) | (simp [*]; done)), H', ⟨by have := HJ2.out; first | omega | exact Nat.le_refl _⟩, by repeat (first | exact Drawn0.refl _ | apply Drawn0.step)⟩
     case rest =>
      clear HC6
      obtain ⟨kq, x10_5, rfl, HA, HJ5, ⟨mc5, rfl⟩⟩ := hcut
      cases kq with
      | zero => exact absurd HA.out (by simp [barscanref14_table.j1])
      | succ kj5 =>
       have H := HA.out
       clear HA
       simp only [barscanref14_table.j1] at H
       by_cases c12 : x10_5 = true
       ·subst c12
        have H1 : (some (3, 6)) = some (r1, r2) := by rw [if_pos rfl] at H; exact H
        clear H
        have H := H1
        clear H1
        simp only [Option.some.injEq, Prod.mk.injEq] at H
        obtain ⟨rfl, rfl⟩ := H
        go_wp2
        go_ret2
        exact ⟨by first | rfl | (simp; done) | (simp [*]; done), by repeat (first | exact Drawn0.refl _ | apply Drawn0.step)⟩
       ·replace c12 := Bool.eq_false_iff.mpr c12
        subst c12
        have H1 : (if a0.toList = ([50, 48] : List UInt8) then (some (1, 2)) else (if a0.toList = ([51, 48] : List UInt8) then (barscanref14_table.j2 kj5 a0 a0 (a0.toList == ([51, 48] : List UInt8))) else (barscanref14_table.j2 kj5 a0 a0 (a0.toList == ([51, 55] : List UInt8))))) = some (r1, r2) := by rw [if_neg (show ¬ (false = true) by decide)] at H; exact H
        clear H
        have H := H1
        clear H1
        by_cases c13 : a0.toList = ([50, 48] : List UInt8)
        ·rw [if_pos c13] at H
         have c13b0 : (a0.toList == ([50, 48] : List UInt8)) = true := beq_iff_eq.mpr c13
         have c13b1 : (a0.toList != ([50, 48] : List UInt8)) = false := bne_eq_false_iff_eq.mpr c13
         clear c13
         simp only [Option.some.injEq, Prod.mk.injEq] at H
         obtain ⟨rfl, rfl⟩ := H
         go_wp2
         go_ret2
         exact ⟨by first | rfl | (simp; done) | (simp [*]; done), by repeat (first | exact Drawn0.refl _ | apply Drawn0.step)⟩
        ·rw [if_neg c13] at H
         have c13b0 : (a0.toList == ([50, 48] : List UInt8)) = false := beq_eq_false_iff_ne.mpr c13
         have c13b1 : (a0.toList != ([50, 48] : List UInt8)) = true := bne_iff_ne.mpr c13
         have HC14 := Aside0.mk H
         clear H
         go_upto_if 19 with (fail)
         go_cut [19] (fun v19 wc => ∃ (kq : Nat) (x19_13 : Bool), v19 = .bool x19_13 ∧ Aside0 (barscanref14_table.j2 kq a0 a0 x19_13 = some (r1, r2)) ∧ Aside0 (kq ≤ kj5) ∧ Drawn0 w wc)
         case first =>
          have H := HC14.out
          clear HC14
          by_cases c15 : a0.toList = ([51, 48] : List UInt8)
          ·rw [if_pos c15] at H
           have c15b0 : (a0.toList == ([51, 48] : List UInt8)) = true := beq_iff_eq.mpr c15
           have c15b1 : (a0.toList != ([51, 48] : List UInt8)) = false := bne_eq_false_iff_eq.mpr c15
           clear c15
           (first | rw [c15b0] | (simp only [i64_w, i32_w]; rw [c15b0]) | skip)
           have H' := Aside0.mk H
           clear H
           go_wp2
           go_meet
           case rel => exact ⟨_, ((a0.toList == ([51, 48] : List UInt8))), (by first | rfl | (simp; done) | (simp [*]; done)), H', ⟨by have := HJ2.out; have := HJ5.out; first | omega | exact Nat.le_refl _⟩, by repeat (first | exact Drawn0.refl _ | apply Drawn0.step)⟩
          ·rw [if_neg c15] at H
           have c15b0 : (a0.toList == ([51, 48] : List UInt8)) = false := beq_eq_false_iff_ne.mpr c15
           have c15b1 : (a0.toList != ([51, 48] : List UInt8)) = true := bne_iff_ne.mpr c15
           (first | rw [c15b0] | (simp only [i64_w, i32_w]; rw [c15b0]) | skip)
           have H' := Aside0.mk H
           clear H
           go_wp2
           go_meet
           case rel => exact ⟨_, ((a0.toList == ([51, 55] : List UInt8))), (by first | rfl | (simp; done) | (simp [*]; done)), H', ⟨by have := HJ2.out; have := HJ5.out; first | omega | exact Nat.le_refl _⟩, by repeat (first | exact Drawn0.refl _ | apply Drawn0.step)⟩
         case rest =>
          clear HC14
          obtain ⟨kq, x19_13, rfl, HA, HJ13, ⟨mc13, rfl⟩⟩ := hcut
          cases kq with
          | zero => exact absurd HA.out (by simp [barscanref14_table.j2])
          | succ kj13 =>
           have H := HA.out
           clear HA
           simp only [barscanref14_table.j2] at H
           by_cases c16 : x19_13 = true
           ·subst c16
            have H1 : (some (4, 8)) = some (r1, r2) := by rw [if_pos rfl] at H; exact H
            clear H
            have H := H1
            clear H1
            simp only [Option.some.injEq, Prod.mk.injEq] at H
            obtain ⟨rfl, rfl⟩ := H
            go_wp2
            go_ret2
            exact ⟨by first | rfl | (simp; done) | (simp [*]; done), by repeat (first | exact Drawn0.refl _ | apply Drawn0.step)⟩
           ·replace c16 := Bool.eq_false_iff.mpr c16
            subst c16
            have H1 : (if a0.toList = ([49, 48] : List UInt8) then (barscanref14_table.j3 kj13 a0 a0 (a0.toList == ([49, 48] : List UInt8))) else (if a0.toList = ([50, 49] : List UInt8) then (barscanref14_table.j3 kj13 a0 a0 (a0.toList == ([50, 49] : List UInt8))) else (if a0.toList = ([50, 50] : List UInt8) then (barscanref14_table.j3 kj13 a0 a0 (a0.toList == ([50, 50] : List UInt8))) else (barscanref14_table.j3 kj13 a0 a0 (a0.toList == ([50, 53, 52] : List UInt8)))))) = some (r1, r2) := by rw [if_neg (show ¬ (false = true) by decide)] at H; exact H
            clear H
            have H := H1
            clear H1
            have HC17 := Aside0.mk H
            clear H
            go_upto_if 22 with (fail)
            go_cut [22] (fun v22 wc => ∃ (kq : Nat) (x22_16 : Bool), v22 = .bool x22_16 ∧ Aside0 (barscanref14_table.j3 kq a0 a0 x22_16 = some (r1, r2)) ∧ Aside0 (kq ≤ kj13) ∧ Drawn0 w wc)
            case first =>
             have H := HC17.out
             clear HC17
             by_cases c18 : a0.toList = ([49, 48] : List UInt8)
             ·rw [if_pos c18] at H
              have c18b0 : (a0.toList == ([49, 48] : List UInt8)) = true := beq_iff_eq.mpr c18
              have c18b1 : (a0.toList != ([49, 48] : List UInt8)) = false := bne_eq_false_iff_eq.mpr c18
              clear c18
              (first | rw [c18b0] | (simp only [i64_w, i32_w]; rw [c18b0]) | skip)
              have H' := Aside0.mk H
              clear H
              go_wp2
              go_meet
              case rel => exact ⟨_, ((a0.toList == ([49, 48] : List UInt8))), (by first | rfl | (simp; done) | (simp [*]; done)), H', ⟨by have := HJ2.out; have := HJ5.out; have := HJ13.out; first | omega | exact Nat.le_refl _⟩, by repeat (first | exact Drawn0.refl _ | apply Drawn0.step)⟩
             ·rw [if_neg c18] at H
              have c18b0 : (a0.toList == ([49, 48] : List UInt8)) = false := beq_eq_false_iff_ne.mpr c18
              have c18b1 : (a0.toList != ([49, 48] : List UInt8)) = true := bne_iff_ne.mpr c18
              (first | rw [c18b0] | (simp only [i64_w, i32_w]; rw [c18b0]) | skip)
              by_cases c19 : a0.toList = ([50, 49] : List UInt8)
              ·rw [if_pos c19] at H
               have c19b0 : (a0.toList == ([50, 49] : List UInt8)) = true := beq_iff_eq.mpr c19
               have c19b1 : (a0.toList != ([50, 49] : List UInt8)) = false := bne_eq_false_iff_eq.mpr c19
               clear c19
               have H' := Aside0.mk H
               clear H
               go_wp2
               go_meet
               case rel => exact ⟨_, ((a0.toList == ([50, 49] : List UInt8))), (by first | rfl | (simp; done) | (simp [*]; done)), H', ⟨by have := HJ2.out; have := HJ5.out; have := HJ13.out; first | omega | exact Nat.le_refl _⟩, by repeat (first | exact Drawn0.refl _ | apply Drawn0.step)⟩
              ·rw [if_neg c19] at H
               have c19b0 : (a0.toList == ([50, 49] : List UInt8)) = false := beq_eq_false_iff_ne.mpr c19
               have c19b1 : (a0.toList != ([50, 49] : List UInt8)) = true := bne_iff_ne.mpr c19
               by_cases c20 : a0.toList = ([50, 50] : List UInt8)
               ·rw [if_pos c20] at H
                have c20b0 : (a0.toList == ([50, 50] : List UInt8)) = true := beq_iff_eq.mpr c20
                have c20b1 : (a0.toList != ([50, 50] : List UInt8)) = false := bne_eq_false_iff_eq.mpr c20
                clear c20
                have H' := Aside0.mk H
                clear H
                go_wp2
                go_meet
                case rel => exact ⟨_, ((a0.toList == ([50, 50] : List UInt8))), (by first | rfl | (simp; done) | (simp [*]; done)), H', ⟨by have := HJ2.out; have := HJ5.out; have := HJ13.out; first | omega | exact Nat.le_refl _⟩, by repeat (first | exact Drawn0.refl _ | apply Drawn0.step)⟩
               ·rw [if_neg c20] at H
                have c20b0 : (a0.toList == ([50, 50] : List UInt8)) = false := beq_eq_false_iff_ne.mpr c20
                have c20b1 : (a0.toList != ([50, 50] : List UInt8)) = true := bne_iff_ne.mpr c20
                have H' := Aside0.mk H
                clear H
                go_wp2
                go_meet
                case rel => exact ⟨_, ((a0.toList == ([50, 53, 52] : List UInt8))), (by first | rfl | (simp; done) | (simp [*]; done)), H', ⟨by have := HJ2.out; have := HJ5.out; have := HJ13.out; first | omega | exact Nat.le_refl _⟩, by repeat (first | exact Drawn0.refl _ | apply Drawn0.step)⟩
            case rest =>
             clear HC17
             obtain ⟨kq, x22_16, rfl, HA, HJ16, ⟨mc16, rfl⟩⟩ := hcut
             cases kq with
             | zero => exact absurd HA.out (by simp [barscanref14_table.j3])
             | succ kj16 =>
              have H := HA.out
              clear HA
              simp only [barscanref14_table.j3] at H
              by_cases c21 : x22_16 = true
              ·subst c21
               have H1 : (some (5, 20)) = some (r1, r2) := by rw [if_pos rfl] at H; exact H
               clear H
               have H := H1
               clear H1
               simp only [Option.some.injEq, Prod.mk.injEq] at H
               obtain ⟨rfl, rfl⟩ := H
               go_wp2
               go_ret2
               exact ⟨by first | rfl | (simp; done) | (simp [*]; done), by repeat (first | exact Drawn0.refl _ | apply Drawn0.step)⟩
              ·replace c21 := Bool.eq_false_iff.mpr c21
               subst c21
               have H1 : (if a0.toList = ([56, 48, 50, 48] : List UInt8) then (some (5, 25)) else (if a0.toList = ([50, 52, 48] : List UInt8) then (some (5, 30)) else (if a0.toList = ([50, 52, 49] : List UInt8) then (some (5, 30)) else (if a0.toList = ([50, 53, 48] : List UInt8) then (some (5, 30)) else (if a0.toList = ([50, 53, 49] : List UInt8) then (some (5, 30)) else (if a0.toList = ([52, 48, 48] : List UInt8) then (some (5, 30)) else (if a0.toList = ([52, 48, 49] : List UInt8) then (some (5, 30)) else (if a0.toList = ([52, 48, 51] : List UInt8) then (some (5, 30)) else (if a0.toList = ([57, 48] : List UInt8) then (some (5, 30)) else ((barscanref14_digits.f kj16 a0).bind fun t112 => (if t112 = true then (if (a0.size : Int) = 2 then (barscanref14_table.j4 kj16 a0 (!(Op.bytesLess a0.toList ([57, 48] : List UInt8) || a0.toList == ([57, 48] : List UInt8)))) else (barscanref14_table.j4 kj16 a0 false)) else (some (0, 0))))))))))))) = some (r1, r2) := by rw [if_neg (show ¬ (false = true) by decide)] at H; exact H
               clear H
               have H := H1
               clear H1
               by_cases c22 : a0.toList = ([56, 48, 50, 48] : List UInt8)
               ·rw [if_pos c22] at H
                have c22b0 : (a0.toList == ([56, 48, 50, 48] : List UInt8)) = true := beq_iff_eq.mpr c22
                have c22b1 : (a0.toList != ([56, 48, 50, 48] : List UInt8)) = false := bne_eq_false_iff_eq.mpr c22
                clear c22
                simp only [Option.some.injEq, Prod.mk.injEq] at H
                obtain ⟨rfl, rfl⟩ := H
                go_wp2
                go_ret2
                exact ⟨by first | rfl | (simp; done) | (simp [*]; done), by repeat (first | exact Drawn0.refl _ | apply Drawn0.step)⟩
               ·rw [if_neg c22] at H
                have c22b0 : (a0.toList == ([56, 48, 50, 48] : List UInt8)) = false := beq_eq_false_iff_ne.mpr c22
                have c22b1 : (a0.toList != ([56, 48, 50, 48] : List UInt8)) = true := bne_iff_ne.mpr c22
                by_cases c23 : a0.toList = ([50, 52, 48] : List UInt8)
                ·rw [if_pos c23] at H
                 have c23b0 : (a0.toList == ([50, 52, 48] : List UInt8)) = true := beq_iff_eq.mpr c23
                 have c23b1 : (a0.toList != ([50, 52, 48] : List UInt8)) = false := bne_eq_false_iff_eq.mpr c23
                 clear c23
                 simp only [Option.some.injEq, Prod.mk.injEq] at H
                 obtain ⟨rfl, rfl⟩ := H
                 go_wp2
                 go_ret2
                 exact ⟨by first | rfl | (simp; done) | (simp [*]; done), by repeat (first | exact Drawn0.refl _ | apply Drawn0.step)⟩
                ·rw [if_neg c23] at H
                 have c23b0 : (a0.toList == ([50, 52, 48] : List UInt8)) = false := beq_eq_false_iff_ne.mpr c23
                 have c23b1 : (a0.toList != ([50, 52, 48] : List UInt8)) = true := bne_iff_ne.mpr c23
                 by_cases c24 : a0.toList = ([50, 52, 49] : List UInt8)
                 ·rw [if_pos c24] at H
                  have c24b0 : (a0.toList == ([50, 52, 49] : List UInt8)) = true := beq_iff_eq.mpr c24
                  have c24b1 : (a0.toList != ([50, 52, 49] : List UInt8)) = false := bne_eq_false_iff_eq.mpr c24
                  clear c24
                  simp only [Option.some.injEq, Prod.mk.injEq] at H
                  obtain ⟨rfl, rfl⟩ := H
                  go_wp2
                  go_ret2
                  exact ⟨by first | rfl | (simp; done) | (simp [*]; done), by repeat (first | exact Drawn0.refl _ | apply Drawn0.step)⟩
                 ·rw [if_neg c24] at H
                  have c24b0 : (a0.toList == ([50, 52, 49] : List UInt8)) = false := beq_eq_false_iff_ne.mpr c24
                  have c24b1 : (a0.toList != ([50, 52, 49] : List UInt8)) = true := bne_iff_ne.mpr c24
                  by_cases c25 : a0.toList = ([50, 53, 48] : List UInt8)
                  ·rw [if_pos c25] at H
                   have c25b0 : (a0.toList == ([50, 53, 48] : List UInt8)) = true := beq_iff_eq.mpr c25
                   have c25b1 : (a0.toList != ([50, 53, 48] : List UInt8)) = false := bne_eq_false_iff_eq.mpr c25
                   clear c25
                   simp only [Option.some.injEq, Prod.mk.injEq] at H
                   obtain ⟨rfl, rfl⟩ := H
                   go_wp2
                   go_ret2
                   exact ⟨by first | rfl | (simp; done) | (simp [*]; done), by repeat (first | exact Drawn0.refl _ | apply Drawn0.step)⟩
                  ·rw [if_neg c25] at H
                   have c25b0 : (a0.toList == ([50, 53, 48] : List UInt8)) = false := beq_eq_false_iff_ne.mpr c25
                   have c25b1 : (a0.toList != ([50, 53, 48] : List UInt8)) = true := bne_iff_ne.mpr c25
                   by_cases c26 : a0.toList = ([50, 53, 49] : List UInt8)
                   ·rw [if_pos c26] at H
                    have c26b0 : (a0.toList == ([50, 53, 49] : List UInt8)) = true := beq_iff_eq.mpr c26
                    have c26b1 : (a0.toList != ([50, 53, 49] : List UInt8)) = false := bne_eq_false_iff_eq.mpr c26
                    clear c26
                    simp only [Option.some.injEq, Prod.mk.injEq] at H
                    obtain ⟨rfl, rfl⟩ := H
                    go_wp2
                    go_ret2
                    exact ⟨by first | rfl | (simp; done) | (simp [*]; done), by repeat (first | exact Drawn0.refl _ | apply Drawn0.step)⟩
                   ·rw [if_neg c26] at H
                    have c26b0 : (a0.toList == ([50, 53, 49] : List UInt8)) = false := beq_eq_false_iff_ne.mpr c26
                    have c26b1 : (a0.toList != ([50, 53, 49] : List UInt8)) = true := bne_iff_ne.mpr c26
                    by_cases c27 : a0.toList = ([52, 48, 48] : List UInt8)
                    ·rw [if_pos c27] at H
                     have c27b0 : (a0.toList == ([52, 48, 48] : List UInt8)) = true := beq_iff_eq.mpr c27
                     have c27b1 : (a0.toList != ([52, 48, 48] : List UInt8)) = false := bne_eq_false_iff_eq.mpr c27
                     clear c27
                     simp only [Option.some.injEq, Prod.mk.injEq] at H
                     obtain ⟨rfl, rfl⟩ := H
                     go_wp2
                     go_ret2
                     exact ⟨by first | rfl | (simp; done) | (simp [*]; done), by repeat (first | exact Drawn0.refl _ | apply Drawn0.step)⟩
                    ·rw [if_neg c27] at H
                     have c27b0 : (a0.toList == ([52, 48, 48] : List UInt8)) = false := beq_eq_false_iff_ne.mpr c27
                     have c27b1 : (a0.toList != ([52, 48, 48] : List UInt8)) = true := bne_iff_ne.mpr c27
                     by_cases c28 : a0.toList = ([52, 48, 49] : List UInt8)
                     ·rw [if_pos c28] at H
                      have c28b0 : (a0.toList == ([52, 48, 49] : List UInt8)) = true := beq_iff_eq.mpr c28
                      have c28b1 : (a0.toList != ([52, 48, 49] : List UInt8)) = false := bne_eq_false_iff_eq.mpr c28
                      clear c28
                      simp only [Option.some.injEq, Prod.mk.injEq] at H
                      obtain ⟨rfl, rfl⟩ := H
                      go_wp2
                      go_ret2
                      exact ⟨by first | rfl | (simp; done) | (simp [*]; done), by repeat (first | exact Drawn0.refl _ | apply Drawn0.step)⟩
                     ·rw [if_neg c28] at H
                      have c28b0 : (a0.toList == ([52, 48, 49] : List UInt8)) = false := beq_eq_false_iff_ne.mpr c28
                      have c28b1 : (a0.toList != ([52, 48, 49] : List UInt8)) = true := bne_iff_ne.mpr c28
                      by_cases c29 : a0.toList = ([52, 48, 51] : List UInt8)
                      ·rw [if_pos c29] at H
                       have c29b0 : (a0.toList == ([52, 48, 51] : List UInt8)) = true := beq_iff_eq.mpr c29
                       have c29b1 : (a0.toList != ([52, 48, 51] : List UInt8)) = false := bne_eq_false_iff_eq.mpr c29
                       clear c29
                       simp only [Option.some.injEq, Prod.mk.injEq] at H
                       obtain ⟨rfl, rfl⟩ := H
                       go_wp2
                       go_ret2
                       exact ⟨by first | rfl | (simp; done) | (simp [*]; done), by repeat (first | exact Drawn0.refl _ | apply Drawn0.step)⟩
                      ·rw [if_neg c29] at H
                       have c29b0 : (a0.toList == ([52, 48, 51] : List UInt8)) = false := beq_eq_false_iff_ne.mpr c29
                       have c29b1 : (a0.toList != ([52, 48, 51] : List UInt8)) = true := bne_iff_ne.mpr c29
                       by_cases c30 : a0.toList = ([57, 48] : List UInt8)
                       ·rw [if_pos c30] at H
                        have c30b0 : (a0.toList == ([57, 48] : List UInt8)) = true := beq_iff_eq.mpr c30
                        have c30b1 : (a0.toList != ([57, 48] : List UInt8)) = false := bne_eq_false_iff_eq.mpr c30
                        clear c30
                        simp only [Option.some.injEq, Prod.mk.injEq] at H
                        obtain ⟨rfl, rfl⟩ := H
                        go_wp2
                        go_ret2
                        exact ⟨by first | rfl | (simp; done) | (simp [*]; done), by repeat (first | exact Drawn0.refl _ | apply Drawn0.step)⟩
                       ·rw [if_neg c30] at H
                        have c30b0 : (a0.toList == ([57, 48] : List UInt8)) = false := beq_eq_false_iff_ne.mpr c30
                        have c30b1 : (a0.toList != ([57, 48] : List UInt8)) = true := bne_iff_ne.mpr c30
                        replace H := Option.bind_eq_some_iff.mp H
                        obtain ⟨t112, A310, H⟩ := H
                        replace H : (if t112 = true then (if (a0.size : Int) = 2 then (barscanref14_table.j4 kj16 a0 (!(Op.bytesLess a0.toList ([57, 48] : List UInt8) || a0.toList == ([57, 48] : List UInt8)))) else (barscanref14_table.j4 kj16 a0 false)) else (some (0, 0))) = some (r1, r2) := H
                        have A31 := Aside0.mk A310
                        clear A310
                        by_cases c32 : t112 = true
                        ·subst c32
                         have H1 : (if (a0.size : Int) = 2 then (barscanref14_table.j4 kj16 a0 (!(Op.bytesLess a0.toList ([57, 48] : List UInt8) || a0.toList == ([57, 48] : List UInt8)))) else (barscanref14_table.j4 kj16 a0 false)) = some (r1, r2) := by rw [if_pos rfl] at H; exact H
                         clear H
                         have H := H1
                         clear H1
                         have HC33 := Aside0.mk H
                         clear H
                         go_upto_region 37 with (first | ((with_reducible refine gate_callee (f := 47) rfl ?_); refine goesL_ (some 39) rfl rfl Tryz.func47 (by kernel_rfl) rfl #[.string a0] rfl (by (try simp only [List.map_toArray, List.map_cons, List.map_nil]); first | done | rfl | (simp only [List.length_drop, List.length_take]; rfl)) ?_; (with_reducible refine (barscanref14_digits.calls kj16 a0 true _ A31.out).mono ?_); rintro e w' ⟨rfl, ⟨nd, rfl⟩⟩; refine ⟨_, rfl, ?_⟩))
                         (try simp only [Act.put, List.setIfInBounds_toArray, List.set_cons_zero, List.set_cons_succ])
                         go_cut [47] (fun v47 wc => ∃ (kq : Nat) (x47_32 : Bool), v47 = .bool x47_32 ∧ Aside0 (barscanref14_table.j4 kq a0 x47_32 = some (r1, r2)) ∧ Aside0 (kq ≤ kj16) ∧ Drawn0 w wc)
                         case first =>
                          have H := HC33.out
                          clear HC33
                          by_cases c34 : (a0.size : Int) = 2
                          ·rw [if_pos c34] at H
                           have c34b0 : ((a0.size : Int) == 2) = true := beq_iff_eq.mpr c34
                           have c34b1 : ((a0.size : Int) != 2) = false := bne_eq_false_iff_eq.mpr c34
                           clear c34
                           (first | rw [c34b0] | (simp only [i64_w, i32_w]; rw [c34b0]) | skip)
                           have H' := Aside0.mk H
                           clear H
                           go_wp2
                           go_meet
                           case rel => exact ⟨_, ((!(Op.bytesLess a0.toList ([57, 48] : List UInt8) || a0.toList == ([57, 48] : List UInt8)))), (by first | rfl | (simp; done) | (simp [*]; done)), H', ⟨by have := HJ2.out; have := HJ5.out; have := HJ13.out; have := HJ16.out; first | omega | exact Nat.le_refl _⟩, by repeat (first | exact Drawn0.refl _ | apply Drawn0.step)⟩
                          ·rw [if_neg c34] at H
                           have c34b0 : ((a0.size : Int) == 2) = false := beq_eq_false_iff_ne.mpr c34
                           have c34b1 : ((a0.size : Int) != 2) = true := bne_iff_ne.mpr c34
                           (first | rw [c34b0] | (simp only [i64_w, i32_w]; rw [c34b0]) | skip)
                           have H' := Aside0.mk H
                           clear H
                           go_wp2
                           go_meet
                           case rel => exact ⟨_, (false), (by first | rfl | (simp; done) | (simp [*]; done)), H', ⟨by have := HJ2.out; have := HJ5.out; have := HJ13.out; have := HJ16.out; first | omega | exact Nat.le_refl _⟩, by repeat (first | exact Drawn0.refl _ | apply Drawn0.step)⟩
                         case rest =>
                          clear HC33
                          obtain ⟨kq, x47_32, rfl, HA, HJ32, ⟨mc32, rfl⟩⟩ := hcut
                          cases kq with
                          | zero => exact absurd HA.out (by simp [barscanref14_table.j4])
                          | succ kj32 =>
                           have H := HA.out
                           clear HA
                           simp only [barscanref14_table.j4] at H
                           by_cases c35 : x47_32 = true
                           ·subst c35
                            have H1 : (some (5, 90)) = some (r1, r2) := by rw [if_pos rfl] at H; exact H
                            clear H
                            have H := H1
                            clear H1
                            simp only [Option.some.injEq, Prod.mk.injEq] at H
                            obtain ⟨rfl, rfl⟩ := H
                            go_wp2
                            go_ret2
                            exact ⟨by first | rfl | (simp; done) | (simp [*]; done), by repeat (first | exact Drawn0.refl _ | apply Drawn0.step)⟩
                           ·replace c35 := Bool.eq_false_iff.mpr c35
                            subst c35
                            have H1 : (if (a0.size : Int) = 3 then (if ((Op.bytesLess a0.toList ([52, 49, 48] : List UInt8)) = true) then (barscanref14_table.j5 kj32 a0 false) else (barscanref14_table.j5 kj32 a0 (Op.bytesLess a0.toList ([52, 49, 55] : List UInt8) || a0.toList == ([52, 49, 55] : List UInt8)))) else (barscanref14_table.j5 kj32 a0 false)) = some (r1, r2) := by rw [if_neg (show ¬ (false = true) by decide)] at H; exact H
                            clear H
                            have H := H1
                            clear H1
                            have HC36 := Aside0.mk H
                            clear H
                            go_upto_region 39 with (fail)
                            go_cut [58] (fun v58 wc => ∃ (kq : Nat) (x58_35 : Bool), v58 = .bool x58_35 ∧ Aside0 (barscanref14_table.j5 kq a0 x58_35 = some (r1, r2)) ∧ Aside0 (kq ≤ kj32) ∧ Drawn0 w wc)
                            case first =>
                             have H := HC36.out
                             clear HC36
                             by_cases c37 : (a0.size : Int) = 3
                             ·rw [if_pos c37] at H
                              have c37b0 : ((a0.size : Int) == 3) = true := beq_iff_eq.mpr c37
                              have c37b1 : ((a0.size : Int) != 3) = false := bne_eq_false_iff_eq.mpr c37
                              clear c37
                              (first | rw [c37b0] | (simp only [i64_w, i32_w]; rw [c37b0]) | skip)
                              by_cases c38 : ((Op.bytesLess a0.toList ([52, 49, 48] : List UInt8)) = true)
                              ·rw [if_pos c38] at H
                               have c38b0 : (Op.bytesLess a0.toList ([52, 49, 48] : List UInt8)) = true := c38
                               clear c38
                               have H' := Aside0.mk H
                               clear H
                               go_wp2
                               go_meet
                               case rel => exact ⟨_, (false), (by first | rfl | (simp; done) | (simp [*]; done)), H', ⟨by have := HJ2.out; have := HJ5.out; have := HJ13.out; have := HJ16.out; have := HJ32.out; first | omega | exact Nat.le_refl _⟩, by repeat (first | exact Drawn0.refl _ | apply Drawn0.step)⟩
                              ·rw [if_neg c38] at H
                               have c38b0 : (Op.bytesLess a0.toList ([52, 49, 48] : List UInt8)) = false := by simpa using c38
                               clear c38
                               have H' := Aside0.mk H
                               clear H
                               go_wp2
                               go_meet
                               case rel => exact ⟨_, ((Op.bytesLess a0.toList ([52, 49, 55] : List UInt8) || a0.toList == ([52, 49, 55] : List UInt8))), (by first | rfl | (simp; done) | (simp [*]; done)), H', ⟨by have := HJ2.out; have := HJ5.out; have := HJ13.out; have := HJ16.out; have := HJ32.out; first | omega | exact Nat.le_refl _⟩, by repeat (first | exact Drawn0.refl _ | apply Drawn0.step)⟩
                             ·rw [if_neg c37] at H
                              have c37b0 : ((a0.size : Int) == 3) = false := beq_eq_false_iff_ne.mpr c37
                              have c37b1 : ((a0.size : Int) != 3) = true := bne_iff_ne.mpr c37
                              (first | rw [c37b0] | (simp only [i64_w, i32_w]; rw [c37b0]) | skip)
                              have H' := Aside0.mk H
                              clear H
                              go_wp2
                              go_meet
                              case rel => exact ⟨_, (false), (by first | rfl | (simp; done) | (simp [*]; done)), H', ⟨by have := HJ2.out; have := HJ5.out; have := HJ13.out; have := HJ16.out; have := HJ32.out; first | omega | exact Nat.le_refl _⟩, by repeat (first | exact Drawn0.refl _ | apply Drawn0.step)⟩
                            case rest =>
                             clear HC36
                             obtain ⟨kq, x58_35, rfl, HA, HJ35, ⟨mc35, rfl⟩⟩ := hcut
                             cases kq with
                             | zero => exact absurd HA.out (by simp [barscanref14_table.j5])
                             | succ kj35 =>
                              have H := HA.out
                              clear HA
                              simp only [barscanref14_table.j5] at H
                              by_cases c39 : x58_35 = true
                              ·subst c39
                               have H1 : (some (2, 13)) = some (r1, r2) := by rw [if_pos rfl] at H; exact H
                               clear H
                               have H := H1
                               clear H1
                               simp only [Option.some.injEq, Prod.mk.injEq] at H
                               obtain ⟨rfl, rfl⟩ := H
                               go_wp2
                               go_ret2
                               exact ⟨by first | rfl | (simp; done) | (simp [*]; done), by repeat (first | exact Drawn0.refl _ | apply Drawn0.step)⟩
                              ·replace c39 := Bool.eq_false_iff.mpr c39
                               subst c39
                               have H1 : (if (a0.size : Int) = 4 then (if 0 ≤ 3 then (if 3 ≤ (a0.size : Int) then (if (a0.extract 0 3).toList = ([51, 57, 48] : List UInt8) then (barscanref14_table.j6 kj35 a0 true) else (barscanref14_table.j6 kj35 a0 ((a0.extract 0 3).toList == ([51, 57, 50] : List UInt8)))) else (none)) else (none)) else (barscanref14_table.j6 kj35 a0 false)) = some (r1, r2) := by rw [if_neg (show ¬ (false = true) by decide)] at H; exact H
                               clear H
                               have H := H1
                               clear H1
                               have HC40 := Aside0.mk H
                               clear H
                               go_upto_region 41 with (fail)
                               go_cut [71] (fun v71 wc => ∃ (kq : Nat) (x71_39 : Bool), v71 = .bool x71_39 ∧ Aside0 (barscanref14_table.j6 kq a0 x71_39 = some (r1, r2)) ∧ Aside0 (kq ≤ kj35) ∧ Drawn0 w wc)
                               case first =>
                                have H := HC40.out
                                clear HC40
                                by_cases c41 : (a0.size : Int) = 4
                                ·rw [if_pos c41] at H
                                 have c41b0 : ((a0.size : Int) == 4) = true := beq_iff_eq.mpr c41
                                 have c41b1 : ((a0.size : Int) != 4) = false := bne_eq_false_iff_eq.mpr c41
                                 clear c41
                                 (first | rw [c41b0] | (simp only [i64_w, i32_w]; rw [c41b0]) | skip)
                                 by_cases c42 : 0 ≤ 3
                                 ·rw [if_pos c42] at H
                                  have c42b0 := eq_true c42
                                  have c42b1 : decide (0 ≤ 3) = true := decide_eq_true c42
                                  clear c42
                                  by_cases c43 : 3 ≤ (a0.size : Int)
                                  ·rw [if_pos c43] at H
                                   have c43b0 := eq_true c43
                                   have c43b1 : decide (3 ≤ (a0.size : Int)) = true := decide_eq_true c43
                                   clear c43
                                   by_cases c44 : (a0.extract 0 3).toList = ([51, 57, 48] : List UInt8)
                                   ·rw [if_pos c44] at H
                                    have c44b0 : ((a0.extract 0 3).toList == ([51, 57, 48] : List UInt8)) = true := beq_iff_eq.mpr c44
                                    have c44b1 : ((a0.extract 0 3).toList != ([51, 57, 48] : List UInt8)) = false := bne_eq_false_iff_eq.mpr c44
                                    clear c44
                                    have H' := Aside0.mk H
                                    clear H
                                    go_wp2
                                    go_meet
                                    case rel => exact ⟨_, (true), (by first | rfl | (simp; done) | (simp [*]; done)), H', ⟨by have := HJ2.out; have := HJ5.out; have := HJ13.out; have := HJ16.out; have := HJ32.out; have := HJ35.out; first | omega | exact Nat.le_refl _⟩, by repeat (first | exact Drawn0.refl _ | apply Drawn0.step)⟩
                                   ·rw [if_neg c44] at H
                                    have c44b0 : ((a0.extract 0 3).toList == ([51, 57, 48] : List UInt8)) = false := beq_eq_false_iff_ne.mpr c44
                                    have c44b1 : ((a0.extract 0 3).toList != ([51, 57, 48] : List UInt8)) = true := bne_iff_ne.mpr c44
                                    have c45b0 := eq_true (of_decide_eq_true (by first | (with_reducible assumption) | assumption) : 0 ≤ 3)
                                    have c46b0 := eq_true (of_decide_eq_true (by first | (with_reducible assumption) | assumption) : 3 ≤ (a0.size : Int))
                                    have H' := Aside0.mk H
                                    clear H
                                    go_wp2
                                    go_meet
                                    case rel => exact ⟨_, (((a0.extract 0 3).toList == ([51, 57, 50] : List UInt8))), (by first | rfl | (simp; done) | (simp [*]; done)), H', ⟨by have := HJ2.out; have := HJ5.out; have := HJ13.out; have := HJ16.out; have := HJ32.out; have := HJ35.out; first | omega | exact Nat.le_refl _⟩, by repeat (first | exact Drawn0.refl _ | apply Drawn0.step)⟩
                                  ·rw [if_neg c43] at H
                                   exact absurd H (by simp)
                                 ·rw [if_neg c42] at H
                                  exact absurd H (by simp)
                                ·rw [if_neg c41] at H
                                 have c41b0 : ((a0.size : Int) == 4) = false := beq_eq_false_iff_ne.mpr c41
                                 have c41b1 : ((a0.size : Int) != 4) = true := bne_iff_ne.mpr c41
                                 (first | rw [c41b0] | (simp only [i64_w, i32_w]; rw [c41b0]) | skip)
                                 have H' := Aside0.mk H
                                 clear H
                                 go_wp2
                                 go_meet
                                 case rel => exact ⟨_, (false), (by first | rfl | (simp; done) | (simp [*]; done)), H', ⟨by have := HJ2.out; have := HJ5.out; have := HJ13.out; have := HJ16.out; have := HJ32.out; have := HJ35.out; first | omega | exact Nat.le_refl _⟩, by repeat (first | exact Drawn0.refl _ | apply Drawn0.step)⟩
                               case rest =>
                                clear HC40
                                obtain ⟨kq, x71_39, rfl, HA, HJ39, ⟨mc39, rfl⟩⟩ := hcut
                                cases kq with
                                | zero => exact absurd HA.out (by simp [barscanref14_table.j6])
                                | succ kj39 =>
                                 have H := HA.out
                                 clear HA
                                 simp only [barscanref14_table.j6] at H
                                 by_cases c47 : x71_39 = true
                                 ·subst c47
                                  have H1 : (some (4, 15)) = some (r1, r2) := by rw [if_pos rfl] at H; exact H
                                  clear H
                                  have H := H1
                                  clear H1
                                  simp only [Option.some.injEq, Prod.mk.injEq] at H
                                  obtain ⟨rfl, rfl⟩ := H
                                  go_wp2
                                  go_ret2
                                  exact ⟨by first | rfl | (simp; done) | (simp [*]; done), by repeat (first | exact Drawn0.refl _ | apply Drawn0.step)⟩
                                 ·replace c47 := Bool.eq_false_iff.mpr c47
                                  subst c47
                                  have H1 : (if (a0.size : Int) = 4 then (if 3 < (a0.size : Int) then (if (bt a0 3) ≤ 53 then (if 0 ≤ 3 then (if 3 ≤ (a0.size : Int) then (if ((Op.bytesLess ((a0.extract 0 3).toList) ([51, 49, 48] : List UInt8)) = true) then (if ((Op.bytesLess ((a0.extract 0 3).toList) ([51, 50, 48] : List UInt8)) = true) then (some (0, 0)) else (if (Op.bytesLess ((a0.extract 0 3).toList) ([51, 51, 55] : List UInt8) || (a0.extract 0 3).toList == ([51, 51, 55] : List UInt8)) = true then (some (1, 6)) else (some (0, 0)))) else (if (Op.bytesLess ((a0.extract 0 3).toList) ([51, 49, 54] : List UInt8) || (a0.extract 0 3).toList == ([51, 49, 54] : List UInt8)) = true then (some (1, 6)) else (if ((Op.bytesLess ((a0.extract 0 3).toList) ([51, 50, 48] : List UInt8)) = true) then (some (0, 0)) else (if (Op.bytesLess ((a0.extract 0 3).toList) ([51, 51, 55] : List UInt8) || (a0.extract 0 3).toList == ([51, 51, 55] : List UInt8)) = true then (some (1, 6)) else (some (0, 0)))))) else (none)) else (none)) else (some (0, 0))) else (none)) else (some (0, 0))) = some (r1, r2) := by rw [if_neg (show ¬ (false = true) by decide)] at H; exact H
                                  clear H
                                  have H := H1
                                  clear H1
                                  by_cases c48 : (a0.size : Int) = 4
                                  ·rw [if_pos c48] at H
                                   have c48b0 : ((a0.size : Int) == 4) = true := beq_iff_eq.mpr c48
                                   have c48b1 : ((a0.size : Int) != 4) = false := bne_eq_false_iff_eq.mpr c48
                                   clear c48
                                   by_cases c49 : 3 < (a0.size : Int)
                                   ·rw [if_pos c49] at H
                                    have c49b0 : decide (3 < (a0.size : Int)) = true := decide_eq_true c49
                                    have c49b1 : decide (3 < a0.size) = true := decide_eq_true (by omega)
                                    clear c49
                                    by_cases c51 : (bt a0 3) ≤ 53
                                    ·rw [if_pos c51] at H
                                     have c51b0 : decide ((bt a0 3) ≤ 53) = true := decide_eq_true c51
                                     clear c51
                                     by_cases c52 : 0 ≤ 3
                                     ·rw [if_pos c52] at H
                                      have c52b0 := eq_true c52
                                      have c52b1 : decide (0 ≤ 3) = true := decide_eq_true c52
                                      clear c52
                                      by_cases c53 : 3 ≤ (a0.size : Int)
                                      ·rw [if_pos c53] at H
                                       have c53b0 := eq_true c53
                                       have c53b1 : decide (3 ≤ (a0.size : Int)) = true := decide_eq_true c53
                                       clear c53
                                       by_cases c54 : ((Op.bytesLess ((a0.extract 0 3).toList) ([51, 49, 48] : List UInt8)) = true)
                                       ·rw [if_pos c54] at H
                                        have c54b0 : (Op.bytesLess ((a0.extract 0 3).toList) ([51, 49, 48] : List UInt8)) = true := c54
                                        clear c54
                                        have c55b0 := eq_true (of_decide_eq_true (by first | (with_reducible assumption) | assumption) : 0 ≤ 3)
                                        have c56b0 := eq_true (of_decide_eq_true (by first | (with_reducible assumption) | assumption) : 3 ≤ (a0.size : Int))
                                        by_cases c57 : ((Op.bytesLess ((a0.extract 0 3).toList) ([51, 50, 48] : List UInt8)) = true)
                                        ·rw [if_pos c57] at H
                                         have c57b0 : (Op.bytesLess ((a0.extract 0 3).toList) ([51, 50, 48] : List UInt8)) = true := c57
                                         clear c57
                                         simp only [Option.some.injEq, Prod.mk.injEq] at H
                                         obtain ⟨rfl, rfl⟩ := H
                                         have p50 : 0 ≤ (3 : Int) := (by omega)
                                         have q50 : 3 < a0.size := (by have : (3 : Int) < (a0.size : Int) := of_decide_eq_true (by first | (with_reducible assumption) | assumption); omega)
                                         have hx50 : ∀ h : 3 < a0.size, ((a0[3]'h).toNat : Int) = bt a0 3 := bt_at a0 3
                                         clear p50
                                         have qi50 : (3 < (a0.size : Int)) = True := eq_true (of_decide_eq_true (by first | (with_reducible assumption) | assumption))
                                         replace q50 := eq_true q50
                                         go_wp2
                                         go_ret2
                                         exact ⟨by first | rfl | (simp; done) | (simp [*]; done), by repeat (first | exact Drawn0.refl _ | apply Drawn0.step)⟩
                                        ·rw [if_neg c57] at H
                                         have c57b0 : (Op.bytesLess ((a0.extract 0 3).toList) ([51, 50, 48] : List UInt8)) = false := by simpa using c57
                                         clear c57
                                         have c58b0 := eq_true (of_decide_eq_true (by first | (with_reducible assumption) | assumption) : 0 ≤ 3)
                                         have c59b0 := eq_true (of_decide_eq_true (by first | (with_reducible assumption) | assumption) : 3 ≤ (a0.size : Int))
                                         by_cases c60 : (Op.bytesLess ((a0.extract 0 3).toList) ([51, 51, 55] : List UInt8) || (a0.extract 0 3).toList == ([51, 51, 55] : List UInt8)) = true
                                         ·rw [if_pos c60] at H
                                          have c60b0 : (Op.bytesLess ((a0.extract 0 3).toList) ([51, 51, 55] : List UInt8) || (a0.extract 0 3).toList == ([51, 51, 55] : List UInt8)) = true := c60
                                          clear c60
                                          simp only [Option.some.injEq, Prod.mk.injEq] at H
                                          obtain ⟨rfl, rfl⟩ := H
                                          have p50 : 0 ≤ (3 : Int) := (by omega)
                                          have q50 : 3 < a0.size := (by have : (3 : Int) < (a0.size : Int) := of_decide_eq_true (by first | (with_reducible assumption) | assumption); omega)
                                          have hx50 : ∀ h : 3 < a0.size, ((a0[3]'h).toNat : Int) = bt a0 3 := bt_at a0 3
                                          clear p50
                                          have qi50 : (3 < (a0.size : Int)) = True := eq_true (of_decide_eq_true (by first | (with_reducible assumption) | assumption))
                                          replace q50 := eq_true q50
                                          go_wp2
                                          go_ret2
                                          exact ⟨by first | rfl | (simp; done) | (simp [*]; done), by repeat (first | exact Drawn0.refl _ | apply Drawn0.step)⟩
                                         ·rw [if_neg c60] at H
                                          have c60b0 : (Op.bytesLess ((a0.extract 0 3).toList) ([51, 51, 55] : List UInt8) || (a0.extract 0 3).toList == ([51, 51, 55] : List UInt8)) = false := by simpa using c60
                                          clear c60
                                          simp only [Option.some.injEq, Prod.mk.injEq] at H
                                          obtain ⟨rfl, rfl⟩ := H
                                          have p50 : 0 ≤ (3 : Int) := (by omega)
                                          have q50 : 3 < a0.size := (by have : (3 : Int) < (a0.size : Int) := of_decide_eq_true (by first | (with_reducible assumption) | assumption); omega)
                                          have hx50 : ∀ h : 3 < a0.size, ((a0[3]'h).toNat : Int) = bt a0 3 := bt_at a0 3
                                          clear p50
                                          have qi50 : (3 < (a0.size : Int)) = True := eq_true (of_decide_eq_true (by first | (with_reducible assumption) | assumption))
                                          replace q50 := eq_true q50
                                          go_wp2
                                          go_ret2
                                          exact ⟨by first | rfl | (simp; done) | (simp [*]; done), by repeat (first | exact Drawn0.refl _ | apply Drawn0.step)⟩
                                       ·rw [if_neg c54] at H
                                        have c54b0 : (Op.bytesLess ((a0.extract 0 3).toList) ([51, 49, 48] : List UInt8)) = false := by simpa using c54
                                        clear c54
                                        have c61b0 := eq_true (of_decide_eq_true (by first | (with_reducible assumption) | assumption) : 0 ≤ 3)
                                        have c62b0 := eq_true (of_decide_eq_true (by first | (with_reducible assumption) | assumption) : 3 ≤ (a0.size : Int))
                                        by_cases c63 : (Op.bytesLess ((a0.extract 0 3).toList) ([51, 49, 54] : List UInt8) || (a0.extract 0 3).toList == ([51, 49, 54] : List UInt8)) = true
                                        ·rw [if_pos c63] at H
                                         have c63b0 : (Op.bytesLess ((a0.extract 0 3).toList) ([51, 49, 54] : List UInt8) || (a0.extract 0 3).toList == ([51, 49, 54] : List UInt8)) = true := c63
                                         clear c63
                                         simp only [Option.some.injEq, Prod.mk.injEq] at H
                                         obtain ⟨rfl, rfl⟩ := H
                                         have p50 : 0 ≤ (3 : Int) := (by omega)
                                         have q50 : 3 < a0.size := (by have : (3 : Int) < (a0.size : Int) := of_decide_eq_true (by first | (with_reducible assumption) | assumption); omega)
                                         have hx50 : ∀ h : 3 < a0.size, ((a0[3]'h).toNat : Int) = bt a0 3 := bt_at a0 3
                                         clear p50
                                         have qi50 : (3 < (a0.size : Int)) = True := eq_true (of_decide_eq_true (by first | (with_reducible assumption) | assumption))
                                         replace q50 := eq_true q50
                                         go_wp2
                                         go_ret2
                                         exact ⟨by first | rfl | (simp; done) | (simp [*]; done), by repeat (first | exact Drawn0.refl _ | apply Drawn0.step)⟩
                                        ·rw [if_neg c63] at H
                                         have c63b0 : (Op.bytesLess ((a0.extract 0 3).toList) ([51, 49, 54] : List UInt8) || (a0.extract 0 3).toList == ([51, 49, 54] : List UInt8)) = false := by simpa using c63
                                         clear c63
                                         have c64b0 := eq_true (of_decide_eq_true (by first | (with_reducible assumption) | assumption) : 0 ≤ 3)
                                         have c65b0 := eq_true (of_decide_eq_true (by first | (with_reducible assumption) | assumption) : 3 ≤ (a0.size : Int))
                                         by_cases c66 : ((Op.bytesLess ((a0.extract 0 3).toList) ([51, 50, 48] : List UInt8)) = true)
                                         ·rw [if_pos c66] at H
                                          have c66b0 : (Op.bytesLess ((a0.extract 0 3).toList) ([51, 50, 48] : List UInt8)) = true := c66
                                          clear c66
                                          simp only [Option.some.injEq, Prod.mk.injEq] at H
                                          obtain ⟨rfl, rfl⟩ := H
                                          have p50 : 0 ≤ (3 : Int) := (by omega)
                                          have q50 : 3 < a0.size := (by have : (3 : Int) < (a0.size : Int) := of_decide_eq_true (by first | (with_reducible assumption) | assumption); omega)
                                          have hx50 : ∀ h : 3 < a0.size, ((a0[3]'h).toNat : Int) = bt a0 3 := bt_at a0 3
                                          clear p50
                                          have qi50 : (3 < (a0.size : Int)) = True := eq_true (of_decide_eq_true (by first | (with_reducible assumption) | assumption))
                                          replace q50 := eq_true q50
                                          go_wp2
                                          go_ret2
                                          exact ⟨by first | rfl | (simp; done) | (simp [*]; done), by repeat (first | exact Drawn0.refl _ | apply Drawn0.step)⟩
                                         ·rw [if_neg c66] at H
                                          have c66b0 : (Op.bytesLess ((a0.extract 0 3).toList) ([51, 50, 48] : List UInt8)) = false := by simpa using c66
                                          clear c66
                                          have c67b0 := eq_true (of_decide_eq_true (by first | (with_reducible assumption) | assumption) : 0 ≤ 3)
                                          have c68b0 := eq_true (of_decide_eq_true (by first | (with_reducible assumption) | assumption) : 3 ≤ (a0.size : Int))
                                          by_cases c69 : (Op.bytesLess ((a0.extract 0 3).toList) ([51, 51, 55] : List UInt8) || (a0.extract 0 3).toList == ([51, 51, 55] : List UInt8)) = true
                                          ·rw [if_pos c69] at H
                                           have c69b0 : (Op.bytesLess ((a0.extract 0 3).toList) ([51, 51, 55] : List UInt8) || (a0.extract 0 3).toList == ([51, 51, 55] : List UInt8)) = true := c69
                                           clear c69
                                           simp only [Option.some.injEq, Prod.mk.injEq] at H
                                           obtain ⟨rfl, rfl⟩ := H
                                           have p50 : 0 ≤ (3 : Int) := (by omega)
                                           have q50 : 3 < a0.size := (by have : (3 : Int) < (a0.size : Int) := of_decide_eq_true (by first | (with_reducible assumption) | assumption); omega)
                                           have hx50 : ∀ h : 3 < a0.size, ((a0[3]'h).toNat : Int) = bt a0 3 := bt_at a0 3
                                           clear p50
                                           have qi50 : (3 < (a0.size : Int)) = True := eq_true (of_decide_eq_true (by first | (with_reducible assumption) | assumption))
                                           replace q50 := eq_true q50
                                           go_wp2
                                           go_ret2
                                           exact ⟨by first | rfl | (simp; done) | (simp [*]; done), by repeat (first | exact Drawn0.refl _ | apply Drawn0.step)⟩
                                          ·rw [if_neg c69] at H
                                           have c69b0 : (Op.bytesLess ((a0.extract 0 3).toList) ([51, 51, 55] : List UInt8) || (a0.extract 0 3).toList == ([51, 51, 55] : List UInt8)) = false := by simpa using c69
                                           clear c69
                                           simp only [Option.some.injEq, Prod.mk.injEq] at H
                                           obtain ⟨rfl, rfl⟩ := H
                                           have p50 : 0 ≤ (3 : Int) := (by omega)
                                           have q50 : 3 < a0.size := (by have : (3 : Int) < (a0.size : Int) := of_decide_eq_true (by first | (with_reducible assumption) | assumption); omega)
                                           have hx50 : ∀ h : 3 < a0.size, ((a0[3]'h).toNat : Int) = bt a0 3 := bt_at a0 3
                                           clear p50
                                           have qi50 : (3 < (a0.size : Int)) = True := eq_true (of_decide_eq_true (by first | (with_reducible assumption) | assumption))
                                           replace q50 := eq_true q50
                                           go_wp2
                                           go_ret2
                                           exact ⟨by first | rfl | (simp; done) | (simp [*]; done), by repeat (first | exact Drawn0.refl _ | apply Drawn0.step)⟩
                                      ·rw [if_neg c53] at H
                                       exact absurd H (by simp)
                                     ·rw [if_neg c52] at H
                                      exact absurd H (by simp)
                                    ·rw [if_neg c51] at H
                                     have c51b0 : decide ((bt a0 3) ≤ 53) = false := decide_eq_false c51
                                     clear c51
                                     simp only [Option.some.injEq, Prod.mk.injEq] at H
                                     obtain ⟨rfl, rfl⟩ := H
                                     have p50 : 0 ≤ (3 : Int) := (by omega)
                                     have q50 : 3 < a0.size := (by have : (3 : Int) < (a0.size : Int) := of_decide_eq_true (by first | (with_reducible assumption) | assumption); omega)
                                     have hx50 : ∀ h : 3 < a0.size, ((a0[3]'h).toNat : Int) = bt a0 3 := bt_at a0 3
                                     clear p50
                                     have qi50 : (3 < (a0.size : Int)) = True := eq_true (of_decide_eq_true (by first | (with_reducible assumption) | assumption))
                                     replace q50 := eq_true q50
                                     go_wp2
                                     go_ret2
                                     exact ⟨by first | rfl | (simp; done) | (simp [*]; done), by repeat (first | exact Drawn0.refl _ | apply Drawn0.step)⟩
                                   ·rw [if_neg c49] at H
                                    exact absurd H (by simp)
                                  ·rw [if_neg c48] at H
                                   have c48b0 : ((a0.size : Int) == 4) = false := beq_eq_false_iff_ne.mpr c48
                                   have c48b1 : ((a0.size : Int) != 4) = true := bne_iff_ne.mpr c48
                                   simp only [Option.some.injEq, Prod.mk.injEq] at H
                                   obtain ⟨rfl, rfl⟩ := H
                                   go_wp2
                                   go_ret2
                                   exact ⟨by first | rfl | (simp; done) | (simp [*]; done), by repeat (first | exact Drawn0.refl _ | apply Drawn0.step)⟩
                        ·replace c32 := Bool.eq_false_iff.mpr c32
                         subst c32
                         have H1 : (some (0, 0)) = some (r1, r2) := by rw [if_neg (show ¬ (false = true) by decide)] at H; exact H
                         clear H
                         have H := H1
                         clear H1
                         simp only [Option.some.injEq, Prod.mk.injEq] at H
                         obtain ⟨rfl, rfl⟩ := H
                         go_wp2_with (first | ((with_reducible refine gate_callee (f := 47) rfl ?_); refine goesL_ (some 39) rfl rfl Tryz.func47 (by kernel_rfl) rfl #[.string a0] rfl (by (try simp only [List.map_toArray, List.map_cons, List.map_nil]); first | done | rfl | (simp only [List.length_drop, List.length_take]; rfl)) ?_; (with_reducible refine (barscanref14_digits.calls kj16 a0 false _ A31.out).mono ?_); rintro e w' ⟨rfl, ⟨nd, rfl⟩⟩; refine ⟨_, rfl, ?_⟩))
                         go_ret2
                         exact ⟨by first | rfl | (simp; done) | (simp [*]; done), by repeat (first | exact Drawn0.refl _ | apply Drawn0.step)⟩

end Go.Proofs.YtghlbdemlmbijaaGreatDoor.Q

namespace Go.Proofs.YtghlbdemlmbijaaGreatDoor.Q
open Go.RowKit Go.Proofs.YtghlbdemlmbijaaGreatDoorW.PrintWords Go.Proofs.YtghlbdemlmbijaaGreatDoorW.PrintLast Go.Proofs.YtghlbdemlmbijaaGreatDoorW.PrintMore

set_option linter.unusedVariables false
set_option linter.unusedSimpArgs false

/-! ### barscanref14_Fixed: function 8 -/
def barscanref14_Fixed.f (k : Nat) (a0 : ByteArray) : Option (Int × Int × Int) := (barscanref14_table.f k a0).bind fun bt113 => (if bt113.1 = 0 then (some (0, 0, 29)) else (if bt113.1 = 4 then (some (0, bt113.2, 0)) else (if bt113.1 = 5 then (some (0, bt113.2, 0)) else (some (bt113.2, bt113.2, 0)))))
theorem barscanref14_Fixed.mono : ∀ a0 k, LeO (barscanref14_Fixed.f k a0) (barscanref14_Fixed.f (k + 1) a0) := by
 intro a0 k
 unfold barscanref14_Fixed.f
 repeat' first
   | (with_reducible exact barscanref14_table.mono _ _)
   | (with_reducible exact LeO.refl _)
   | (with_reducible exact LeO.none _)
   | (with_reducible refine LeO.ite ?_ ?_)
   | (with_reducible refine LeO.bind ?_ (fun _ => ?_))
   | exact barscanref14_table.mono _ _
   | exact LeO.none _
   | refine LeO.ite ?_ ?_
   | refine LeO.bind ?_ (fun _ => ?_)
set_option maxHeartbeats 8000000 in
set_option maxRecDepth 100000 in
theorem barscanref14_Fixed.calls (k : Nat) (a0 : ByteArray) (r1 : Int) (r2 : Int) (r3 : Int) (w : World) (h : barscanref14_Fixed.f k a0 = some (r1, r2, r3)) :
  Calls Tryz.prog 8 #[.string a0] w fun e w' => e = .returned (.tuple #[.int .i64 r1, .int .i64 r2, .int .i64 r3]) ∧ Drawn0 w w' := by
 have H : ((barscanref14_table.f k a0).bind fun bt113 => (if bt113.1 = 0 then (some (0, 0, 29)) else (if bt113.1 = 4 then (some (0, bt113.2, 0)) else (if bt113.1 = 5 then (some (0, bt113.2, 0)) else (some (bt113.2, bt113.2, 0)))))) = some (r1, r2, r3) := h
 clear h
 replace H := Option.bind_eq_some_iff.mp H
 obtain ⟨⟨t113, t114⟩, A20, H⟩ := H
 replace H : (if t113 = 0 then (some (0, 0, 29)) else (if t113 = 4 then (some (0, t114, 0)) else (if t113 = 5 then (some (0, t114, 0)) else (some (t114, t114, 0))))) = some (r1, r2, r3) := H
 have A2 := Aside0.mk A20
 clear A20
 by_cases c3 : t113 = 0
 ·rw [if_pos c3] at H
  have c3b0 : (t113 == 0) = true := beq_iff_eq.mpr c3
  have c3b1 : (t113 != 0) = false := bne_eq_false_iff_eq.mpr c3
  clear c3
  simp only [Option.some.injEq, Prod.mk.injEq] at H
  obtain ⟨rfl, rfl, rfl⟩ := H
  go_enter Tryz.func8, Tryz.ntmps8
  go_wp2_with (first | ((with_reducible refine gate_callee (f := 23) rfl ?_); refine goesL_ (some 9) rfl rfl Tryz.func23 (by kernel_rfl) rfl #[.string a0] rfl (by (try simp only [List.map_toArray, List.map_cons, List.map_nil]); first | done | rfl | (simp only [List.length_drop, List.length_take]; rfl)) ?_; (with_reducible refine (barscanref14_table.calls k a0 t113 t114 _ A2.out).mono ?_); rintro e w' ⟨rfl, ⟨nd, rfl⟩⟩; refine ⟨_, rfl, ?_⟩))
  go_ret3
  exact ⟨by first | rfl | (simp; done) | (simp [*]; done), by repeat (first | exact Drawn0.refl _ | apply Drawn0.step)⟩
 ·rw [if_neg c3] at H
  have c3b0 : (t113 == 0) = false := beq_eq_false_iff_ne.mpr c3
  have c3b1 : (t113 != 0) = true := bne_iff_ne.mpr c3
  by_cases c4 : t113 = 4
  ·rw [if_pos c4] at H
   have c4b0 : (t113 == 4) = true := beq_iff_eq.mpr c4
   have c4b1 : (t113 != 4) = false := bne_eq_false_iff_eq.mpr c4
   clear c4
   simp only [Option.some.injEq, Prod.mk.injEq] at H
   obtain ⟨rfl, rfl, rfl⟩ := H
   go_enter Tryz.func8, Tryz.ntmps8
   go_wp2_with (first | ((with_reducible refine gate_callee (f := 23) rfl ?_); refine goesL_ (some 9) rfl rfl Tryz.func23 (by kernel_rfl) rfl #[.string a0] rfl (by (try simp only [List.map_toArray, List.map_cons, List.map_nil]); first | done | rfl | (simp only [List.length_drop, List.length_take]; rfl)) ?_; (with_reducible refine (barscanref14_table.calls k a0 t113 t114 _ A2.out).mono ?_); rintro e w' ⟨rfl, ⟨nd, rfl⟩⟩; refine ⟨_, rfl, ?_⟩))
   go_ret3
   exact ⟨by first | rfl | (simp; done) | (simp [*]; done), by repeat (first | exact Drawn0.refl _ | apply Drawn0.step)⟩
  ·rw [if_neg c4] at H
   have c4b0 : (t113 == 4) = false := beq_eq_false_iff_ne.mpr c4
   have c4b1 : (t113 != 4) = true := bne_iff_ne.mpr c4
   by_cases c5 : t113 = 5
   ·rw [if_pos c5] at H
    have c5b0 : (t113 == 5) = true := beq_iff_eq.mpr c5
    have c5b1 : (t113 != 5) = false := bne_eq_false_iff_eq.mpr c5
    clear c5
    simp only [Option.some.injEq, Prod.mk.injEq] at H
    obtain ⟨rfl, rfl, rfl⟩ := H
    go_enter Tryz.func8, Tryz.ntmps8
    go_wp2_with (first | ((with_reducible refine gate_callee (f := 23) rfl ?_); refine goesL_ (some 9) rfl rfl Tryz.func23 (by kernel_rfl) rfl #[.string a0] rfl (by (try simp only [List.map_toArray, List.map_cons, List.map_nil]); first | done | rfl | (simp only [List.length_drop, List.length_take]; rfl)) ?_; (with_reducible refine (barscanref14_table.calls k a0 t113 t114 _ A2.out).mono ?_); rintro e w' ⟨rfl, ⟨nd, rfl⟩⟩; refine ⟨_, rfl, ?_⟩))
    go_ret3
    exact ⟨by first | rfl | (simp; done) | (simp [*]; done), by repeat (first | exact Drawn0.refl _ | apply Drawn0.step)⟩
   ·rw [if_neg c5] at H
    have c5b0 : (t113 == 5) = false := beq_eq_false_iff_ne.mpr c5
    have c5b1 : (t113 != 5) = true := bne_iff_ne.mpr c5
    simp only [Option.some.injEq, Prod.mk.injEq] at H
    obtain ⟨rfl, rfl, rfl⟩ := H
    go_enter Tryz.func8, Tryz.ntmps8
    go_wp2_with (first | ((with_reducible refine gate_callee (f := 23) rfl ?_); refine goesL_ (some 9) rfl rfl Tryz.func23 (by kernel_rfl) rfl #[.string a0] rfl (by (try simp only [List.map_toArray, List.map_cons, List.map_nil]); first | done | rfl | (simp only [List.length_drop, List.length_take]; rfl)) ?_; (with_reducible refine (barscanref14_table.calls k a0 t113 t114 _ A2.out).mono ?_); rintro e w' ⟨rfl, ⟨nd, rfl⟩⟩; refine ⟨_, rfl, ?_⟩))
    go_ret3
    exact ⟨by first | rfl | (simp; done) | (simp [*]; done), by repeat (first | exact Drawn0.refl _ | apply Drawn0.step)⟩

end Go.Proofs.YtghlbdemlmbijaaGreatDoor.Q

/- Plain laws on bytes, lists and rounds: no program in sight. -/
namespace Go.Proofs.YtghlbdemlmbijaaGreatDoor.Q
open Go.RowKit Go.Proofs.YtghlbdemlmbijaaGreatDoorW.PrintWords Go.Proofs.YtghlbdemlmbijaaGreatDoorW.PrintLast Go.Proofs.YtghlbdemlmbijaaGreatDoorW.PrintMore

theorem wrap_up (i : Nat) (h : i < 4611686018427387904) : wrap64 ((i : Int) + 1) = ((i + 1 : Nat) : Int) := by unfold wrap64; omega
theorem wrap_dn (i : Nat) (h : i < 4611686018427387904) : wrap64 ((i : Int) - 1) = (i : Int) - 1 := by unfold wrap64; omega
theorem wrap_id (i : Int) (h0 : -4611686018427387904 ≤ i) (h1 : i < 4611686018427387904) : wrap64 i = i := by unfold wrap64; omega
/-- The bytes of a string. -/
def bs (s : ByteArray) : List UInt8 := s.data.toList
theorem bs_len (s : ByteArray) : (bs s).length = s.size := (Lib.size_eq s).symm
theorem bs_mk (l : List UInt8) : bs ⟨l.toArray⟩ = l := rfl
theorem bs_inj {s t : ByteArray} (h : bs s = bs t) : s = t := by rw [← Lib.mk_data s, ← Lib.mk_data t]; exact congrArg _ (congrArg _ h)
theorem bs_toList (s : ByteArray) : s.toList = bs s := Lib.toList_data s
theorem bs_extract (s : ByteArray) (a b : Nat) : bs (s.extract a b) = ((bs s).drop a).take (b - a) := by
  simp [bs, ByteArray.data_extract, Array.toList_extract, List.extract_eq_take_drop]
theorem bs_append (s t : ByteArray) : bs (s ++ t) = bs s ++ bs t := by simp [bs, ByteArray.data_append]
theorem bt_nat (s : ByteArray) (i : Nat) (h : i < (bs s).length) : bt s (i : Int) = ((bs s)[i].toNat : Int) := by
  have h2 : i < s.size := by rw [← bs_len]; exact h
  unfold bt
  simp only [Int.toNat_natCast, dif_pos h2]
  rfl
theorem u8_back (c : UInt8) : ((c.toNat : Int)).toNat.toUInt8 = c := by simp
theorem rd_nat (l : List Int) (i : Nat) (h : i < l.length) : rd l (i : Int) = l[i] := by simp [rd, List.getD, h]
theorem indexByte_iff (l : List UInt8) (c : UInt8) : Lib.indexByte l c < 0 ↔ ¬ c ∈ l := by
  induction l with
  | nil => simp [Lib.indexByte]
  | cons b l ih =>
    have hg := Lib.indexByte_ge l c
    simp only [Lib.indexByte]
    by_cases h : b = c
    · subst h; simp
    · have h1 : (b == c) = false := beq_eq_false_iff_ne.mpr h
      rw [h1]
      simp only [Bool.false_eq_true, if_false, List.mem_cons]
      by_cases h2 : Lib.indexByte l c = -1
      · rw [if_pos (by simp [h2])]
        have : ¬ c ∈ l := ih.1 (by omega)
        simp [this, Ne.symm h]
      · rw [if_neg (by simpa using h2)]
        have h3 : c ∈ l := by
          rcases Classical.em (c ∈ l) with h4 | h4
          · exact h4
          · have := ih.2 h4; omega
        simp [h3]
        omega
theorem indexByte_mem {l : List UInt8} {c : UInt8} (h : c ∈ l) : ∃ o : Nat, Lib.indexByte l c = o ∧ o < l.length ∧ l[o]? = some c ∧ ∀ k, k < o → l[k]? ≠ some c := by
  have hg := Lib.indexByte_ge l c
  have hn : ¬ Lib.indexByte l c < 0 := fun h2 => (indexByte_iff l c).1 h2 h
  obtain ⟨o, ho⟩ := Int.eq_ofNat_of_zero_le (show 0 ≤ Lib.indexByte l c by omega)
  have h1 := Lib.indexByte_some ho
  refine ⟨o, ho, ?_, h1.1, h1.2⟩
  exact (List.getElem?_eq_some_iff.1 h1.1).1
theorem indexByte_not {l : List UInt8} {c : UInt8} (h : ¬ c ∈ l) : Lib.indexByte l c = -1 := by
  have hg := Lib.indexByte_ge l c
  have := (indexByte_iff l c).2 h
  omega
theorem decDigit (d : Nat) (h : d < 10) : Lib.decDigits d = [UInt8.ofNat (48 + d)] := Lib.decDigits_one h
theorem all_u8 {P : UInt8 → Prop} (h : ∀ n, n < 256 → P (UInt8.ofNat n)) (x : UInt8) : P x := by
  have h1 := h x.toNat x.toNat_lt
  rwa [UInt8.ofNat_toNat] at h1
/-- A digit. -/
def isDig (c : UInt8) : Bool := decide (48 ≤ c.toNat) && decide (c.toNat ≤ 57)
abbrev digitsS : ByteArray := ⟨#[48, 49, 50, 51, 52, 53, 54, 55, 56, 57]⟩
set_option maxRecDepth 100000 in
theorem mem_digits (c : UInt8) : decide (c ∈ bs digitsS) = isDig c := all_u8 (P := fun c => decide (c ∈ bs digitsS) = isDig c) (by decide) c
/-- All bytes are digits. -/
def allDig (s : ByteArray) : Bool := (bs s).all isDig
theorem allDig_eq (s : ByteArray) : ((bs s).all fun x => decide (x ∈ bs digitsS)) = allDig s := by
  unfold allDig
  congr 1
  funext c
  exact mem_digits c
end Go.Proofs.YtghlbdemlmbijaaGreatDoor.Q

/- The map of forms, as plain data: what a list of entries reads as, and how it is looked up; the law of an insertion at the operation. -/
namespace Go.Proofs.YtghlbdemlmbijaaGreatDoor.Q
open Go.RowKit Go.Maps Go.Proofs.YtghlbdemlmbijaaGreatDoorW.PrintWords Go.Proofs.YtghlbdemlmbijaaGreatDoorW.PrintLast Go.Proofs.YtghlbdemlmbijaaGreatDoorW.PrintMore

/-- A form: fixed, most, digits, check, day. -/
abbrev Form := Int × Int × Bool × Bool × Bool
def formV (f : Form) : Value := .agg #[.int .i64 f.1, .int .i64 f.2.1, .bool f.2.2.1, .bool f.2.2.2.1, .bool f.2.2.2.2]
def formD (f : Form) : DataW Unit := .agg [.lit (.int .i64 f.1), .lit (.int .i64 f.2.1), .lit (.bool f.2.2.1), .lit (.bool f.2.2.2.1), .lit (.bool f.2.2.2.2)]
def z0 : Form := (0, 0, false, false, false)
/-- How a form in the map reads. -/
def readForm (v : Value) : Option (DataW Unit × List MemPlace) :=
  match v with
  | .agg ⟨[.int .i64 a, .int .i64 b, .bool c, .bool d, .bool e]⟩ => some (formD (a, b, c, d, e), [])
  | _ => none
theorem readForm_mk (f : Form) : readForm (formV f) = some (formD f, []) := rfl
theorem readForm_inv {v : Value} {f : Form} {ps : List MemPlace} (h : readForm v = some (formD f, ps)) : v = formV f := by
  unfold readForm at h
  split at h
  · rename_i a b c d e
    obtain ⟨f0, f1, f2, f3, f4⟩ := f
    simp only [formD, Option.some.injEq, Prod.mk.injEq, DataW.agg.injEq, List.cons.injEq, DataW.lit.injEq, Lit.int.injEq, Lit.bool.injEq, true_and, and_true] at h
    obtain ⟨⟨rfl, rfl, rfl, rfl, rfl⟩, _⟩ := h
    rfl
  · exact absurd h (by simp)
/-- A string as a key. -/
abbrev kl (s : List UInt8) : Lit := .string s
theorem kl_key (s : List UInt8) : WideAt.IsKeyLit (kl s) := trivial
def putAll (D : DataW Unit) (l : List (List UInt8 × Form)) : DataW Unit := l.foldl (fun D e => D.put (kl e.1) (formD e.2)) D
theorem putAll_snoc (D : DataW Unit) (l : List (List UInt8 × Form)) (e : List UInt8 × Form) : putAll D (l ++ [e]) = (putAll D l).put (kl e.1) (formD e.2) := by simp [putAll, List.foldl_append]
theorem putAll_isMap (l : List (List UInt8 × Form)) : ∀ D : DataW Unit, IsMap D → IsMap (putAll D l) := by
  induction l with
  | nil => exact fun D h => h
  | cons e l ih => exact fun D h => ih _ (h.put _ _)
/-- The last entry of a key, counted from the front of the reversed list. -/
def look (l : List (List UInt8 × Form)) (k : List UInt8) : Option Form := (l.find? fun e => e.1 == k).map (·.2)
theorem putAll_at (l : List (List UInt8 × Form)) (hd : l.Pairwise fun a b => a.1 ≠ b.1) (k : List UInt8) : ∀ D : DataW Unit, IsMap D →
    (∀ z, (putAll D l).atKey (kl k) z = match look l k with | some f => formD f | none => D.atKey (kl k) z) ∧ has (putAll D l) (kl k) = ((look l k).isSome || has D (kl k)) := by
  induction l with
  | nil => exact fun D h => ⟨fun z => rfl, by simp [putAll, look]⟩
  | cons e l ih =>
    intro D h
    obtain ⟨h1, h2⟩ := List.pairwise_cons.1 hd
    obtain ⟨ih1, ih2⟩ := ih h2 _ (h.put (kl e.1) (formD e.2))
    by_cases hk : e.1 = k
    · have hn : look l k = none := by
        unfold look
        rw [List.find?_eq_none.2 (fun x hx => by have := h1 x hx; rw [hk] at this; simp [Ne.symm this])]
        rfl
      have hs : look (e :: l) k = some e.2 := by simp [look, hk]
      rw [hn] at ih1 ih2
      subst hk
      refine ⟨fun z => ?_, ?_⟩
      · rw [hs]
        exact (ih1 z).trans (atKey_put_same h (kl_key _) _ z)
      · rw [hs]
        exact ih2.trans (by rw [has_put_same h (kl_key _)]; rfl)
    · have hs : look (e :: l) k = look l k := by simp [look, hk]
      have hne : kl k ≠ kl e.1 := fun he => hk (by injection he with he; exact he.symm)
      rw [hs]
      refine ⟨fun z => (ih1 z).trans ?_, ih2.trans ?_⟩
      · cases look l k with
        | some f => rfl
        | none => exact atKey_put_other hne _ z
      · rw [has_put_other hne]
/-- 'm[k] = v' inside a map's literal, at the operation. -/
theorem wpList_insert_own {H : Type} {P : Program} (w : World) {ops : Array Oper} {rest : List Oper} {o : Oper} {a : Act} {Q : Exit → Act → World → Prop}
    (hg : o.guard = none) (m x v : Operand) (t : TypeId) (hop : o.op = Op.insert t m x v)
    (k e : TypeId) (K : Keyed P k) (ht : P.underlying t = some (.map k e)) (R : Value → Option (DataW H × List MemPlace)) (b n : Nat) (D : DataW H)
    (hm : a.eval m = .map (some b)) (hown : w.ownsMap P k R b n D) (hn : n < maxLen) (key val : Value) (kl : Lit) (hx : a.eval x = key) (hv : a.eval v = val) (hkey : keyOf P k key = some kl)
    (d : DataW H) (ps : List MemPlace) (hval : R val = some (d, ps))
    (hK : ∀ w', w'.ownsMap P k R b (n + 1) (D.put kl d) → w.grownBy w' (some b) → wpList P ops Q rest (a.put o.dst undef) w') :
    wpList P ops Q (o :: rest) a w := by
  refine wpList_plain hg fun K' hK' => ?_
  obtain ⟨w', hrun, r1, r2⟩ := hown.update K ht hn hkey hval
  unfold Oper.wp
  simp [execOp, hop, hm, hx, hv, hrun, Result.andThen]
  exact hK' _ _ (hK w' r1 r2)
end Go.Proofs.YtghlbdemlmbijaaGreatDoor.Q

/-
  DERIVED: THE SHELF's CONTRACTS AT THIS DUMP, IN PLAIN WORDS (tools/lay-plain.mjs out of 'TryzShelfSrc.lean', which tools/lay-shelf.mjs wrote): THE SAME DECLARATIONS UNDER THE SAME NAMES: 'import', 'namespace', 'open', 'def', 'theorem' AND NOTHING ELSE: no command of the shelf's: FOR A HAND-IN. Each laying: the table of numbers ('.._ren') and one theorem, a field a fact of the dump's own or the kernel's comparison; each contract: ONE APPLICATION.
-/
namespace Go.Proofs
open Go.Shelf
def Tryz.lays160_ren : Go.Shelf.Ren := ⟨fun | 160 => 45 | 232 => 60 | 231 => 59 | 227 => 61 | 234 => 63 | 233 => 62 | 236 => 65 | 235 => 64 | 228 => 75 | 271 => 78 | 151 => 77 | 197 => 76 | 120 => 82 | 152 => 81 | 260 => 80 | 137 => 29 | 119 => 85 | 224 => 86 | 225 => 87 | 217 => 52 | 266 => 71 | n => n, fun | 9 => 9 | 4 => 4 | 3 => 3 | 5 => 5 | 117 => 87 | 116 => 86 | 0 => 0 | 124 => 90 | 21 => 21 | 105 => 101 | 46 => 135 | 119 => 98 | 139 => 138 | 138 => 137 | n => n, fun | 3 => 3 | 4 => 4 | n => n⟩
theorem Tryz.lays160 : Go.Proofs.Lays.n160 Tryz.prog Tryz.lays160_ren := {
  mixed := by kernel_rfl
  f119 := Tryz.func85.trans (congrArg some (by kernel_rfl))
  f120 := Tryz.func82.trans (congrArg some (by kernel_rfl))
  f137 := Tryz.func29.trans (congrArg some (by kernel_rfl))
  f151 := Tryz.func77.trans (congrArg some (by kernel_rfl))
  f152 := Tryz.func81.trans (congrArg some (by kernel_rfl))
  f160 := Tryz.func45.trans (congrArg some (by kernel_rfl))
  f197 := Tryz.func76.trans (congrArg some (by kernel_rfl))
  f217 := Tryz.func52.trans (congrArg some (by kernel_rfl))
  f224 := Tryz.func86.trans (congrArg some (by kernel_rfl))
  f225 := Tryz.func87.trans (congrArg some (by kernel_rfl))
  f227 := Tryz.func61.trans (congrArg some (by kernel_rfl))
  f228 := Tryz.func75.trans (congrArg some (by kernel_rfl))
  f231 := Tryz.func59.trans (congrArg some (by kernel_rfl))
  f232 := Tryz.func60.trans (congrArg some (by kernel_rfl))
  f233 := Tryz.func62.trans (congrArg some (by kernel_rfl))
  f234 := Tryz.func63.trans (congrArg some (by kernel_rfl))
  f235 := Tryz.func64.trans (congrArg some (by kernel_rfl))
  f236 := Tryz.func65.trans (congrArg some (by kernel_rfl))
  f260 := Tryz.func80.trans (congrArg some (by kernel_rfl))
  f266 := Tryz.func71.trans (congrArg some (by kernel_rfl))
  f271 := Tryz.func78.trans (congrArg some (by kernel_rfl))
  t0 := Tryz.underlying0
  a0 := Tryz.isAgg0
  z0 := Tryz.sizeOf0
  v0 := Tryz.zeroValue0
  t3 := Tryz.underlying3
  a3 := Tryz.isAgg3
  z3 := Tryz.sizeOf3
  v3 := Tryz.zeroValue3
  t4 := Tryz.underlying4
  a4 := Tryz.isAgg4
  z4 := Tryz.sizeOf4
  v4 := Tryz.zeroValue4
  t5 := Tryz.underlying5
  a5 := Tryz.isAgg5
  z5 := Tryz.sizeOf5
  v5 := Tryz.zeroValue5
  t9 := Tryz.underlying9
  a9 := Tryz.isAgg9
  z9 := Tryz.sizeOf9
  v9 := Tryz.zeroValue9
  t21 := Tryz.underlying21
  a21 := Tryz.isAgg21
  z21 := Tryz.sizeOf21
  v21 := Tryz.zeroValue21
  t46 := Tryz.underlying135
  a46 := Tryz.isAgg135
  z46 := Tryz.sizeOf135
  v46 := Tryz.zeroValue135
  t105 := Tryz.underlying101
  a105 := Tryz.isAgg101
  z105 := Tryz.sizeOf101
  v105 := Tryz.zeroValue101
  t116 := Tryz.underlying86
  a116 := Tryz.isAgg86
  z116 := Tryz.sizeOf86
  t117 := Tryz.underlying87
  a117 := Tryz.isAgg87
  z117 := Tryz.sizeOf87
  v117 := Tryz.zeroValue87
  t119 := Tryz.underlying98
  a119 := Tryz.isAgg98
  z119 := Tryz.sizeOf98
  t124 := Tryz.underlying90
  a124 := Tryz.isAgg90
  z124 := Tryz.sizeOf90
  v124 := Tryz.zeroValue90
  t138 := Tryz.underlying137
  a138 := Tryz.isAgg137
  z138 := Tryz.sizeOf137
  v138 := Tryz.zeroValue137
  t139 := Tryz.underlying138
  a139 := Tryz.isAgg138
  z139 := Tryz.sizeOf138
  v139 := Tryz.zeroValue138
  g3 := by kernel_rfl
  g4 := by kernel_rfl }
def Tryz.lays137_ren : Go.Shelf.Ren := ⟨fun | 137 => 29 | 217 => 52 | 266 => 71 | n => n, fun | 9 => 9 | 5 => 5 | 3 => 3 | n => n, fun | n => n⟩
theorem Tryz.lays137 : Go.Proofs.Lays.n137 Tryz.prog Tryz.lays137_ren := {
  mixed := by kernel_rfl
  f137 := Tryz.func29.trans (congrArg some (by kernel_rfl))
  f217 := Tryz.func52.trans (congrArg some (by kernel_rfl))
  f266 := Tryz.func71.trans (congrArg some (by kernel_rfl))
  t3 := Tryz.underlying3
  a3 := Tryz.isAgg3
  z3 := Tryz.sizeOf3
  v3 := Tryz.zeroValue3
  t5 := Tryz.underlying5
  a5 := Tryz.isAgg5
  z5 := Tryz.sizeOf5
  v5 := Tryz.zeroValue5
  t9 := Tryz.underlying9
  a9 := Tryz.isAgg9
  z9 := Tryz.sizeOf9
  v9 := Tryz.zeroValue9 }
open Go.RowKit in
/-- strings.IndexByte: "IndexByte returns the index of the first instance of c in s, or -1 if c is not present in s.": IT RETURNS 'Lib.indexByte s c'; the world is as it was. (LAID: no walk: one application.) -/
theorem Tryz.strings_IndexByte (s : ByteArray) (c : Int) (w : World) :
    Calls Tryz.prog 29 #[.string s, .int .u8 c] w fun e w' => e = .returned (.int .i64 (Lib.indexByte s.data.toList c.toNat.toUInt8)) ∧ w' = w := Any.strings_IndexByte Tryz.lays137 s c w
def Tryz.lays171_ren : Go.Shelf.Ren := ⟨fun | 171 => 110 | 243 => 111 | 246 => 112 | 283 => 113 | 284 => 114 | 285 => 115 | 286 => 116 | 129 => 118 | 317 => 117 | 318 => 119 | 319 => 120 | 320 => 121 | 337 => 122 | 338 => 123 | n => n, fun | 3 => 3 | 9 => 9 | 2 => 2 | 4 => 4 | 171 => 158 | 0 => 0 | 53 => 159 | 37 => 57 | 5 => 5 | 173 => 162 | 212 => 165 | 51 => 120 | 20 => 20 | 213 => 166 | 46 => 135 | 232 => 169 | 233 => 170 | n => n, fun | 17 => 6 | 18 => 7 | 19 => 8 | n => n⟩
theorem Tryz.lays171 : Go.Proofs.Lays.n171 Tryz.prog Tryz.lays171_ren := {
  mixed := by kernel_rfl
  f129 := Tryz.func118.trans (congrArg some (by kernel_rfl))
  f171 := Tryz.func110.trans (congrArg some (by kernel_rfl))
  f243 := Tryz.func111.trans (congrArg some (by kernel_rfl))
  f246 := Tryz.func112.trans (congrArg some (by kernel_rfl))
  f283 := Tryz.func113.trans (congrArg some (by kernel_rfl))
  f284 := Tryz.func114.trans (congrArg some (by kernel_rfl))
  f285 := Tryz.func115.trans (congrArg some (by kernel_rfl))
  f286 := Tryz.func116.trans (congrArg some (by kernel_rfl))
  f317 := Tryz.func117.trans (congrArg some (by kernel_rfl))
  f318 := Tryz.func119.trans (congrArg some (by kernel_rfl))
  f319 := Tryz.func120.trans (congrArg some (by kernel_rfl))
  f320 := Tryz.func121.trans (congrArg some (by kernel_rfl))
  f337 := Tryz.func122.trans (congrArg some (by kernel_rfl))
  f338 := Tryz.func123.trans (congrArg some (by kernel_rfl))
  t0 := Tryz.underlying0
  a0 := Tryz.isAgg0
  z0 := Tryz.sizeOf0
  v0 := Tryz.zeroValue0
  t2 := Tryz.underlying2
  a2 := Tryz.isAgg2
  z2 := Tryz.sizeOf2
  v2 := Tryz.zeroValue2
  t3 := Tryz.underlying3
  a3 := Tryz.isAgg3
  z3 := Tryz.sizeOf3
  v3 := Tryz.zeroValue3
  t4 := Tryz.underlying4
  a4 := Tryz.isAgg4
  z4 := Tryz.sizeOf4
  v4 := Tryz.zeroValue4
  t5 := Tryz.underlying5
  a5 := Tryz.isAgg5
  z5 := Tryz.sizeOf5
  v5 := Tryz.zeroValue5
  t9 := Tryz.underlying9
  a9 := Tryz.isAgg9
  z9 := Tryz.sizeOf9
  v9 := Tryz.zeroValue9
  t20 := Tryz.underlying20
  a20 := Tryz.isAgg20
  z20 := Tryz.sizeOf20
  v20 := Tryz.zeroValue20
  t37 := Tryz.underlying57
  a37 := Tryz.isAgg57
  z37 := Tryz.sizeOf57
  v37 := Tryz.zeroValue57
  t46 := Tryz.underlying135
  a46 := Tryz.isAgg135
  z46 := Tryz.sizeOf135
  v46 := Tryz.zeroValue135
  t51 := Tryz.underlying120
  a51 := Tryz.isAgg120
  z51 := Tryz.sizeOf120
  v51 := Tryz.zeroValue120
  t53 := Tryz.underlying159
  a53 := Tryz.isAgg159
  z53 := Tryz.sizeOf159
  v53 := Tryz.zeroValue159
  t171 := Tryz.underlying158
  a171 := Tryz.isAgg158
  z171 := Tryz.sizeOf158
  v171 := Tryz.zeroValue158
  t173 := Tryz.underlying162
  a173 := Tryz.isAgg162
  z173 := Tryz.sizeOf162
  v173 := Tryz.zeroValue162
  t212 := Tryz.underlying165
  a212 := Tryz.isAgg165
  z212 := Tryz.sizeOf165
  v212 := Tryz.zeroValue165
  t213 := Tryz.underlying166
  a213 := Tryz.isAgg166
  z213 := Tryz.sizeOf166
  t232 := Tryz.underlying169
  a232 := Tryz.isAgg169
  z232 := Tryz.sizeOf169
  v232 := Tryz.zeroValue169
  t233 := Tryz.underlying170
  a233 := Tryz.isAgg170
  z233 := Tryz.sizeOf170
  v233 := Tryz.zeroValue170
  g17 := by kernel_rfl
  g18 := by kernel_rfl
  g19 := by kernel_rfl }
open Go.RowKit Go.Sort Go.Lib in
/-- THE ROAD WITHOUT THE TABLE: 0 <= i < 100: NO PREMISE ON THE WORLD, AND THE WORLD IS AS IT WAS: a row that keeps its argument in that range need list no table ('laid = []'). (LAID: no walk: one application.) -/
theorem Tryz.strconv_Itoa_small (i : Nat) (hi : i < 100) (w : World) :
    Calls Tryz.prog 110 #[.int .i64 i] w fun e w' => e = .returned (.string ⟨(Lib.decDigits i).toArray⟩) ∧ w' = w := Any.strconv_Itoa_small Tryz.lays171 i hi w
def Tryz.lays157_ren : Go.Shelf.Ren := ⟨fun | 157 => 58 | 229 => 73 | 199 => 74 | 261 => 79 | 311 => 83 | 312 => 84 | n => n, fun | 9 => 9 | 31 => 82 | 3 => 3 | 5 => 5 | 4 => 4 | 119 => 98 | 0 => 0 | 40 => 100 | 152 => 117 | 21 => 21 | 154 => 119 | 51 => 120 | 141 => 122 | 196 => 127 | 193 => 124 | 198 => 130 | 49 => 128 | 194 => 125 | 201 => 133 | 226 => 141 | 46 => 135 | 227 => 142 | n => n, fun | 0 => 0 | 6 => 2 | n => n⟩
theorem Tryz.lays157 : Go.Proofs.Lays.n157 Tryz.prog Tryz.lays157_ren := {
  mixed := by kernel_rfl
  f157 := Tryz.func58.trans (congrArg some (by kernel_rfl))
  f199 := Tryz.func74.trans (congrArg some (by kernel_rfl))
  f229 := Tryz.func73.trans (congrArg some (by kernel_rfl))
  f261 := Tryz.func79.trans (congrArg some (by kernel_rfl))
  f311 := Tryz.func83.trans (congrArg some (by kernel_rfl))
  f312 := Tryz.func84.trans (congrArg some (by kernel_rfl))
  t0 := Tryz.underlying0
  a0 := Tryz.isAgg0
  z0 := Tryz.sizeOf0
  v0 := Tryz.zeroValue0
  t3 := Tryz.underlying3
  a3 := Tryz.isAgg3
  z3 := Tryz.sizeOf3
  v3 := Tryz.zeroValue3
  t4 := Tryz.underlying4
  a4 := Tryz.isAgg4
  z4 := Tryz.sizeOf4
  v4 := Tryz.zeroValue4
  t5 := Tryz.underlying5
  a5 := Tryz.isAgg5
  z5 := Tryz.sizeOf5
  v5 := Tryz.zeroValue5
  t9 := Tryz.underlying9
  a9 := Tryz.isAgg9
  z9 := Tryz.sizeOf9
  v9 := Tryz.zeroValue9
  t21 := Tryz.underlying21
  a21 := Tryz.isAgg21
  z21 := Tryz.sizeOf21
  v21 := Tryz.zeroValue21
  t31 := Tryz.underlying82
  a31 := Tryz.isAgg82
  z31 := Tryz.sizeOf82
  v31 := Tryz.zeroValue82
  t40 := Tryz.underlying100
  a40 := Tryz.isAgg100
  z40 := Tryz.sizeOf100
  v40 := Tryz.zeroValue100
  t46 := Tryz.underlying135
  a46 := Tryz.isAgg135
  z46 := Tryz.sizeOf135
  v46 := Tryz.zeroValue135
  t49 := Tryz.underlying128
  a49 := Tryz.isAgg128
  z49 := Tryz.sizeOf128
  v49 := Tryz.zeroValue128
  t51 := Tryz.underlying120
  a51 := Tryz.isAgg120
  z51 := Tryz.sizeOf120
  v51 := Tryz.zeroValue120
  t119 := Tryz.underlying98
  a119 := Tryz.isAgg98
  z119 := Tryz.sizeOf98
  t141 := Tryz.underlying122
  a141 := Tryz.isAgg122
  z141 := Tryz.sizeOf122
  v141 := Tryz.zeroValue122
  t152 := Tryz.underlying117
  a152 := Tryz.isAgg117
  z152 := Tryz.sizeOf117
  v152 := Tryz.zeroValue117
  t154 := Tryz.underlying119
  a154 := Tryz.isAgg119
  z154 := Tryz.sizeOf119
  v154 := Tryz.zeroValue119
  t193 := Tryz.underlying124
  a193 := Tryz.isAgg124
  z193 := Tryz.sizeOf124
  v193 := Tryz.zeroValue124
  t194 := Tryz.underlying125
  a194 := Tryz.isAgg125
  z194 := Tryz.sizeOf125
  v194 := Tryz.zeroValue125
  t196 := Tryz.underlying127
  a196 := Tryz.isAgg127
  z196 := Tryz.sizeOf127
  v196 := Tryz.zeroValue127
  t198 := Tryz.underlying130
  a198 := Tryz.isAgg130
  z198 := Tryz.sizeOf130
  v198 := Tryz.zeroValue130
  t201 := Tryz.underlying133
  a201 := Tryz.isAgg133
  z201 := Tryz.sizeOf133
  v201 := Tryz.zeroValue133
  t226 := Tryz.underlying141
  a226 := Tryz.isAgg141
  z226 := Tryz.sizeOf141
  v226 := Tryz.zeroValue141
  t227 := Tryz.underlying142
  a227 := Tryz.isAgg142
  z227 := Tryz.sizeOf142
  v227 := Tryz.zeroValue142
  g0 := by kernel_rfl
  g6 := by kernel_rfl }
open Go.RowKit Go.Lib in
/-- strings.Fields, the table by 'Lib.TabIs' (as strings.TrimSpace's contract). 'hg': the table's number, by its name: at a dump 'by kernel_rfl'. (LAID: no walk: one application.) -/
theorem Tryz.strings_Fields (s : ByteArray) (w : World) (hs : s.size < 4294967281) (hascii : ∀ (j : Nat) b, s.data.toList[j]? = some b → b.toNat < 128) (htab : Lib.TabIs Tryz.prog w "strings.asciiSpace" .u8 Lib.asciiSpaceTab) :
    Calls Tryz.prog 58 #[.string s] w fun e w' =>
      e = .returned (.slice (some ⟨w.heap.size, 0, none⟩) (Lib.fields s.data.toList).length (Lib.fields s.data.toList).length) ∧ w' = w.alloc (.cells ((Lib.fields s.data.toList).map fun l => Value.string ⟨l.toArray⟩).toArray 9) := Any.strings_Fields Tryz.lays157 (by kernel_rfl) (by kernel_rfl) s w hs hascii htab
end Go.Proofs

/- strings.IndexByte and slices.ContainsFunc as the printed texts call them. -/
namespace Go.Proofs.YtghlbdemlmbijaaGreatDoor.Q
open Go.RowKit Go.Proofs.YtghlbdemlmbijaaGreatDoorW.PrintWords Go.Proofs.YtghlbdemlmbijaaGreatDoorW.PrintLast Go.Proofs.YtghlbdemlmbijaaGreatDoorW.PrintMore

def strings_IndexByte.f (a0 : ByteArray) (a1 : Int) : Option Int := some (Lib.indexByte (bs a0) a1.toNat.toUInt8)
theorem strings_IndexByte.calls (a0 : ByteArray) (a1 : Int) (r : Int) (w : World) (h : strings_IndexByte.f a0 a1 = some r) :
    Calls Tryz.prog 29 #[.string a0, .int .u8 a1] w fun e w' => e = .returned (.int .i64 r) ∧ Drawn0 w w' := by
  obtain rfl := Option.some.inj h
  exact (Tryz.strings_IndexByte a0 a1 w).mono fun e w' ⟨he, hw⟩ => ⟨he, by subst hw; exact Drawn0.refl _⟩

/-- A number that is no character: neither FNC1 nor from 0 to 127. -/
def badChar (c : Int) : Bool := c != 256 && (decide (c < 0) || decide (c > 127))
theorem closure_calls (c : Int) (w : World) : Calls Tryz.prog 39 #[.int .i64 c] w fun e w' => e = .returned (.bool (badChar c)) ∧ Drawn0 w w' := by
  unfold badChar
  by_cases h1 : c = 256
  · subst h1
    go_enter Tryz.func39, Tryz.ntmps39
    go_wp2
    go_ret
    exact ⟨rfl, Drawn0.refl _⟩
  · have h1a : (c == 256) = false := beq_eq_false_iff_ne.mpr h1
    have h1b : (c != 256) = true := bne_iff_ne.mpr h1
    by_cases h2 : c < 0
    · have h2a : decide (c < 0) = true := decide_eq_true h2
      go_enter Tryz.func39, Tryz.ntmps39
      go_wp2
      go_ret
      exact ⟨by simp [h1, h2], Drawn0.refl _⟩
    · have h2a : decide (c < 0) = false := decide_eq_false h2
      go_enter Tryz.func39, Tryz.ntmps39
      go_wp2
      all_goals go_ret
      all_goals exact ⟨by simp_all, Drawn0.refl _⟩

def cfunc.l : Nat → List Int → Int → Option Int
  | 0, _, _ => none
  | k + 1, l0, i => if i < (l0.length : Int) then (if 0 ≤ i then (if badChar (rd l0 i) = true then some i else cfunc.l k l0 (wrap64 (i + 1))) else none) else some (-1)
theorem cfunc.index_calls (k : Nat) (A0 : Option Addr) (c0 : Nat) (l0 : List Int) (r : Int) (w : World) (hr0 : Kd.C (Kd.int .i64) w A0 l0.length l0) (h : cfunc.l k l0 0 = some r) :
    Calls Tryz.prog 54 #[.slice A0 l0.length c0, .func (.func 39) #[] #[]] w fun e w' => e = .returned (.int .i64 r) ∧ Drawn0 w w' := by
  have HR0 := Aside0.mk hr0
  clear hr0
  have H' := Aside0.mk h
  clear h
  go_enter Tryz.func54, Tryz.ntmps54
  go_wp2
  go_loopg [8] k (fun kq v8 w' => ∃ (x8_1 : Int), v8 = .int .i64 x8_1 ∧ Aside0 (cfunc.l kq l0 x8_1 = some r) ∧ Aside0 (kq ≤ k) ∧ Drawn0 w w')
  case atStart => exact ⟨(0), (by first | rfl | (simp; done) | (simp [*]; done)), H', ⟨Nat.le_refl _⟩, by repeat (first | exact Drawn0.refl _ | apply Drawn0.step)⟩
  case round =>
    clear H'
    obtain ⟨x8_1, rfl, HA, HK1, ⟨m1, rfl⟩⟩ := hrel
    cases gk with
    | zero => exact absurd HA.out (by simp [cfunc.l])
    | succ k1 =>
      have H := HA.out
      clear HA
      simp only [cfunc.l] at H
      by_cases c3 : x8_1 < (l0.length : Int)
      · rw [if_pos c3] at H
        have c3b0 : decide (x8_1 < (l0.length : Int)) = true := decide_eq_true c3
        by_cases c4 : 0 ≤ x8_1
        · rw [if_pos c4] at H
          have c4b0 : decide (0 ≤ x8_1) = true := decide_eq_true c4
          obtain ⟨ad167, e167, hx167_0⟩ := Kd.at_int HR0.out x8_1 c4 c3
          cases e167
          replace c3 := eq_true c3
          replace c4 := eq_true c4
          have hcl := fun W : World => closure_calls (rd l0 x8_1) W
          cases hb : badChar (rd l0 x8_1) with
          | true =>
            rw [if_pos hb] at H
            obtain rfl := Option.some.inj H
            rw [hb] at hcl
            clear hb
            have HC := Lib.hid hcl
            clear hcl
            go_wp2_with (first | (refine (HC.out _).mono ?_; rintro e w' ⟨rfl, ⟨nd, rfl⟩⟩))
            go_ret
            exact ⟨by first | rfl | (simp; done) | (simp [*]; done), by repeat (first | exact Drawn0.refl _ | apply Drawn0.step)⟩
          | false =>
            rw [if_neg (by rw [hb]; decide)] at H
            have H' := Aside0.mk H
            clear H
            rw [hb] at hcl
            clear hb
            have HC := Lib.hid hcl
            clear hcl
            go_wp2_with (first | (refine (HC.out _).mono ?_; rintro e w' ⟨rfl, ⟨nd, rfl⟩⟩))
            go_roundg k1
            case measure => have := HK1.out; omega
            case rel => exact ⟨(wrap64 (x8_1 + 1)), (by first | rfl | (simp; done) | (simp [*]; done)), H', ⟨by have := HK1.out; omega⟩, by repeat (first | exact Drawn0.refl _ | apply Drawn0.step)⟩
        · rw [if_neg c4] at H
          exact absurd H (by simp)
      · rw [if_neg c3] at H
        have c3b0 : decide (x8_1 < (l0.length : Int)) = false := decide_eq_false c3
        clear c3
        obtain rfl := Option.some.inj H
        go_wp2
        go_ret
        exact ⟨by first | rfl | (simp; done) | (simp [*]; done), by repeat (first | exact Drawn0.refl _ | apply Drawn0.step)⟩
/-- From place i on, with enough rounds. -/
theorem cfunc.some_l (l0 : List Int) (hb : l0.length ≤ 9223372036854775807) (d : Nat) : ∀ (k i : Nat), i + d = l0.length → d < k → ∃ r, cfunc.l k l0 i = some r ∧ (r < 0 → (l0.drop i).any badChar = false) ∧ (0 ≤ r → (l0.drop i).any badChar = true) := by
  induction d with
  | zero =>
    intro k i h1 h2
    obtain ⟨k, rfl⟩ : ∃ m, k = m + 1 := ⟨k - 1, by omega⟩
    refine ⟨-1, by simp only [cfunc.l]; rw [if_neg (by omega)], fun _ => ?_, fun h => by omega⟩
    rw [List.drop_of_length_le (by omega)]
    rfl
  | succ d ih =>
    intro k i h1 h2
    obtain ⟨k, rfl⟩ : ∃ m, k = m + 1 := ⟨k - 1, by omega⟩
    have hlt : i < l0.length := by omega
    have hd : l0.drop i = l0[i] :: l0.drop (i + 1) := List.drop_eq_getElem_cons hlt
    have hrd : rd l0 (i : Int) = l0[i] := by simp [rd, List.getD, hlt]
    cases hc : badChar l0[i] with
    | true => exact ⟨i, by simp only [cfunc.l]; rw [if_pos (by omega), if_pos (by omega), hrd, if_pos hc], fun h => by omega, fun _ => by rw [hd, List.any_cons, hc]; rfl⟩
    | false =>
      obtain ⟨r, hr, h3, h4⟩ := ih k (i + 1) (by omega) (by omega)
      refine ⟨r, ?_, fun h => ?_, fun h => ?_⟩
      · simp only [cfunc.l]
        rw [if_pos (by omega), if_pos (by omega), hrd, if_neg (by rw [hc]; decide)]
        rw [show wrap64 ((i : Int) + 1) = ((i + 1 : Nat) : Int) by unfold wrap64; omega]
        exact hr
      · rw [hd, List.any_cons, hc, h3 h]; rfl
      · rw [hd, List.any_cons, hc, h4 h]; rfl
def slices_ContainsFunc_int.f (l0 : List Int) : Option Bool := some (l0.any badChar)
theorem slices_ContainsFunc_int.calls (A0 : Option Addr) (c0 : Nat) (l0 : List Int) (r : Bool) (w : World) (hr0 : Kd.C (Kd.int .i64) w A0 l0.length l0) (_hc0 : l0.length ≤ c0) (h : slices_ContainsFunc_int.f l0 = some r) :
    Calls Tryz.prog 38 #[.slice A0 l0.length c0, .func (.func 39) #[] #[]] w fun e w' => e = .returned (.bool r) ∧ Drawn0 w w' := by
  obtain rfl := Option.some.inj h
  have hb : l0.length ≤ 9223372036854775807   := (Kd.reads_of_C (enc := Value.int .i64) (d := (0 : Int)) (h1 := fun _ => rfl) hr0).2.1
  obtain ⟨r, hr, h1, h2⟩ := cfunc.some_l l0 hb l0.length (l0.length + 1) 0 (by omega) (by omega)
  rw [List.drop_zero] at h1 h2
  have hix := Lib.hid (fun W => fun (hw : Drawn0 w W) => cfunc.index_calls (l0.length + 1) A0 c0 l0 r W (by obtain ⟨n, rfl⟩ := hw; exact hr0) hr)
  clear hr0 h hr
  by_cases h0 : r < 0
  · rw [h1 h0]
    have hd : decide (0 ≤ r) = false := decide_eq_false (by omega)
    clear h1 h2 h0 hb
    go_enter Tryz.func38, Tryz.ntmps38
    go_wp2_with (first | (go_at_call 54; refine (hix.out _ (Drawn0.refl _)).mono ?_; rintro e w' ⟨rfl, ⟨nd, rfl⟩⟩))
    go_ret
    exact ⟨by first | rfl | (simp; done) | (simp [*]; done), by repeat (first | exact Drawn0.refl _ | apply Drawn0.step)⟩
  · rw [h2 (by omega)]
    have hd : decide (0 ≤ r) = true := decide_eq_true (by omega)
    clear h1 h2 h0 hb
    go_enter Tryz.func38, Tryz.ntmps38
    go_wp2_with (first | (go_at_call 54; refine (hix.out _ (Drawn0.refl _)).mono ?_; rintro e w' ⟨rfl, ⟨nd, rfl⟩⟩))
    go_ret
    exact ⟨by first | rfl | (simp; done) | (simp [*]; done), by repeat (first | exact Drawn0.refl _ | apply Drawn0.step)⟩
def strconv_Itoa.f (a0 : Int) : Option ByteArray := if 0 ≤ a0 then if a0 < 100 then some ⟨(Lib.decDigits a0.toNat).toArray⟩ else none else none
theorem strconv_Itoa.calls (a0 : Int) (r : ByteArray) (w : World) (h : strconv_Itoa.f a0 = some r) :
    Calls Tryz.prog 110 #[.int .i64 a0] w fun e w' => e = .returned (.string r) ∧ Drawn0 w w' := by
  unfold strconv_Itoa.f at h
  by_cases h0 : 0 ≤ a0
  · by_cases h1 : a0 < 100
    · rw [if_pos h0, if_pos h1] at h
      obtain rfl := Option.some.inj h
      obtain ⟨n, rfl⟩ := Int.eq_ofNat_of_zero_le h0
      rw [Int.toNat_natCast]
      exact (Tryz.strconv_Itoa_small n (by omega) w).mono fun e w' ⟨he, hw⟩ => ⟨he, by subst hw; exact Drawn0.refl _⟩
    · rw [if_pos h0, if_neg h1] at h; exact absurd h (by simp)
  · rw [if_neg h0] at h; exact absurd h (by simp)
end Go.Proofs.YtghlbdemlmbijaaGreatDoor.Q

namespace Go.Proofs.YtghlbdemlmbijaaGreatDoor.Q
open Go.RowKit Go.Proofs.YtghlbdemlmbijaaGreatDoorW.PrintWords Go.Proofs.YtghlbdemlmbijaaGreatDoorW.PrintLast Go.Proofs.YtghlbdemlmbijaaGreatDoorW.PrintMore

set_option linter.unusedVariables false
set_option linter.unusedSimpArgs false

/-! ### gs1_checked: function 56 -/
def gs1_checked.f (a0 : Int) : Option (Int × Int × Bool × Bool × Bool) := some (a0, a0, true, true, false)
set_option maxHeartbeats 8000000 in
set_option maxRecDepth 100000 in
theorem gs1_checked.calls (a0 : Int) (r1 : Int) (r2 : Int) (r3 : Bool) (r4 : Bool) (r5 : Bool) (w : World) (h : gs1_checked.f a0 = some (r1, r2, r3, r4, r5)) :
  Calls Tryz.prog 56 #[.int .i64 a0] w fun e w' => e = .returned (.agg #[.int .i64 r1, .int .i64 r2, .bool r3, .bool r4, .bool r5]) ∧ Below w.heap.size w w' := by
 have hu45 := Tryz.underlying45
 have HB := Aside0.mk (Below.refl w.heap.size w)
 have H : (some (a0, a0, true, true, false)) = some (r1, r2, r3, r4, r5) := h
 clear h
 simp only [Option.some.injEq, Prod.mk.injEq] at H
 obtain ⟨rfl, rfl, rfl, rfl, rfl⟩ := H
 go_enter Tryz.func56, Tryz.ntmps56
 go_wp2_with (first | ((with_reducible refine gate_dst (N := 2) rfl ?_); refine box_event ?hg (N := 2) ?hd (cs := #[.int .i64 0, .int .i64 0, .bool false, .bool false, .bool false]) (t := 45) ?hr ?_; (case hd => rfl); (case hg => rfl); (case hr => first | (go_simp; done) | (go_simp; rfl)); intro gb102 hg w2 hbox hb; have n0_ := Aside0.mk (below_step (by repeat (first | (with_reducible first | exact HB.out | apply below_alloc | apply pw_below_drewN | apply below_drew1) | exact HB.out)) hb); have n1_ := Aside0.mk (hbox); have n2_ := Aside0.mk ((by rw [hg]; exact (below_size (by repeat (first | (with_reducible first | exact HB.out | apply below_alloc | apply pw_below_drewN | apply below_drew1) | exact HB.out))) : w.heap.size ≤ gb102)); have n3_ := Aside0.mk ((by rw [hg]; exact (below_size (by repeat (first | (with_reducible first | exact HB.out | apply below_alloc | apply pw_below_drewN | apply below_drew1) | exact HB.out))) : w.heap.size ≤ gb102)); clear HB; have HB := n0_; have BK102 := n1_; have GW102 := n2_; have GE102 := n3_; clear n0_ n1_ n2_ n3_; clear hb hbox hg; have hcz3_0 : w2.cell? ⟨gb102, 0, none⟩ = some (.int .i64 0) := (blk_cell BK102.out 0).trans rfl; have hcz3_1 : w2.cell? ⟨gb102, 1, none⟩ = some (.int .i64 0) := (blk_cell BK102.out 1).trans rfl; have hcz3_2 : w2.cell? ⟨gb102, 2, none⟩ = some (.bool false) := (blk_cell BK102.out 2).trans rfl; have hcz3_3 : w2.cell? ⟨gb102, 3, none⟩ = some (.bool false) := (blk_cell BK102.out 3).trans rfl; have hcz3_4 : w2.cell? ⟨gb102, 4, none⟩ = some (.bool false) := (blk_cell BK102.out 4).trans rfl; have hfz3_0 := blk_frozen BK102.out 0; have hfz3_1 := blk_frozen BK102.out 1; have hfz3_2 := blk_frozen BK102.out 2; have hfz3_3 := blk_frozen BK102.out 3; have hfz3_4 := blk_frozen BK102.out 4))
 refine bodyPost_ret (results_cell_row rfl _ _ gb102 45 #[.int .i64 a0, .int .i64 a0, .bool true, .bool true, .bool false] (0, 0) _ rfl (by (with_reducible repeat (first | refine blk_drewN ?_ _ | refine blk_drew ?_ | refine blk_alloc ?_ _)); refine blk_put (cs := #[.int .i64 a0, .int .i64 a0, .bool true, .bool true, .bool false]) ?_ 4 _ rfl; (with_reducible repeat (first | refine blk_drewN ?_ _ | refine blk_drew ?_ | refine blk_alloc ?_ _)); refine blk_put (cs := #[.int .i64 a0, .int .i64 a0, .bool true, .bool false, .bool false]) ?_ 3 _ rfl; (with_reducible repeat (first | refine blk_drewN ?_ _ | refine blk_drew ?_ | refine blk_alloc ?_ _)); refine blk_put (cs := #[.int .i64 a0, .int .i64 a0, .bool false, .bool false, .bool false]) ?_ 2 _ rfl; (with_reducible repeat (first | refine blk_drewN ?_ _ | refine blk_drew ?_ | refine blk_alloc ?_ _)); refine blk_put (cs := #[.int .i64 a0, .int .i64 0, .bool false, .bool false, .bool false]) ?_ 1 _ rfl; (with_reducible repeat (first | refine blk_drewN ?_ _ | refine blk_drew ?_ | refine blk_alloc ?_ _)); refine blk_put (cs := #[.int .i64 0, .int .i64 0, .bool false, .bool false, .bool false]) ?_ 0 _ rfl; (with_reducible repeat (first | refine blk_drewN ?_ _ | refine blk_drew ?_ | refine blk_alloc ?_ _)); exact BK102.out) Tryz.underlying45 rfl (by kernel_rfl)) rfl ?_
 exact ⟨by first | rfl | (simp [errW_none, errW_some] <;> rfl) | (simp [*, errW_none, errW_some] <;> rfl), by repeat (first | (with_reducible first | exact HB.out | apply below_alloc | apply pw_below_drewN | apply below_drew1 | refine below_set ?_ GE102.out) | exact HB.out)⟩

end Go.Proofs.YtghlbdemlmbijaaGreatDoor.Q

namespace Go.Proofs.YtghlbdemlmbijaaGreatDoor.Q
open Go.RowKit Go.Proofs.YtghlbdemlmbijaaGreatDoorW.PrintWords Go.Proofs.YtghlbdemlmbijaaGreatDoorW.PrintLast Go.Proofs.YtghlbdemlmbijaaGreatDoorW.PrintMore

set_option linter.unusedVariables false
set_option linter.unusedSimpArgs false

/-! ### gs1_number: function 46 -/
def gs1_number.f (a0 : Int) : Option (Int × Int × Bool × Bool × Bool) := some (a0, a0, true, false, false)
set_option maxHeartbeats 8000000 in
set_option maxRecDepth 100000 in
theorem gs1_number.calls (a0 : Int) (r1 : Int) (r2 : Int) (r3 : Bool) (r4 : Bool) (r5 : Bool) (w : World) (h : gs1_number.f a0 = some (r1, r2, r3, r4, r5)) :
  Calls Tryz.prog 46 #[.int .i64 a0] w fun e w' => e = .returned (.agg #[.int .i64 r1, .int .i64 r2, .bool r3, .bool r4, .bool r5]) ∧ Below w.heap.size w w' := by
 have hu45 := Tryz.underlying45
 have HB := Aside0.mk (Below.refl w.heap.size w)
 have H : (some (a0, a0, true, false, false)) = some (r1, r2, r3, r4, r5) := h
 clear h
 simp only [Option.some.injEq, Prod.mk.injEq] at H
 obtain ⟨rfl, rfl, rfl, rfl, rfl⟩ := H
 go_enter Tryz.func46, Tryz.ntmps46
 go_wp2_with (first | ((with_reducible refine gate_dst (N := 2) rfl ?_); refine box_event ?hg (N := 2) ?hd (cs := #[.int .i64 0, .int .i64 0, .bool false, .bool false, .bool false]) (t := 45) ?hr ?_; (case hd => rfl); (case hg => rfl); (case hr => first | (go_simp; done) | (go_simp; rfl)); intro gb101 hg w2 hbox hb; have n0_ := Aside0.mk (below_step (by repeat (first | (with_reducible first | exact HB.out | apply below_alloc | apply pw_below_drewN | apply below_drew1) | exact HB.out)) hb); have n1_ := Aside0.mk (hbox); have n2_ := Aside0.mk ((by rw [hg]; exact (below_size (by repeat (first | (with_reducible first | exact HB.out | apply below_alloc | apply pw_below_drewN | apply below_drew1) | exact HB.out))) : w.heap.size ≤ gb101)); have n3_ := Aside0.mk ((by rw [hg]; exact (below_size (by repeat (first | (with_reducible first | exact HB.out | apply below_alloc | apply pw_below_drewN | apply below_drew1) | exact HB.out))) : w.heap.size ≤ gb101)); clear HB; have HB := n0_; have BK101 := n1_; have GW101 := n2_; have GE101 := n3_; clear n0_ n1_ n2_ n3_; clear hb hbox hg; have hcz3_0 : w2.cell? ⟨gb101, 0, none⟩ = some (.int .i64 0) := (blk_cell BK101.out 0).trans rfl; have hcz3_1 : w2.cell? ⟨gb101, 1, none⟩ = some (.int .i64 0) := (blk_cell BK101.out 1).trans rfl; have hcz3_2 : w2.cell? ⟨gb101, 2, none⟩ = some (.bool false) := (blk_cell BK101.out 2).trans rfl; have hcz3_3 : w2.cell? ⟨gb101, 3, none⟩ = some (.bool false) := (blk_cell BK101.out 3).trans rfl; have hcz3_4 : w2.cell? ⟨gb101, 4, none⟩ = some (.bool false) := (blk_cell BK101.out 4).trans rfl; have hfz3_0 := blk_frozen BK101.out 0; have hfz3_1 := blk_frozen BK101.out 1; have hfz3_2 := blk_frozen BK101.out 2; have hfz3_3 := blk_frozen BK101.out 3; have hfz3_4 := blk_frozen BK101.out 4))
 refine bodyPost_ret (results_cell_row rfl _ _ gb101 45 #[.int .i64 a0, .int .i64 a0, .bool true, .bool false, .bool false] (0, 0) _ rfl (by (with_reducible repeat (first | refine blk_drewN ?_ _ | refine blk_drew ?_ | refine blk_alloc ?_ _)); refine blk_put (cs := #[.int .i64 a0, .int .i64 a0, .bool true, .bool false, .bool false]) ?_ 4 _ rfl; (with_reducible repeat (first | refine blk_drewN ?_ _ | refine blk_drew ?_ | refine blk_alloc ?_ _)); refine blk_put (cs := #[.int .i64 a0, .int .i64 a0, .bool true, .bool false, .bool false]) ?_ 3 _ rfl; (with_reducible repeat (first | refine blk_drewN ?_ _ | refine blk_drew ?_ | refine blk_alloc ?_ _)); refine blk_put (cs := #[.int .i64 a0, .int .i64 a0, .bool false, .bool false, .bool false]) ?_ 2 _ rfl; (with_reducible repeat (first | refine blk_drewN ?_ _ | refine blk_drew ?_ | refine blk_alloc ?_ _)); refine blk_put (cs := #[.int .i64 a0, .int .i64 0, .bool false, .bool false, .bool false]) ?_ 1 _ rfl; (with_reducible repeat (first | refine blk_drewN ?_ _ | refine blk_drew ?_ | refine blk_alloc ?_ _)); refine blk_put (cs := #[.int .i64 0, .int .i64 0, .bool false, .bool false, .bool false]) ?_ 0 _ rfl; (with_reducible repeat (first | refine blk_drewN ?_ _ | refine blk_drew ?_ | refine blk_alloc ?_ _)); exact BK101.out) Tryz.underlying45 rfl (by kernel_rfl)) rfl ?_
 exact ⟨by first | rfl | (simp [errW_none, errW_some] <;> rfl) | (simp [*, errW_none, errW_some] <;> rfl), by repeat (first | (with_reducible first | exact HB.out | apply below_alloc | apply pw_below_drewN | apply below_drew1 | refine below_set ?_ GE101.out) | exact HB.out)⟩

end Go.Proofs.YtghlbdemlmbijaaGreatDoor.Q

namespace Go.Proofs.YtghlbdemlmbijaaGreatDoor.Q
open Go.RowKit Go.Proofs.YtghlbdemlmbijaaGreatDoorW.PrintWords Go.Proofs.YtghlbdemlmbijaaGreatDoorW.PrintLast Go.Proofs.YtghlbdemlmbijaaGreatDoorW.PrintMore

set_option linter.unusedVariables false
set_option linter.unusedSimpArgs false

/-! ### gs1_text: function 57 -/
def gs1_text.f (a0 : Int) : Option (Int × Int × Bool × Bool × Bool) := some (0, a0, false, false, false)
set_option maxHeartbeats 8000000 in
set_option maxRecDepth 100000 in
theorem gs1_text.calls (a0 : Int) (r1 : Int) (r2 : Int) (r3 : Bool) (r4 : Bool) (r5 : Bool) (w : World) (h : gs1_text.f a0 = some (r1, r2, r3, r4, r5)) :
  Calls Tryz.prog 57 #[.int .i64 a0] w fun e w' => e = .returned (.agg #[.int .i64 r1, .int .i64 r2, .bool r3, .bool r4, .bool r5]) ∧ Below w.heap.size w w' := by
 have hu45 := Tryz.underlying45
 have HB := Aside0.mk (Below.refl w.heap.size w)
 have H : (some (0, a0, false, false, false)) = some (r1, r2, r3, r4, r5) := h
 clear h
 simp only [Option.some.injEq, Prod.mk.injEq] at H
 obtain ⟨rfl, rfl, rfl, rfl, rfl⟩ := H
 go_enter Tryz.func57, Tryz.ntmps57
 go_wp2_with (first | ((with_reducible refine gate_dst (N := 2) rfl ?_); refine box_event ?hg (N := 2) ?hd (cs := #[.int .i64 0, .int .i64 0, .bool false, .bool false, .bool false]) (t := 45) ?hr ?_; (case hd => rfl); (case hg => rfl); (case hr => first | (go_simp; done) | (go_simp; rfl)); intro gb103 hg w2 hbox hb; have n0_ := Aside0.mk (below_step (by repeat (first | (with_reducible first | exact HB.out | apply below_alloc | apply pw_below_drewN | apply below_drew1) | exact HB.out)) hb); have n1_ := Aside0.mk (hbox); have n2_ := Aside0.mk ((by rw [hg]; exact (below_size (by repeat (first | (with_reducible first | exact HB.out | apply below_alloc | apply pw_below_drewN | apply below_drew1) | exact HB.out))) : w.heap.size ≤ gb103)); have n3_ := Aside0.mk ((by rw [hg]; exact (below_size (by repeat (first | (with_reducible first | exact HB.out | apply below_alloc | apply pw_below_drewN | apply below_drew1) | exact HB.out))) : w.heap.size ≤ gb103)); clear HB; have HB := n0_; have BK103 := n1_; have GW103 := n2_; have GE103 := n3_; clear n0_ n1_ n2_ n3_; clear hb hbox hg; have hcz3_0 : w2.cell? ⟨gb103, 0, none⟩ = some (.int .i64 0) := (blk_cell BK103.out 0).trans rfl; have hcz3_1 : w2.cell? ⟨gb103, 1, none⟩ = some (.int .i64 0) := (blk_cell BK103.out 1).trans rfl; have hcz3_2 : w2.cell? ⟨gb103, 2, none⟩ = some (.bool false) := (blk_cell BK103.out 2).trans rfl; have hcz3_3 : w2.cell? ⟨gb103, 3, none⟩ = some (.bool false) := (blk_cell BK103.out 3).trans rfl; have hcz3_4 : w2.cell? ⟨gb103, 4, none⟩ = some (.bool false) := (blk_cell BK103.out 4).trans rfl; have hfz3_0 := blk_frozen BK103.out 0; have hfz3_1 := blk_frozen BK103.out 1; have hfz3_2 := blk_frozen BK103.out 2; have hfz3_3 := blk_frozen BK103.out 3; have hfz3_4 := blk_frozen BK103.out 4))
 refine bodyPost_ret (results_cell_row rfl _ _ gb103 45 #[.int .i64 0, .int .i64 a0, .bool false, .bool false, .bool false] (0, 0) _ rfl (by (with_reducible repeat (first | refine blk_drewN ?_ _ | refine blk_drew ?_ | refine blk_alloc ?_ _)); refine blk_put (cs := #[.int .i64 0, .int .i64 a0, .bool false, .bool false, .bool false]) ?_ 4 _ rfl; (with_reducible repeat (first | refine blk_drewN ?_ _ | refine blk_drew ?_ | refine blk_alloc ?_ _)); refine blk_put (cs := #[.int .i64 0, .int .i64 a0, .bool false, .bool false, .bool false]) ?_ 3 _ rfl; (with_reducible repeat (first | refine blk_drewN ?_ _ | refine blk_drew ?_ | refine blk_alloc ?_ _)); refine blk_put (cs := #[.int .i64 0, .int .i64 a0, .bool false, .bool false, .bool false]) ?_ 2 _ rfl; (with_reducible repeat (first | refine blk_drewN ?_ _ | refine blk_drew ?_ | refine blk_alloc ?_ _)); refine blk_put (cs := #[.int .i64 0, .int .i64 0, .bool false, .bool false, .bool false]) ?_ 1 _ rfl; (with_reducible repeat (first | refine blk_drewN ?_ _ | refine blk_drew ?_ | refine blk_alloc ?_ _)); refine blk_put (cs := #[.int .i64 0, .int .i64 0, .bool false, .bool false, .bool false]) ?_ 0 _ rfl; (with_reducible repeat (first | refine blk_drewN ?_ _ | refine blk_drew ?_ | refine blk_alloc ?_ _)); exact BK103.out) Tryz.underlying45 rfl (by kernel_rfl)) rfl ?_
 exact ⟨by first | rfl | (simp [errW_none, errW_some] <;> rfl) | (simp [*, errW_none, errW_some] <;> rfl), by repeat (first | (with_reducible first | exact HB.out | apply below_alloc | apply pw_below_drewN | apply below_drew1 | refine below_set ?_ GE103.out) | exact HB.out)⟩

end Go.Proofs.YtghlbdemlmbijaaGreatDoor.Q

/- gs1.forms: the map that it makes, whatever the world. (Its six loops were written by wip/tools/genform.py.) -/
namespace Go.Proofs.YtghlbdemlmbijaaGreatDoor.Q
open Go.RowKit Go.Maps Go.WideMaps Go.Proofs.YtghlbdemlmbijaaGreatDoorW.PrintWords Go.Proofs.YtghlbdemlmbijaaGreatDoorW.PrintLast Go.Proofs.YtghlbdemlmbijaaGreatDoorW.PrintMore
set_option linter.unusedVariables false
set_option linter.unusedSimpArgs false

theorem strLaw : Keyed Tryz.prog 9 := string_keyed Tryz.underlying9
/-- The map of the call's own at block b. -/
structure MInv (w wr : World) (b n : Nat) (D : DataW Unit) : Prop where
  own : wr.ownsMap Tryz.prog 9 readForm b n D
  bel : Below w.heap.size w wr
  ge : w.heap.size ≤ b
theorem MInv.below {w wr w1 : World} {b n : Nat} {D : DataW Unit} (h : MInv w wr b n D) (hb : Below wr.heap.size wr w1) : MInv w w1 b n D :=
  ⟨h.own.kept (grown_of_below hb none) (by simp), below_step h.bel hb, h.ge⟩
theorem MInv.put {w wr w1 : World} {b n n' : Nat} {D D' : DataW Unit} (h : MInv w wr b n D) (ho : w1.ownsMap Tryz.prog 9 readForm b n' D') (hg : wr.grownBy w1 (some b)) : MInv w w1 b n' D' :=
  ⟨ho, h.bel.grown hg h.bel.size (fun k hk => by injection hk with hk; have := h.ge; omega), h.ge⟩
/-- A row of strings of the call's own beside it, at block B. -/
def cellsOf (l : List (List UInt8)) : Array Value := (l.map fun x => Value.string ⟨x.toArray⟩).toArray
structure FInv (w wr : World) (b B : Nat) (l : List (List UInt8)) (n : Nat) (D : DataW Unit) : Prop where
  m : MInv w wr b n D
  blk : wr.heap[B]? = some (.cells (cellsOf l) 9 (0, 0))
  ne : B ≠ b
theorem FInv.start {w wr : World} {b n : Nat} {D : DataW Unit} (h : MInv w wr b n D) (l : List (List UInt8)) : FInv w (wr.alloc (.cells (cellsOf l) 9)) b wr.heap.size l n D :=
  ⟨h.below ((Below.refl _ _).alloc (Nat.le_refl _) _), by simpa using heap_alloc_new wr (.cells (cellsOf l) 9 (0, 0)), fun e => by have := h.own.lt; omega⟩
theorem FInv.below {w wr w1 : World} {b B n : Nat} {l : List (List UInt8)} {D : DataW Unit} (h : FInv w wr b B l n D) (hb : Below wr.heap.size wr w1) : FInv w w1 b B l n D :=
  ⟨h.m.below hb, (hb.block B (blk_lt h.blk)).trans h.blk, h.ne⟩
theorem MInv.cast {w wr : World} {b n n' : Nat} {D D' : DataW Unit} (h : MInv w wr b n D) (hD : D = D') (hn : n = n') : MInv w wr b n' D' := hD ▸ hn ▸ h
theorem FInv.cast {w wr : World} {b B n n' : Nat} {l : List (List UInt8)} {D D' : DataW Unit} (h : FInv w wr b B l n D) (hD : D = D') (hn : n = n') : FInv w wr b B l n' D' := hD ▸ hn ▸ h
theorem FInv.put {w wr w1 : World} {b B n n' : Nat} {l : List (List UInt8)} {D D' : DataW Unit} (h : FInv w wr b B l n D) (ho : w1.ownsMap Tryz.prog 9 readForm b n' D') (hg : wr.grownBy w1 (some b)) : FInv w w1 b B l n' D' :=
  ⟨h.m.put ho hg, (hg.block B (blk_lt h.blk) (by intro e; injection e with e; exact h.ne e)).trans h.blk, h.ne⟩
theorem FInv.cell {w wr : World} {b B n : Nat} {l : List (List UInt8)} {D : DataW Unit} (h : FInv w wr b B l n D) (k : Nat) (hk : k < l.length) : wr.cell? ⟨B, k, none⟩ = some (.string ⟨(l[k]).toArray⟩) := by
  rw [blk_cell h.blk k]
  simp [cellsOf, hk]
theorem snoc_take (pre : List (List UInt8 × Form)) (l : List (List UInt8)) (f : Form) (k : Nat) (hk : k < l.length) :
    pre ++ (l.take (k + 1)).map (fun x => (x, f)) = (pre ++ (l.take k).map (fun x => (x, f))) ++ [(l[k], f)] := by
  rw [List.take_succ_eq_append_getElem hk, List.map_append, List.append_assoc]
  rfl

def items0 : List (List UInt8 × Form) := [([48, 48], (18, 18, true, true, false)), ([48, 49], (14, 14, true, true, false)), ([48, 50], (14, 14, true, true, false)), ([50, 48], (2, 2, true, false, false)), ([56, 48, 50, 48], (0, 25, false, false, false))]
def names1 : List (List UInt8) := [[49, 49], [49, 50], [49, 51], [49, 53], [49, 54], [49, 55]]
def form1 : Form := (6, 6, true, false, true)
def items1 : List (List UInt8 × Form) := items0 ++ names1.map fun x => (x, form1)
theorem fields1 (W : World) (hT : Tabs W) : Calls Tryz.prog 58 #[.string ⟨#[49, 49, 32, 49, 50, 32, 49, 51, 32, 49, 53, 32, 49, 54, 32, 49, 55]⟩] W fun e w' => e = .returned (.slice (some ⟨W.heap.size, 0, none⟩) 6 6) ∧ w' = W.alloc (.cells (cellsOf names1) 9) := by
  have hf : Lib.fields (⟨#[49, 49, 32, 49, 50, 32, 49, 51, 32, 49, 53, 32, 49, 54, 32, 49, 55]⟩ : ByteArray).data.toList = names1 := by decide +kernel
  have h := Tryz.strings_Fields ⟨#[49, 49, 32, 49, 50, 32, 49, 51, 32, 49, 53, 32, 49, 54, 32, 49, 55]⟩ W (by decide) (ascii_of_all (by decide)) hT.space
  rw [hf] at h
  exact h
def names2 : List (List UInt8) := [[52, 49, 48], [52, 49, 49], [52, 49, 50], [52, 49, 51], [52, 49, 52], [52, 49, 53], [52, 49, 54], [52, 49, 55]]
def form2 : Form := (13, 13, true, true, false)
def items2 : List (List UInt8 × Form) := items1 ++ names2.map fun x => (x, form2)
theorem fields2 (W : World) (hT : Tabs W) : Calls Tryz.prog 58 #[.string ⟨#[52, 49, 48, 32, 52, 49, 49, 32, 52, 49, 50, 32, 52, 49, 51, 32, 52, 49, 52, 32, 52, 49, 53, 32, 52, 49, 54, 32, 52, 49, 55]⟩] W fun e w' => e = .returned (.slice (some ⟨W.heap.size, 0, none⟩) 8 8) ∧ w' = W.alloc (.cells (cellsOf names2) 9) := by
  have hf : Lib.fields (⟨#[52, 49, 48, 32, 52, 49, 49, 32, 52, 49, 50, 32, 52, 49, 51, 32, 52, 49, 52, 32, 52, 49, 53, 32, 52, 49, 54, 32, 52, 49, 55]⟩ : ByteArray).data.toList = names2 := by decide +kernel
  have h := Tryz.strings_Fields ⟨#[52, 49, 48, 32, 52, 49, 49, 32, 52, 49, 50, 32, 52, 49, 51, 32, 52, 49, 52, 32, 52, 49, 53, 32, 52, 49, 54, 32, 52, 49, 55]⟩ W (by decide) (ascii_of_all (by decide)) hT.space
  rw [hf] at h
  exact h
def names3 : List (List UInt8) := [[51, 48], [51, 55]]
def form3 : Form := (0, 8, true, false, false)
def items3 : List (List UInt8 × Form) := items2 ++ names3.map fun x => (x, form3)
theorem fields3 (W : World) (hT : Tabs W) : Calls Tryz.prog 58 #[.string ⟨#[51, 48, 32, 51, 55]⟩] W fun e w' => e = .returned (.slice (some ⟨W.heap.size, 0, none⟩) 2 2) ∧ w' = W.alloc (.cells (cellsOf names3) 9) := by
  have hf : Lib.fields (⟨#[51, 48, 32, 51, 55]⟩ : ByteArray).data.toList = names3 := by decide +kernel
  have h := Tryz.strings_Fields ⟨#[51, 48, 32, 51, 55]⟩ W (by decide) (ascii_of_all (by decide)) hT.space
  rw [hf] at h
  exact h
def names4 : List (List UInt8) := [[49, 48], [50, 49], [50, 50], [50, 53, 52]]
def form4 : Form := (0, 20, false, false, false)
def items4 : List (List UInt8 × Form) := items3 ++ names4.map fun x => (x, form4)
theorem fields4 (W : World) (hT : Tabs W) : Calls Tryz.prog 58 #[.string ⟨#[49, 48, 32, 50, 49, 32, 50, 50, 32, 50, 53, 52]⟩] W fun e w' => e = .returned (.slice (some ⟨W.heap.size, 0, none⟩) 4 4) ∧ w' = W.alloc (.cells (cellsOf names4) 9) := by
  have hf : Lib.fields (⟨#[49, 48, 32, 50, 49, 32, 50, 50, 32, 50, 53, 52]⟩ : ByteArray).data.toList = names4 := by decide +kernel
  have h := Tryz.strings_Fields ⟨#[49, 48, 32, 50, 49, 32, 50, 50, 32, 50, 53, 52]⟩ W (by decide) (ascii_of_all (by decide)) hT.space
  rw [hf] at h
  exact h
def names5 : List (List UInt8) := [[50, 52, 48], [50, 52, 49], [50, 53, 48], [50, 53, 49], [52, 48, 48], [52, 48, 49], [52, 48, 51], [57, 48]]
def form5 : Form := (0, 30, false, false, false)
def items5 : List (List UInt8 × Form) := items4 ++ names5.map fun x => (x, form5)
theorem fields5 (W : World) (hT : Tabs W) : Calls Tryz.prog 58 #[.string ⟨#[50, 52, 48, 32, 50, 52, 49, 32, 50, 53, 48, 32, 50, 53, 49, 32, 52, 48, 48, 32, 52, 48, 49, 32, 52, 48, 51, 32, 57, 48]⟩] W fun e w' => e = .returned (.slice (some ⟨W.heap.size, 0, none⟩) 8 8) ∧ w' = W.alloc (.cells (cellsOf names5) 9) := by
  have hf : Lib.fields (⟨#[50, 52, 48, 32, 50, 52, 49, 32, 50, 53, 48, 32, 50, 53, 49, 32, 52, 48, 48, 32, 52, 48, 49, 32, 52, 48, 51, 32, 57, 48]⟩ : ByteArray).data.toList = names5 := by decide +kernel
  have h := Tryz.strings_Fields ⟨#[50, 52, 48, 32, 50, 52, 49, 32, 50, 53, 48, 32, 50, 53, 49, 32, 52, 48, 48, 32, 52, 48, 49, 32, 52, 48, 51, 32, 57, 48]⟩ W (by decide) (ascii_of_all (by decide)) hT.space
  rw [hf] at h
  exact h
def names6 : List (List UInt8) := [[57, 49], [57, 50], [57, 51], [57, 52], [57, 53], [57, 54], [57, 55], [57, 56], [57, 57]]
def form6 : Form := (0, 90, false, false, false)
def items6 : List (List UInt8 × Form) := items5 ++ names6.map fun x => (x, form6)
theorem fields6 (W : World) (hT : Tabs W) : Calls Tryz.prog 58 #[.string ⟨#[57, 49, 32, 57, 50, 32, 57, 51, 32, 57, 52, 32, 57, 53, 32, 57, 54, 32, 57, 55, 32, 57, 56, 32, 57, 57]⟩] W fun e w' => e = .returned (.slice (some ⟨W.heap.size, 0, none⟩) 9 9) ∧ w' = W.alloc (.cells (cellsOf names6) 9) := by
  have hf : Lib.fields (⟨#[57, 49, 32, 57, 50, 32, 57, 51, 32, 57, 52, 32, 57, 53, 32, 57, 54, 32, 57, 55, 32, 57, 56, 32, 57, 57]⟩ : ByteArray).data.toList = names6 := by decide +kernel
  have h := Tryz.strings_Fields ⟨#[57, 49, 32, 57, 50, 32, 57, 51, 32, 57, 52, 32, 57, 53, 32, 57, 54, 32, 57, 55, 32, 57, 56, 32, 57, 57]⟩ W (by decide) (ascii_of_all (by decide)) hT.space
  rw [hf] at h
  exact h
end Go.Proofs.YtghlbdemlmbijaaGreatDoor.Q
