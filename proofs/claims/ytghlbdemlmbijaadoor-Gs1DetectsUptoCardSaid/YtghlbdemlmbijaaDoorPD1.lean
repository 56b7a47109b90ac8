/- Joined by a program of this work (pack.py) out of the texts Tabs, Q0, Pl, GMap, Shelf, GLib, Qgs1checked, Qgs1number, Qgs1text, GForms1, GForms2, GForm, Qgs1Fixed, Ph1, Qgs1within, Qgs1two of this seat, in build order. -/
import Derived.Test.YtghlbdemlmbijaaDoorWWords
import Derived.Test.YtghlbdemlmbijaaDoorWLast
import Derived.Test.YtghlbdemlmbijaaDoorWApart
import Derived.Test.YtghlbdemlmbijaaDoorWEqStruct
import Derived.Test.YtghlbdemlmbijaaDoorWFoot
import Derived.Test.YtghlbdemlmbijaaDoorWGuard
import Derived.Test.YtghlbdemlmbijaaDoorWShare
import Derived.Test.YtghlbdemlmbijaaDoorWMore
import Derived.Test.YtghlbdemlmbijaaDoorWRepsOne
import Derived.Test.YtghlbdemlmbijaaDoorWTab
import Derived.Test.YtghlbdemlmbijaaDoorProg
import Derived.Lib.LaidTab
import Derived.Lib.Space
import Derived.Below
import Derived.WalkSmall
import Derived.KernelRfl
import Derived.Deep.Draws
import Derived.Deep.AppendLies
import Derived.Maps.AppendAt
import Derived.OwnWalk
import Derived.Laws.BytesArg
import Derived.Laws.MakeOwn
import Derived.Laws.OwnMore
import Derived.Deep.OwnRows
import Derived.Tactics
import Derived.Lib.ConvBytes
import Derived.Laws.Slices
import Derived.WalkKit
import Derived.RowKit3
import Derived.Deep.LoopGhost
import Derived.Deep.QuietTactic
import Derived.BigQuiet
import Derived.WideLaws
import Derived.Deep.DeepCutAuto
import Derived.Deep.CutBlock
import Derived.Deep.RegionHeld3
import Derived.Laws.Rows
import Derived.Lib.AppendStr
import Derived.ArgAppend
import Derived.Laws.IdiomCopy
import Derived.OrdersHeld
import Derived.Laws.BitsLemmas
import Derived.RowKit
import Derived.WalkLawsBesides
import Derived.Lib.IndexLaws
import Derived.Lib.Strings
import Derived.Lib.ItoaNum
import Derived.Maps.Own
import Derived.Maps.OwnOps
import Derived.Maps.OwnSet
import Derived.StringKeys
import Derived.Shelf.Strings.Builder1
import Derived.Shelf.Strings.Trim
import Derived.Shelf.Small.Utf8
import Derived.Shelf.Small.Strs
import Derived.Shelf.Strconv.Itoa0
import Derived.Shelf.Strconv.Itoa1
import Derived.Shelf.LaysM
import Derived.Shelf.Strconv.Itoa2
import Derived.Shelf.Strconv.Itoa3
import Derived.Shelf.Strings.Search1
import Derived.Shelf.Strings.Fields
import Derived.Shelf.Unicode.Latin
import Derived.Shelf.Strings.Runes
import Derived.Shelf.Strings.AsciiSet
import Derived.Shelf.Unicode.DecodeSlow
import Derived.Shelf.Unicode.Is16White
import Derived.Shelf.Unicode.IsSpaceAny
import Derived.Shelf.Unicode.Is16Any
import Derived.Shelf.Unicode.Is32Any
import Derived.Shelf.Unicode.ExclAny
import Derived.Shelf.Slices.Turned
import Derived.Shelf.Strings.SlTrimAscii
import Derived.Lib.Hide
/- The library's table of white space, as the program's text lays it: what the walks ask of the world, and that it stays. -/
namespace Go.Proofs.YtghlbdemlmbijaaDoor
open Go.RowKit
/-- The table strings.asciiSpace holds what its initialiser lays. -/
structure Tabs (w : World) : Prop where
  space : Lib.TabIs Tryd.prog w "strings.asciiSpace" .u8 Lib.asciiSpaceTab
theorem gSpace : Tryd.prog.globalNamed "strings.asciiSpace" = some 1 := by kernel_rfl
theorem Tabs.lt {w : World} (h : Tabs w) : 1 < w.heap.size := by
  have h1 := h.space
  unfold Lib.TabIs World.var? at h1
  simp only [gSpace, Option.bind_some] at h1
  rcases Nat.lt_or_ge 1 w.heap.size with h2 | h2
  · exact h2
  · simp [Array.getElem?_eq_none h2] at h1
theorem Tabs.below {w w1 : World} (h : Tabs w) (hb : Below w.heap.size w w1) : Tabs w1 := ⟨var?_below hb gSpace h.lt h.space⟩
/-- A constant string's size. -/
theorem size_lit (l : List UInt8) : (⟨⟨l⟩⟩ : ByteArray).size = l.length := rfl
end Go.Proofs.YtghlbdemlmbijaaDoor

namespace Go.Proofs.YtghlbdemlmbijaaDoor.Q
open Go.RowKit Go.Proofs.YtghlbdemlmbijaaDoorW.PrintWords Go.Proofs.YtghlbdemlmbijaaDoorW.PrintLast Go.Proofs.YtghlbdemlmbijaaDoorW.PrintMore

set_option linter.unusedVariables false
set_option linter.unusedSimpArgs false



def errW : Option Int → Value
  | none => .nilIface
  | some c => .iface 0 (.int .i64 c)
theorem errW_none : errW none = .nilIface := rfl
theorem errW_some (c : Int) : errW (some c) = .iface 0 (.int .i64 c) := rfl

theorem info3 : (Tryd.prog.info? 3).map (fun i => (i.zero, i.size, i.bytes)) = some (some (.int .i64 0), 1, 8) := by kernel_rfl
theorem info5 : (Tryd.prog.info? 5).map (fun i => (i.zero, i.size, i.bytes)) = some (some (.int .u8 0), 1, 1) := by kernel_rfl
theorem info38 : (Tryd.prog.info? 38).map (fun i => (i.zero, i.size, i.bytes)) = some (some (.agg #[(.string ⟨#[]⟩), (.string ⟨#[]⟩)]), 2, 32) := by kernel_rfl
-- the values' own types
/-! #### struct type 56 -/
structure S56 where
  f0 : Int
  f1 : Int
  f2 : Bool
  f3 : Bool
  f4 : Bool
def z56 : S56 := ⟨(0 : Int), (0 : Int), false, false, false⟩
def k56 : Kd S56 := Kd.iso (Kd.pair (Kd.int .i64) (Kd.pair (Kd.int .i64) (Kd.pair Kd.bool (Kd.pair Kd.bool Kd.bool)))) (fun x : S56 => (x.f0, x.f1, x.f2, x.f3, x.f4))
theorem k56_heap : Kd.Heap k56 := Kd.heap_iso _ (Kd.heap_pair (Kd.heap_int .i64) (Kd.heap_pair (Kd.heap_int .i64) (Kd.heap_pair Kd.heap_bool (Kd.heap_pair Kd.heap_bool Kd.heap_bool))))
theorem k56_open {w : World} {x : S56} {cs : List Value} (h : k56.K w x cs) : cs = [.int .i64 x.f0, .int .i64 x.f1, .bool x.f2, .bool x.f3, .bool x.f4] := by
  obtain ⟨_, _, rfl, rfl, ⟨_, _, rfl, rfl, ⟨_, _, rfl, rfl, ⟨_, _, rfl, rfl, rfl⟩⟩⟩⟩ := h
  exact rfl
theorem k56_openM {w : World} {base : Nat} {ok : Nat → Prop} {x : S56} {cs : List Value} (h : k56.M w base ok x cs) : cs = [.int .i64 x.f0, .int .i64 x.f1, .bool x.f2, .bool x.f3, .bool x.f4] := by
  obtain ⟨_, _, rfl, rfl, ⟨_, _, rfl, rfl, ⟨_, _, rfl, rfl, ⟨_, _, rfl, rfl, rfl⟩⟩⟩⟩ := h
  exact rfl
theorem k56_mk (w : World) (x : S56)  : k56.K w x [.int .i64 x.f0, .int .i64 x.f1, .bool x.f2, .bool x.f3, .bool x.f4] := ⟨[.int .i64 x.f0], [.int .i64 x.f1, .bool x.f2, .bool x.f3, .bool x.f4], rfl, rfl, ⟨[.int .i64 x.f1], [.bool x.f2, .bool x.f3, .bool x.f4], rfl, rfl, ⟨[.bool x.f2], [.bool x.f3, .bool x.f4], rfl, rfl, ⟨[.bool x.f3], [.bool x.f4], rfl, rfl, rfl⟩⟩⟩⟩
theorem k56_mkM (w : World) (base : Nat) (ok : Nat → Prop) (x : S56)  : k56.M w base ok x [.int .i64 x.f0, .int .i64 x.f1, .bool x.f2, .bool x.f3, .bool x.f4] := ⟨[.int .i64 x.f0], [.int .i64 x.f1, .bool x.f2, .bool x.f3, .bool x.f4], rfl, rfl, ⟨[.int .i64 x.f1], [.bool x.f2, .bool x.f3, .bool x.f4], rfl, rfl, ⟨[.bool x.f2], [.bool x.f3, .bool x.f4], rfl, rfl, ⟨[.bool x.f3], [.bool x.f4], rfl, rfl, rfl⟩⟩⟩⟩
theorem k56_mkF (W : World) (ok : Nat → Prop) (x : S56) : Kd.FK k56 W ok x [.int .i64 x.f0, .int .i64 x.f1, .bool x.f2, .bool x.f3, .bool x.f4] := fun W2 _ => k56_mk W2 x
def rd_T56 (xs : List S56) (i : Int) : S56 := xs.getD i.toNat z56
theorem at_T56 {w : World} {A : Option Addr} {n : Nat} {xs : List S56} (h : Kd.C k56 w A n xs) (i : Int) (h0 : 0 ≤ i) (h1 : i < n) : ∃ ad , A = some ad ∧ w.cell? (ad.add (i.toNat * 5)) = some (.int .i64 (rd_T56 xs i).f0) ∧ w.cell? ⟨(ad.add (i.toNat * 5)).block, (ad.add (i.toNat * 5)).off + 1, none⟩ = some (.int .i64 (rd_T56 xs i).f1) ∧ w.cell? ⟨(ad.add (i.toNat * 5)).block, (ad.add (i.toNat * 5)).off + 2, none⟩ = some (.bool (rd_T56 xs i).f2) ∧ w.cell? ⟨(ad.add (i.toNat * 5)).block, (ad.add (i.toNat * 5)).off + 3, none⟩ = some (.bool (rd_T56 xs i).f3) ∧ w.cell? ⟨(ad.add (i.toNat * 5)).block, (ad.add (i.toNat * 5)).off + 4, none⟩ = some (.bool (rd_T56 xs i).f4) := by
  obtain ⟨ad, c, e, _, hK, hc0⟩ := Kd.C_get h z56 i h0 h1
  have hc : ∀ j u, c[j]? = some u → w.cell? (ad.add (i.toNat * 5 + j)) = some u := hc0
  obtain rfl := k56_open hK
  exact ⟨ad, e, hc 0 _ rfl, by rw [← add_field _ _ 1 (by omega)]; exact hc 1 _ rfl, by rw [← add_field _ _ 2 (by omega)]; exact hc 2 _ rfl, by rw [← add_field _ _ 3 (by omega)]; exact hc 3 _ rfl, by rw [← add_field _ _ 4 (by omega)]; exact hc 4 _ rfl⟩

/-! #### struct type 38 -/
structure S38 where
  f0 : ByteArray
  f1 : ByteArray
def z38 : S38 := ⟨(⟨#[]⟩ : ByteArray), (⟨#[]⟩ : ByteArray)⟩
def k38 : Kd S38 := Kd.iso (Kd.pair Kd.string Kd.string) (fun x : S38 => (x.f0, x.f1))
theorem k38_heap : Kd.Heap k38 := Kd.heap_iso _ (Kd.heap_pair Kd.heap_string Kd.heap_string)
theorem k38_open {w : World} {x : S38} {cs : List Value} (h : k38.K w x cs) : cs = [.string x.f0, .string x.f1] := by
  obtain ⟨_, _, rfl, rfl, rfl⟩ := h
  exact rfl
theorem k38_openM {w : World} {base : Nat} {ok : Nat → Prop} {x : S38} {cs : List Value} (h : k38.M w base ok x cs) : cs = [.string x.f0, .string x.f1] := by
  obtain ⟨_, _, rfl, rfl, rfl⟩ := h
  exact rfl
theorem k38_mk (w : World) (x : S38)  : k38.K w x [.string x.f0, .string x.f1] := ⟨[.string x.f0], [.string x.f1], rfl, rfl, rfl⟩
theorem k38_mkM (w : World) (base : Nat) (ok : Nat → Prop) (x : S38)  : k38.M w base ok x [.string x.f0, .string x.f1] := ⟨[.string x.f0], [.string x.f1], rfl, rfl, rfl⟩
theorem k38_mkF (W : World) (ok : Nat → Prop) (x : S38) : Kd.FK k38 W ok x [.string x.f0, .string x.f1] := fun W2 _ => k38_mk W2 x
def rd_T38 (xs : List S38) (i : Int) : S38 := xs.getD i.toNat z38
theorem at_T38 {w : World} {A : Option Addr} {n : Nat} {xs : List S38} (h : Kd.C k38 w A n xs) (i : Int) (h0 : 0 ≤ i) (h1 : i < n) : ∃ ad , A = some ad ∧ w.cell? (ad.add (i.toNat * 2)) = some (.string (rd_T38 xs i).f0) ∧ w.cell? ⟨(ad.add (i.toNat * 2)).block, (ad.add (i.toNat * 2)).off + 1, none⟩ = some (.string (rd_T38 xs i).f1) := by
  obtain ⟨ad, c, e, _, hK, hc0⟩ := Kd.C_get h z38 i h0 h1
  have hc : ∀ j u, c[j]? = some u → w.cell? (ad.add (i.toNat * 2 + j)) = some u := hc0
  obtain rfl := k38_open hK
  exact ⟨ad, e, hc 0 _ rfl, by rw [← add_field _ _ 1 (by omega)]; exact hc 1 _ rfl⟩

def rd_L6 (xs : List (List S38)) (i : Int) : (List S38) := xs.getD i.toNat ([] : List S38)
theorem at_L6 {w : World} {A : Option Addr} {n : Nat} {xs : List (List S38)} (h : Kd.C (Kd.slice 38 k38) w A n xs) (i : Int) (h0 : 0 ≤ i) (h1 : i < n) : ∃ ad A0 c0, A = some ad ∧ w.cell? (ad.add i.toNat) = some (.slice A0 (rd_L6 xs i).length c0) ∧ (rd_L6 xs i).length ≤ c0 ∧ k38.C w A0 (rd_L6 xs i).length (rd_L6 xs i) := by
  obtain ⟨ad, c, e, _, hK, hc0⟩ := Kd.C_get h ([] : List S38) i h0 h1
  have hc : ∀ j u, c[j]? = some u → w.cell? (ad.add (i.toNat * 1 + j)) = some u := hc0
  obtain ⟨A0, c0, rfl, l0, g0⟩ := hK
  exact ⟨ad, A0, c0, e, by have hq := hc 0 _ rfl; rwa [Nat.mul_one, Nat.add_zero] at hq, l0, g0⟩

def rd_L7 (xs : List (List Int)) (i : Int) : (List Int) := xs.getD i.toNat ([] : List Int)
theorem at_L7 {w : World} {A : Option Addr} {n : Nat} {xs : List (List Int)} (h : Kd.C (Kd.slice 3 (Kd.int .i64)) w A n xs) (i : Int) (h0 : 0 ≤ i) (h1 : i < n) : ∃ ad A0 c0, A = some ad ∧ w.cell? (ad.add i.toNat) = some (.slice A0 (rd_L7 xs i).length c0) ∧ (rd_L7 xs i).length ≤ c0 ∧ (Kd.int .i64).C w A0 (rd_L7 xs i).length (rd_L7 xs i) := by
  obtain ⟨ad, c, e, _, hK, hc0⟩ := Kd.C_get h ([] : List Int) i h0 h1
  have hc : ∀ j u, c[j]? = some u → w.cell? (ad.add (i.toNat * 1 + j)) = some u := hc0
  obtain ⟨A0, c0, rfl, l0, g0⟩ := hK
  exact ⟨ad, A0, c0, e, by have hq := hc 0 _ rfl; rwa [Nat.mul_one, Nat.add_zero] at hq, l0, g0⟩

end Go.Proofs.YtghlbdemlmbijaaDoor.Q

/- Plain laws on bytes, lists and rounds: no program in sight. -/
namespace Go.Proofs.YtghlbdemlmbijaaDoor.Q
open Go.RowKit Go.Proofs.YtghlbdemlmbijaaDoorW.PrintWords Go.Proofs.YtghlbdemlmbijaaDoorW.PrintLast Go.Proofs.YtghlbdemlmbijaaDoorW.PrintMore

theorem wrap_up (i : Nat) (h : i < 4611686018427387904) : wrap64 ((i : Int) + 1) = ((i + 1 : Nat) : Int) := by unfold wrap64; omega
theorem wrap_dn (i : Nat) (h : i < 4611686018427387904) : wrap64 ((i : Int) - 1) = (i : Int) - 1 := by unfold wrap64; omega
theorem wrap_id (i : Int) (h0 : -4611686018427387904 ≤ i) (h1 : i < 4611686018427387904) : wrap64 i = i := by unfold wrap64; omega
/-- The bytes of a string. -/
def bs (s : ByteArray) : List UInt8 := s.data.toList
theorem bs_len (s : ByteArray) : (bs s).length = s.size := (Lib.size_eq s).symm
theorem bs_mk (l : List UInt8) : bs ⟨l.toArray⟩ = l := rfl
theorem bs_inj {s t : ByteArray} (h : bs s = bs t) : s = t := by rw [← Lib.mk_data s, ← Lib.mk_data t]; exact congrArg _ (congrArg _ h)
theorem bs_toList (s : ByteArray) : s.toList = bs s := Lib.toList_data s
theorem bs_extract (s : ByteArray) (a b : Nat) : bs (s.extract a b) = ((bs s).drop a).take (b - a) := by
  simp [bs, ByteArray.data_extract, Array.toList_extract, List.extract_eq_take_drop]
theorem bs_append (s t : ByteArray) : bs (s ++ t) = bs s ++ bs t := by simp [bs, ByteArray.data_append]
theorem bt_nat (s : ByteArray) (i : Nat) (h : i < (bs s).length) : bt s (i : Int) = ((bs s)[i].toNat : Int) := by
  have h2 : i < s.size := by rw [← bs_len]; exact h
  unfold bt
  simp only [Int.toNat_natCast, dif_pos h2]
  rfl
theorem u8_back (c : UInt8) : ((c.toNat : Int)).toNat.toUInt8 = c := by simp
theorem rd_nat (l : List Int) (i : Nat) (h : i < l.length) : rd l (i : Int) = l[i] := by simp [rd, List.getD, h]
theorem indexByte_iff (l : List UInt8) (c : UInt8) : Lib.indexByte l c < 0 ↔ ¬ c ∈ l := by
  induction l with
  | nil => simp [Lib.indexByte]
  | cons b l ih =>
    have hg := Lib.indexByte_ge l c
    simp only [Lib.indexByte]
    by_cases h : b = c
    · subst h; simp
    · have h1 : (b == c) = false := beq_eq_false_iff_ne.mpr h
      rw [h1]
      simp only [Bool.false_eq_true, if_false, List.mem_cons]
      by_cases h2 : Lib.indexByte l c = -1
      · rw [if_pos (by simp [h2])]
        have : ¬ c ∈ l := ih.1 (by omega)
        simp [this, Ne.symm h]
      · rw [if_neg (by simpa using h2)]
        have h3 : c ∈ l := by
          rcases Classical.em (c ∈ l) with h4 | h4
          · exact h4
          · have := ih.2 h4; omega
        simp [h3]
        omega
theorem indexByte_mem {l : List UInt8} {c : UInt8} (h : c ∈ l) : ∃ o : Nat, Lib.indexByte l c = o ∧ o < l.length ∧ l[o]? = some c ∧ ∀ k, k < o → l[k]? ≠ some c := by
  have hg := Lib.indexByte_ge l c
  have hn : ¬ Lib.indexByte l c < 0 := fun h2 => (indexByte_iff l c).1 h2 h
  obtain ⟨o, ho⟩ := Int.eq_ofNat_of_zero_le (show 0 ≤ Lib.indexByte l c by omega)
  have h1 := Lib.indexByte_some ho
  refine ⟨o, ho, ?_, h1.1, h1.2⟩
  exact (List.getElem?_eq_some_iff.1 h1.1).1
theorem indexByte_not {l : List UInt8} {c : UInt8} (h : ¬ c ∈ l) : Lib.indexByte l c = -1 := by
  have hg := Lib.indexByte_ge l c
  have := (indexByte_iff l c).2 h
  omega
theorem decDigit (d : Nat) (h : d < 10) : Lib.decDigits d = [UInt8.ofNat (48 + d)] := Lib.decDigits_one h
theorem all_u8 {P : UInt8 → Prop} (h : ∀ n, n < 256 → P (UInt8.ofNat n)) (x : UInt8) : P x := by
  have h1 := h x.toNat x.toNat_lt
  rwa [UInt8.ofNat_toNat] at h1
/-- A digit. -/
def isDig (c : UInt8) : Bool := decide (48 ≤ c.toNat) && decide (c.toNat ≤ 57)
abbrev digitsS : ByteArray := ⟨#[48, 49, 50, 51, 52, 53, 54, 55, 56, 57]⟩
set_option maxRecDepth 100000 in
theorem mem_digits (c : UInt8) : decide (c ∈ bs digitsS) = isDig c := all_u8 (P := fun c => decide (c ∈ bs digitsS) = isDig c) (by decide) c
/-- All bytes are digits. -/
def allDig (s : ByteArray) : Bool := (bs s).all isDig
theorem allDig_eq (s : ByteArray) : ((bs s).all fun x => decide (x ∈ bs digitsS)) = allDig s := by
  unfold allDig
  congr 1
  funext c
  exact mem_digits c
end Go.Proofs.YtghlbdemlmbijaaDoor.Q

/- The map of forms, as plain data: what a list of entries reads as, and how it is looked up; the law of an insertion at the operation. -/
namespace Go.Proofs.YtghlbdemlmbijaaDoor.Q
open Go.RowKit Go.Maps Go.Proofs.YtghlbdemlmbijaaDoorW.PrintWords Go.Proofs.YtghlbdemlmbijaaDoorW.PrintLast Go.Proofs.YtghlbdemlmbijaaDoorW.PrintMore

/-- A form: fixed, most, digits, check, day. -/
abbrev Form := Int × Int × Bool × Bool × Bool
def formV (f : Form) : Value := .agg #[.int .i64 f.1, .int .i64 f.2.1, .bool f.2.2.1, .bool f.2.2.2.1, .bool f.2.2.2.2]
def formD (f : Form) : DataW Unit := .agg [.lit (.int .i64 f.1), .lit (.int .i64 f.2.1), .lit (.bool f.2.2.1), .lit (.bool f.2.2.2.1), .lit (.bool f.2.2.2.2)]
def z0 : Form := (0, 0, false, false, false)
/-- How a form in the map reads. -/
def readForm (v : Value) : Option (DataW Unit × List MemPlace) :=
  match v with
  | .agg ⟨[.int .i64 a, .int .i64 b, .bool c, .bool d, .bool e]⟩ => some (formD (a, b, c, d, e), [])
  | _ => none
theorem readForm_mk (f : Form) : readForm (formV f) = some (formD f, []) := rfl
theorem readForm_inv {v : Value} {f : Form} {ps : List MemPlace} (h : readForm v = some (formD f, ps)) : v = formV f := by
  unfold readForm at h
  split at h
  · rename_i a b c d e
    obtain ⟨f0, f1, f2, f3, f4⟩ := f
    simp only [formD, Option.some.injEq, Prod.mk.injEq, DataW.agg.injEq, List.cons.injEq, DataW.lit.injEq, Lit.int.injEq, Lit.bool.injEq, true_and, and_true] at h
    obtain ⟨⟨rfl, rfl, rfl, rfl, rfl⟩, _⟩ := h
    rfl
  · exact absurd h (by simp)
/-- A string as a key. -/
abbrev kl (s : List UInt8) : Lit := .string s
theorem kl_key (s : List UInt8) : WideAt.IsKeyLit (kl s) := trivial
def putAll (D : DataW Unit) (l : List (List UInt8 × Form)) : DataW Unit := l.foldl (fun D e => D.put (kl e.1) (formD e.2)) D
theorem putAll_snoc (D : DataW Unit) (l : List (List UInt8 × Form)) (e : List UInt8 × Form) : putAll D (l ++ [e]) = (putAll D l).put (kl e.1) (formD e.2) := by simp [putAll, List.foldl_append]
theorem putAll_isMap (l : List (List UInt8 × Form)) : ∀ D : DataW Unit, IsMap D → IsMap (putAll D l) := by
  induction l with
  | nil => exact fun D h => h
  | cons e l ih => exact fun D h => ih _ (h.put _ _)
/-- The last entry of a key, counted from the front of the reversed list. -/
def look (l : List (List UInt8 × Form)) (k : List UInt8) : Option Form := (l.find? fun e => e.1 == k).map (·.2)
theorem putAll_at (l : List (List UInt8 × Form)) (hd : l.Pairwise fun a b => a.1 ≠ b.1) (k : List UInt8) : ∀ D : DataW Unit, IsMap D →
    (∀ z, (putAll D l).atKey (kl k) z = match look l k with | some f => formD f | none => D.atKey (kl k) z) ∧ has (putAll D l) (kl k) = ((look l k).isSome || has D (kl k)) := by
  induction l with
  | nil => exact fun D h => ⟨fun z => rfl, by simp [putAll, look]⟩
  | cons e l ih =>
    intro D h
    obtain ⟨h1, h2⟩ := List.pairwise_cons.1 hd
    obtain ⟨ih1, ih2⟩ := ih h2 _ (h.put (kl e.1) (formD e.2))
    by_cases hk : e.1 = k
    · have hn : look l k = none := by
        unfold look
        rw [List.find?_eq_none.2 (fun x hx => by have := h1 x hx; rw [hk] at this; simp [Ne.symm this])]
        rfl
      have hs : look (e :: l) k = some e.2 := by simp [look, hk]
      rw [hn] at ih1 ih2
      subst hk
      refine ⟨fun z => ?_, ?_⟩
      · rw [hs]
        exact (ih1 z).trans (atKey_put_same h (kl_key _) _ z)
      · rw [hs]
        exact ih2.trans (by rw [has_put_same h (kl_key _)]; rfl)
    · have hs : look (e :: l) k = look l k := by simp [look, hk]
      have hne : kl k ≠ kl e.1 := fun he => hk (by injection he with he; exact he.symm)
      rw [hs]
      refine ⟨fun z => (ih1 z).trans ?_, ih2.trans ?_⟩
      · cases look l k with
        | some f => rfl
        | none => exact atKey_put_other hne _ z
      · rw [has_put_other hne]
/-- 'm[k] = v' inside a map's literal, at the operation. -/
theorem wpList_insert_own {H : Type} {P : Program} (w : World) {ops : Array Oper} {rest : List Oper} {o : Oper} {a : Act} {Q : Exit → Act → World → Prop}
    (hg : o.guard = none) (m x v : Operand) (t : TypeId) (hop : o.op = Op.insert t m x v)
    (k e : TypeId) (K : Keyed P k) (ht : P.underlying t = some (.map k e)) (R : Value → Option (DataW H × List MemPlace)) (b n : Nat) (D : DataW H)
    (hm : a.eval m = .map (some b)) (hown : w.ownsMap P k R b n D) (hn : n < maxLen) (key val : Value) (kl : Lit) (hx : a.eval x = key) (hv : a.eval v = val) (hkey : keyOf P k key = some kl)
    (d : DataW H) (ps : List MemPlace) (hval : R val = some (d, ps))
    (hK : ∀ w', w'.ownsMap P k R b (n + 1) (D.put kl d) → w.grownBy w' (some b) → wpList P ops Q rest (a.put o.dst undef) w') :
    wpList P ops Q (o :: rest) a w := by
  refine wpList_plain hg fun K' hK' => ?_
  obtain ⟨w', hrun, r1, r2⟩ := hown.update K ht hn hkey hval
  unfold Oper.wp
  simp [execOp, hop, hm, hx, hv, hrun, Result.andThen]
  exact hK' _ _ (hK w' r1 r2)
end Go.Proofs.YtghlbdemlmbijaaDoor.Q

/-
  DERIVED: THE SHELF's CONTRACTS AT THIS DUMP, IN PLAIN WORDS (tools/lay-plain.mjs out of 'TrydShelfSrc.lean', which tools/lay-shelf.mjs wrote): THE SAME DECLARATIONS UNDER THE SAME NAMES: 'import', 'namespace', 'open', 'def', 'theorem' AND NOTHING ELSE: no command of the shelf's: FOR A HAND-IN. Each laying: the table of numbers ('.._ren') and one theorem, a field a fact of the dump's own or the kernel's comparison; each contract: ONE APPLICATION.
-/
namespace Go.Proofs
open Go.Shelf
def Tryd.lays160_ren : Go.Shelf.Ren := ⟨fun | 160 => 32 | 232 => 45 | 231 => 44 | 227 => 46 | 234 => 48 | 233 => 47 | 236 => 50 | 235 => 49 | 228 => 58 | 271 => 61 | 151 => 60 | 197 => 59 | 120 => 65 | 152 => 64 | 260 => 63 | 137 => 20 | 119 => 68 | 224 => 69 | 225 => 70 | 217 => 30 | 266 => 40 | n => n, fun | 9 => 9 | 4 => 4 | 3 => 3 | 5 => 5 | 117 => 83 | 116 => 82 | 0 => 0 | 124 => 86 | 21 => 21 | 105 => 98 | 46 => 132 | 119 => 94 | 139 => 135 | 138 => 134 | n => n, fun | 3 => 3 | 4 => 4 | n => n⟩
theorem Tryd.lays160 : Go.Proofs.Lays.n160 Tryd.prog Tryd.lays160_ren := {
  mixed := by kernel_rfl
  f119 := Tryd.func68.trans (congrArg some (by kernel_rfl))
  f120 := Tryd.func65.trans (congrArg some (by kernel_rfl))
  f137 := Tryd.func20.trans (congrArg some (by kernel_rfl))
  f151 := Tryd.func60.trans (congrArg some (by kernel_rfl))
  f152 := Tryd.func64.trans (congrArg some (by kernel_rfl))
  f160 := Tryd.func32.trans (congrArg some (by kernel_rfl))
  f197 := Tryd.func59.trans (congrArg some (by kernel_rfl))
  f217 := Tryd.func30.trans (congrArg some (by kernel_rfl))
  f224 := Tryd.func69.trans (congrArg some (by kernel_rfl))
  f225 := Tryd.func70.trans (congrArg some (by kernel_rfl))
  f227 := Tryd.func46.trans (congrArg some (by kernel_rfl))
  f228 := Tryd.func58.trans (congrArg some (by kernel_rfl))
  f231 := Tryd.func44.trans (congrArg some (by kernel_rfl))
  f232 := Tryd.func45.trans (congrArg some (by kernel_rfl))
  f233 := Tryd.func47.trans (congrArg some (by kernel_rfl))
  f234 := Tryd.func48.trans (congrArg some (by kernel_rfl))
  f235 := Tryd.func49.trans (congrArg some (by kernel_rfl))
  f236 := Tryd.func50.trans (congrArg some (by kernel_rfl))
  f260 := Tryd.func63.trans (congrArg some (by kernel_rfl))
  f266 := Tryd.func40.trans (congrArg some (by kernel_rfl))
  f271 := Tryd.func61.trans (congrArg some (by kernel_rfl))
  t0 := Tryd.underlying0
  a0 := Tryd.isAgg0
  z0 := Tryd.sizeOf0
  v0 := Tryd.zeroValue0
  t3 := Tryd.underlying3
  a3 := Tryd.isAgg3
  z3 := Tryd.sizeOf3
  v3 := Tryd.zeroValue3
  t4 := Tryd.underlying4
  a4 := Tryd.isAgg4
  z4 := Tryd.sizeOf4
  v4 := Tryd.zeroValue4
  t5 := Tryd.underlying5
  a5 := Tryd.isAgg5
  z5 := Tryd.sizeOf5
  v5 := Tryd.zeroValue5
  t9 := Tryd.underlying9
  a9 := Tryd.isAgg9
  z9 := Tryd.sizeOf9
  v9 := Tryd.zeroValue9
  t21 := Tryd.underlying21
  a21 := Tryd.isAgg21
  z21 := Tryd.sizeOf21
  v21 := Tryd.zeroValue21
  t46 := Tryd.underlying132
  a46 := Tryd.isAgg132
  z46 := Tryd.sizeOf132
  v46 := Tryd.zeroValue132
  t105 := Tryd.underlying98
  a105 := Tryd.isAgg98
  z105 := Tryd.sizeOf98
  v105 := Tryd.zeroValue98
  t116 := Tryd.underlying82
  a116 := Tryd.isAgg82
  z116 := Tryd.sizeOf82
  t117 := Tryd.underlying83
  a117 := Tryd.isAgg83
  z117 := Tryd.sizeOf83
  v117 := Tryd.zeroValue83
  t119 := Tryd.underlying94
  a119 := Tryd.isAgg94
  z119 := Tryd.sizeOf94
  t124 := Tryd.underlying86
  a124 := Tryd.isAgg86
  z124 := Tryd.sizeOf86
  v124 := Tryd.zeroValue86
  t138 := Tryd.underlying134
  a138 := Tryd.isAgg134
  z138 := Tryd.sizeOf134
  v138 := Tryd.zeroValue134
  t139 := Tryd.underlying135
  a139 := Tryd.isAgg135
  z139 := Tryd.sizeOf135
  v139 := Tryd.zeroValue135
  g3 := by kernel_rfl
  g4 := by kernel_rfl }
def Tryd.lays137_ren : Go.Shelf.Ren := ⟨fun | 137 => 20 | 217 => 30 | 266 => 40 | n => n, fun | 9 => 9 | 5 => 5 | 3 => 3 | n => n, fun | n => n⟩
theorem Tryd.lays137 : Go.Proofs.Lays.n137 Tryd.prog Tryd.lays137_ren := {
  mixed := by kernel_rfl
  f137 := Tryd.func20.trans (congrArg some (by kernel_rfl))
  f217 := Tryd.func30.trans (congrArg some (by kernel_rfl))
  f266 := Tryd.func40.trans (congrArg some (by kernel_rfl))
  t3 := Tryd.underlying3
  a3 := Tryd.isAgg3
  z3 := Tryd.sizeOf3
  v3 := Tryd.zeroValue3
  t5 := Tryd.underlying5
  a5 := Tryd.isAgg5
  z5 := Tryd.sizeOf5
  v5 := Tryd.zeroValue5
  t9 := Tryd.underlying9
  a9 := Tryd.isAgg9
  z9 := Tryd.sizeOf9
  v9 := Tryd.zeroValue9 }
open Go.RowKit in
/-- strings.IndexByte: "IndexByte returns the index of the first instance of c in s, or -1 if c is not present in s.": IT RETURNS 'Lib.indexByte s c'; the world is as it was. (LAID: no walk: one application.) -/
theorem Tryd.strings_IndexByte (s : ByteArray) (c : Int) (w : World) :
    Calls Tryd.prog 20 #[.string s, .int .u8 c] w fun e w' => e = .returned (.int .i64 (Lib.indexByte s.data.toList c.toNat.toUInt8)) ∧ w' = w := Any.strings_IndexByte Tryd.lays137 s c w
def Tryd.lays171_ren : Go.Shelf.Ren := ⟨fun | 171 => 93 | 243 => 94 | 246 => 95 | 283 => 96 | 284 => 97 | 285 => 98 | 286 => 99 | 129 => 101 | 317 => 100 | 318 => 102 | 319 => 103 | 320 => 104 | 337 => 105 | 338 => 106 | n => n, fun | 3 => 3 | 9 => 9 | 2 => 2 | 4 => 4 | 171 => 155 | 0 => 0 | 53 => 156 | 37 => 41 | 5 => 5 | 173 => 159 | 212 => 162 | 51 => 117 | 20 => 20 | 213 => 163 | 46 => 132 | 232 => 166 | 233 => 167 | n => n, fun | 17 => 6 | 18 => 7 | 19 => 8 | n => n⟩
theorem Tryd.lays171 : Go.Proofs.Lays.n171 Tryd.prog Tryd.lays171_ren := {
  mixed := by kernel_rfl
  f129 := Tryd.func101.trans (congrArg some (by kernel_rfl))
  f171 := Tryd.func93.trans (congrArg some (by kernel_rfl))
  f243 := Tryd.func94.trans (congrArg some (by kernel_rfl))
  f246 := Tryd.func95.trans (congrArg some (by kernel_rfl))
  f283 := Tryd.func96.trans (congrArg some (by kernel_rfl))
  f284 := Tryd.func97.trans (congrArg some (by kernel_rfl))
  f285 := Tryd.func98.trans (congrArg some (by kernel_rfl))
  f286 := Tryd.func99.trans (congrArg some (by kernel_rfl))
  f317 := Tryd.func100.trans (congrArg some (by kernel_rfl))
  f318 := Tryd.func102.trans (congrArg some (by kernel_rfl))
  f319 := Tryd.func103.trans (congrArg some (by kernel_rfl))
  f320 := Tryd.func104.trans (congrArg some (by kernel_rfl))
  f337 := Tryd.func105.trans (congrArg some (by kernel_rfl))
  f338 := Tryd.func106.trans (congrArg some (by kernel_rfl))
  t0 := Tryd.underlying0
  a0 := Tryd.isAgg0
  z0 := Tryd.sizeOf0
  v0 := Tryd.zeroValue0
  t2 := Tryd.underlying2
  a2 := Tryd.isAgg2
  z2 := Tryd.sizeOf2
  v2 := Tryd.zeroValue2
  t3 := Tryd.underlying3
  a3 := Tryd.isAgg3
  z3 := Tryd.sizeOf3
  v3 := Tryd.zeroValue3
  t4 := Tryd.underlying4
  a4 := Tryd.isAgg4
  z4 := Tryd.sizeOf4
  v4 := Tryd.zeroValue4
  t5 := Tryd.underlying5
  a5 := Tryd.isAgg5
  z5 := Tryd.sizeOf5
  v5 := Tryd.zeroValue5
  t9 := Tryd.underlying9
  a9 := Tryd.isAgg9
  z9 := Tryd.sizeOf9
  v9 := Tryd.zeroValue9
  t20 := Tryd.underlying20
  a20 := Tryd.isAgg20
  z20 := Tryd.sizeOf20
  v20 := Tryd.zeroValue20
  t37 := Tryd.underlying41
  a37 := Tryd.isAgg41
  z37 := Tryd.sizeOf41
  v37 := Tryd.zeroValue41
  t46 := Tryd.underlying132
  a46 := Tryd.isAgg132
  z46 := Tryd.sizeOf132
  v46 := Tryd.zeroValue132
  t51 := Tryd.underlying117
  a51 := Tryd.isAgg117
  z51 := Tryd.sizeOf117
  v51 := Tryd.zeroValue117
  t53 := Tryd.underlying156
  a53 := Tryd.isAgg156
  z53 := Tryd.sizeOf156
  v53 := Tryd.zeroValue156
  t171 := Tryd.underlying155
  a171 := Tryd.isAgg155
  z171 := Tryd.sizeOf155
  v171 := Tryd.zeroValue155
  t173 := Tryd.underlying159
  a173 := Tryd.isAgg159
  z173 := Tryd.sizeOf159
  v173 := Tryd.zeroValue159
  t212 := Tryd.underlying162
  a212 := Tryd.isAgg162
  z212 := Tryd.sizeOf162
  v212 := Tryd.zeroValue162
  t213 := Tryd.underlying163
  a213 := Tryd.isAgg163
  z213 := Tryd.sizeOf163
  t232 := Tryd.underlying166
  a232 := Tryd.isAgg166
  z232 := Tryd.sizeOf166
  v232 := Tryd.zeroValue166
  t233 := Tryd.underlying167
  a233 := Tryd.isAgg167
  z233 := Tryd.sizeOf167
  v233 := Tryd.zeroValue167
  g17 := by kernel_rfl
  g18 := by kernel_rfl
  g19 := by kernel_rfl }
open Go.RowKit Go.Sort Go.Lib in
/-- THE ROAD WITHOUT THE TABLE: 0 <= i < 100: NO PREMISE ON THE WORLD, AND THE WORLD IS AS IT WAS: a row that keeps its argument in that range need list no table ('laid = []'). (LAID: no walk: one application.) -/
theorem Tryd.strconv_Itoa_small (i : Nat) (hi : i < 100) (w : World) :
    Calls Tryd.prog 93 #[.int .i64 i] w fun e w' => e = .returned (.string ⟨(Lib.decDigits i).toArray⟩) ∧ w' = w := Any.strconv_Itoa_small Tryd.lays171 i hi w
def Tryd.lays157_ren : Go.Shelf.Ren := ⟨fun | 157 => 43 | 229 => 56 | 199 => 57 | 261 => 62 | 311 => 66 | 312 => 67 | n => n, fun | 9 => 9 | 31 => 78 | 3 => 3 | 5 => 5 | 4 => 4 | 119 => 94 | 0 => 0 | 40 => 96 | 152 => 114 | 21 => 21 | 154 => 116 | 51 => 117 | 141 => 119 | 196 => 124 | 193 => 121 | 198 => 127 | 49 => 125 | 194 => 122 | 201 => 130 | 226 => 138 | 46 => 132 | 227 => 139 | n => n, fun | 0 => 1 | 6 => 2 | n => n⟩
theorem Tryd.lays157 : Go.Proofs.Lays.n157 Tryd.prog Tryd.lays157_ren := {
  mixed := by kernel_rfl
  f157 := Tryd.func43.trans (congrArg some (by kernel_rfl))
  f199 := Tryd.func57.trans (congrArg some (by kernel_rfl))
  f229 := Tryd.func56.trans (congrArg some (by kernel_rfl))
  f261 := Tryd.func62.trans (congrArg some (by kernel_rfl))
  f311 := Tryd.func66.trans (congrArg some (by kernel_rfl))
  f312 := Tryd.func67.trans (congrArg some (by kernel_rfl))
  t0 := Tryd.underlying0
  a0 := Tryd.isAgg0
  z0 := Tryd.sizeOf0
  v0 := Tryd.zeroValue0
  t3 := Tryd.underlying3
  a3 := Tryd.isAgg3
  z3 := Tryd.sizeOf3
  v3 := Tryd.zeroValue3
  t4 := Tryd.underlying4
  a4 := Tryd.isAgg4
  z4 := Tryd.sizeOf4
  v4 := Tryd.zeroValue4
  t5 := Tryd.underlying5
  a5 := Tryd.isAgg5
  z5 := Tryd.sizeOf5
  v5 := Tryd.zeroValue5
  t9 := Tryd.underlying9
  a9 := Tryd.isAgg9
  z9 := Tryd.sizeOf9
  v9 := Tryd.zeroValue9
  t21 := Tryd.underlying21
  a21 := Tryd.isAgg21
  z21 := Tryd.sizeOf21
  v21 := Tryd.zeroValue21
  t31 := Tryd.underlying78
  a31 := Tryd.isAgg78
  z31 := Tryd.sizeOf78
  v31 := Tryd.zeroValue78
  t40 := Tryd.underlying96
  a40 := Tryd.isAgg96
  z40 := Tryd.sizeOf96
  v40 := Tryd.zeroValue96
  t46 := Tryd.underlying132
  a46 := Tryd.isAgg132
  z46 := Tryd.sizeOf132
  v46 := Tryd.zeroValue132
  t49 := Tryd.underlying125
  a49 := Tryd.isAgg125
  z49 := Tryd.sizeOf125
  v49 := Tryd.zeroValue125
  t51 := Tryd.underlying117
  a51 := Tryd.isAgg117
  z51 := Tryd.sizeOf117
  v51 := Tryd.zeroValue117
  t119 := Tryd.underlying94
  a119 := Tryd.isAgg94
  z119 := Tryd.sizeOf94
  t141 := Tryd.underlying119
  a141 := Tryd.isAgg119
  z141 := Tryd.sizeOf119
  v141 := Tryd.zeroValue119
  t152 := Tryd.underlying114
  a152 := Tryd.isAgg114
  z152 := Tryd.sizeOf114
  v152 := Tryd.zeroValue114
  t154 := Tryd.underlying116
  a154 := Tryd.isAgg116
  z154 := Tryd.sizeOf116
  v154 := Tryd.zeroValue116
  t193 := Tryd.underlying121
  a193 := Tryd.isAgg121
  z193 := Tryd.sizeOf121
  v193 := Tryd.zeroValue121
  t194 := Tryd.underlying122
  a194 := Tryd.isAgg122
  z194 := Tryd.sizeOf122
  v194 := Tryd.zeroValue122
  t196 := Tryd.underlying124
  a196 := Tryd.isAgg124
  z196 := Tryd.sizeOf124
  v196 := Tryd.zeroValue124
  t198 := Tryd.underlying127
  a198 := Tryd.isAgg127
  z198 := Tryd.sizeOf127
  v198 := Tryd.zeroValue127
  t201 := Tryd.underlying130
  a201 := Tryd.isAgg130
  z201 := Tryd.sizeOf130
  v201 := Tryd.zeroValue130
  t226 := Tryd.underlying138
  a226 := Tryd.isAgg138
  z226 := Tryd.sizeOf138
  v226 := Tryd.zeroValue138
  t227 := Tryd.underlying139
  a227 := Tryd.isAgg139
  z227 := Tryd.sizeOf139
  v227 := Tryd.zeroValue139
  g0 := by kernel_rfl
  g6 := by kernel_rfl }
open Go.RowKit Go.Lib in
/-- strings.Fields, the table by 'Lib.TabIs' (as strings.TrimSpace's contract). 'hg': the table's number, by its name: at a dump 'by kernel_rfl'. (LAID: no walk: one application.) -/
theorem Tryd.strings_Fields (s : ByteArray) (w : World) (hs : s.size < 4294967281) (hascii : ∀ (j : Nat) b, s.data.toList[j]? = some b → b.toNat < 128) (htab : Lib.TabIs Tryd.prog w "strings.asciiSpace" .u8 Lib.asciiSpaceTab) :
    Calls Tryd.prog 43 #[.string s] w fun e w' =>
      e = .returned (.slice (some ⟨w.heap.size, 0, none⟩) (Lib.fields s.data.toList).length (Lib.fields s.data.toList).length) ∧ w' = w.alloc (.cells ((Lib.fields s.data.toList).map fun l => Value.string ⟨l.toArray⟩).toArray 9) := Any.strings_Fields Tryd.lays157 (by kernel_rfl) (by kernel_rfl) s w hs hascii htab
end Go.Proofs

/- strings.IndexByte and slices.ContainsFunc as the printed texts call them. -/
namespace Go.Proofs.YtghlbdemlmbijaaDoor.Q
open Go.RowKit Go.Proofs.YtghlbdemlmbijaaDoorW.PrintWords Go.Proofs.YtghlbdemlmbijaaDoorW.PrintLast Go.Proofs.YtghlbdemlmbijaaDoorW.PrintMore

def strings_IndexByte.f (a0 : ByteArray) (a1 : Int) : Option Int := some (Lib.indexByte (bs a0) a1.toNat.toUInt8)
theorem strings_IndexByte.calls (a0 : ByteArray) (a1 : Int) (r : Int) (w : World) (h : strings_IndexByte.f a0 a1 = some r) :
    Calls Tryd.prog 20 #[.string a0, .int .u8 a1] w fun e w' => e = .returned (.int .i64 r) ∧ Drawn0 w w' := by
  obtain rfl := Option.some.inj h
  exact (Tryd.strings_IndexByte a0 a1 w).mono fun e w' ⟨he, hw⟩ => ⟨he, by subst hw; exact Drawn0.refl _⟩

/-- A number that is no character: neither FNC1 nor from 0 to 127. -/
def badChar (c : Int) : Bool := c != 256 && (decide (c < 0) || decide (c > 127))
theorem closure_calls (c : Int) (w : World) : Calls Tryd.prog 24 #[.int .i64 c] w fun e w' => e = .returned (.bool (badChar c)) ∧ Drawn0 w w' := by
  unfold badChar
  by_cases h1 : c = 256
  · subst h1
    go_enter Tryd.func24, Tryd.ntmps24
    go_wp2
    go_ret
    exact ⟨rfl, Drawn0.refl _⟩
  · have h1a : (c == 256) = false := beq_eq_false_iff_ne.mpr h1
    have h1b : (c != 256) = true := bne_iff_ne.mpr h1
    by_cases h2 : c < 0
    · have h2a : decide (c < 0) = true := decide_eq_true h2
      go_enter Tryd.func24, Tryd.ntmps24
      go_wp2
      go_ret
      exact ⟨by simp [h1, h2], Drawn0.refl _⟩
    · have h2a : decide (c < 0) = false := decide_eq_false h2
      go_enter Tryd.func24, Tryd.ntmps24
      go_wp2
      all_goals go_ret
      all_goals exact ⟨by simp_all, Drawn0.refl _⟩

def cfunc.l : Nat → List Int → Int → Option Int
  | 0, _, _ => none
  | k + 1, l0, i => if i < (l0.length : Int) then (if 0 ≤ i then (if badChar (rd l0 i) = true then some i else cfunc.l k l0 (wrap64 (i + 1))) else none) else some (-1)
theorem cfunc.index_calls (k : Nat) (A0 : Option Addr) (c0 : Nat) (l0 : List Int) (r : Int) (w : World) (hr0 : Kd.C (Kd.int .i64) w A0 l0.length l0) (h : cfunc.l k l0 0 = some r) :
    Calls Tryd.prog 34 #[.slice A0 l0.length c0, .func (.func 24) #[] #[]] w fun e w' => e = .returned (.int .i64 r) ∧ Drawn0 w w' := by
  have HR0 := Aside0.mk hr0
  clear hr0
  have H' := Aside0.mk h
  clear h
  go_enter Tryd.func34, Tryd.ntmps34
  go_wp2
  go_loopg [8] k (fun kq v8 w' => ∃ (x8_1 : Int), v8 = .int .i64 x8_1 ∧ Aside0 (cfunc.l kq l0 x8_1 = some r) ∧ Aside0 (kq ≤ k) ∧ Drawn0 w w')
  case atStart => exact ⟨(0), (by first | rfl | (simp; done) | (simp [*]; done)), H', ⟨Nat.le_refl _⟩, by repeat (first | exact Drawn0.refl _ | apply Drawn0.step)⟩
  case round =>
    clear H'
    obtain ⟨x8_1, rfl, HA, HK1, ⟨m1, rfl⟩⟩ := hrel
    cases gk with
    | zero => exact absurd HA.out (by simp [cfunc.l])
    | succ k1 =>
      have H := HA.out
      clear HA
      simp only [cfunc.l] at H
      by_cases c3 : x8_1 < (l0.length : Int)
      · rw [if_pos c3] at H
        have c3b0 : decide (x8_1 < (l0.length : Int)) = true := decide_eq_true c3
        by_cases c4 : 0 ≤ x8_1
        · rw [if_pos c4] at H
          have c4b0 : decide (0 ≤ x8_1) = true := decide_eq_true c4
          obtain ⟨ad167, e167, hx167_0⟩ := Kd.at_int HR0.out x8_1 c4 c3
          cases e167
          replace c3 := eq_true c3
          replace c4 := eq_true c4
          have hcl := fun W : World => closure_calls (rd l0 x8_1) W
          cases hb : badChar (rd l0 x8_1) with
          | true =>
            rw [if_pos hb] at H
            obtain rfl := Option.some.inj H
            rw [hb] at hcl
            clear hb
            have HC := Lib.hid hcl
            clear hcl
            go_wp2_with (first | (refine (HC.out _).mono ?_; rintro e w' ⟨rfl, ⟨nd, rfl⟩⟩))
            go_ret
            exact ⟨by first | rfl | (simp; done) | (simp [*]; done), by repeat (first | exact Drawn0.refl _ | apply Drawn0.step)⟩
          | false =>
            rw [if_neg (by rw [hb]; decide)] at H
            have H' := Aside0.mk H
            clear H
            rw [hb] at hcl
            clear hb
            have HC := Lib.hid hcl
            clear hcl
            go_wp2_with (first | (refine (HC.out _).mono ?_; rintro e w' ⟨rfl, ⟨nd, rfl⟩⟩))
            go_roundg k1
            case measure => have := HK1.out; omega
            case rel => exact ⟨(wrap64 (x8_1 + 1)), (by first | rfl | (simp; done) | (simp [*]; done)), H', ⟨by have := HK1.out; omega⟩, by repeat (first | exact Drawn0.refl _ | apply Drawn0.step)⟩
        · rw [if_neg c4] at H
          exact absurd H (by simp)
      · rw [if_neg c3] at H
        have c3b0 : decide (x8_1 < (l0.length : Int)) = false := decide_eq_false c3
        clear c3
        obtain rfl := Option.some.inj H
        go_wp2
        go_ret
        exact ⟨by first | rfl | (simp; done) | (simp [*]; done), by repeat (first | exact Drawn0.refl _ | apply Drawn0.step)⟩
/-- From place i on, with enough rounds. -/
theorem cfunc.some_l (l0 : List Int) (hb : l0.length ≤ 9223372036854775807) (d : Nat) : ∀ (k i : Nat), i + d = l0.length → d < k → ∃ r, cfunc.l k l0 i = some r ∧ (r < 0 → (l0.drop i).any badChar = false) ∧ (0 ≤ r → (l0.drop i).any badChar = true) := by
  induction d with
  | zero =>
    intro k i h1 h2
    obtain ⟨k, rfl⟩ : ∃ m, k = m + 1 := ⟨k - 1, by omega⟩
    refine ⟨-1, by simp only [cfunc.l]; rw [if_neg (by omega)], fun _ => ?_, fun h => by omega⟩
    rw [List.drop_of_length_le (by omega)]
    rfl
  | succ d ih =>
    intro k i h1 h2
    obtain ⟨k, rfl⟩ : ∃ m, k = m + 1 := ⟨k - 1, by omega⟩
    have hlt : i < l0.length := by omega
    have hd : l0.drop i = l0[i] :: l0.drop (i + 1) := List.drop_eq_getElem_cons hlt
    have hrd : rd l0 (i : Int) = l0[i] := by simp [rd, List.getD, hlt]
    cases hc : badChar l0[i] with
    | true => exact ⟨i, by simp only [cfunc.l]; rw [if_pos (by omega), if_pos (by omega), hrd, if_pos hc], fun h => by omega, fun _ => by rw [hd, List.any_cons, hc]; rfl⟩
    | false =>
      obtain ⟨r, hr, h3, h4⟩ := ih k (i + 1) (by omega) (by omega)
      refine ⟨r, ?_, fun h => ?_, fun h => ?_⟩
      · simp only [cfunc.l]
        rw [if_pos (by omega), if_pos (by omega), hrd, if_neg (by rw [hc]; decide)]
        rw [show wrap64 ((i : Int) + 1) = ((i + 1 : Nat) : Int) by unfold wrap64; omega]
        exact hr
      · rw [hd, List.any_cons, hc, h3 h]; rfl
      · rw [hd, List.any_cons, hc, h4 h]; rfl
def slices_ContainsFunc_int.f (l0 : List Int) : Option Bool := some (l0.any badChar)
theorem slices_ContainsFunc_int.calls (A0 : Option Addr) (c0 : Nat) (l0 : List Int) (r : Bool) (w : World) (hr0 : Kd.C (Kd.int .i64) w A0 l0.length l0) (_hc0 : l0.length ≤ c0) (h : slices_ContainsFunc_int.f l0 = some r) :
    Calls Tryd.prog 23 #[.slice A0 l0.length c0, .func (.func 24) #[] #[]] w fun e w' => e = .returned (.bool r) ∧ Drawn0 w w' := by
  obtain rfl := Option.some.inj h
  have hb : l0.length ≤ 9223372036854775807   := (Kd.reads_of_C (enc := Value.int .i64) (d := (0 : Int)) (h1 := fun _ => rfl) hr0).2.1
  obtain ⟨r, hr, h1, h2⟩ := cfunc.some_l l0 hb l0.length (l0.length + 1) 0 (by omega) (by omega)
  rw [List.drop_zero] at h1 h2
  have hix := Lib.hid (fun W => fun (hw : Drawn0 w W) => cfunc.index_calls (l0.length + 1) A0 c0 l0 r W (by obtain ⟨n, rfl⟩ := hw; exact hr0) hr)
  clear hr0 h hr
  by_cases h0 : r < 0
  · rw [h1 h0]
    have hd : decide (0 ≤ r) = false := decide_eq_false (by omega)
    clear h1 h2 h0 hb
    go_enter Tryd.func23, Tryd.ntmps23
    go_wp2_with (first | (go_at_call 34; refine (hix.out _ (Drawn0.refl _)).mono ?_; rintro e w' ⟨rfl, ⟨nd, rfl⟩⟩))
    go_ret
    exact ⟨by first | rfl | (simp; done) | (simp [*]; done), by repeat (first | exact Drawn0.refl _ | apply Drawn0.step)⟩
  · rw [h2 (by omega)]
    have hd : decide (0 ≤ r) = true := decide_eq_true (by omega)
    clear h1 h2 h0 hb
    go_enter Tryd.func23, Tryd.ntmps23
    go_wp2_with (first | (go_at_call 34; refine (hix.out _ (Drawn0.refl _)).mono ?_; rintro e w' ⟨rfl, ⟨nd, rfl⟩⟩))
    go_ret
    exact ⟨by first | rfl | (simp; done) | (simp [*]; done), by repeat (first | exact Drawn0.refl _ | apply Drawn0.step)⟩
def strconv_Itoa.f (a0 : Int) : Option ByteArray := if 0 ≤ a0 then if a0 < 100 then some ⟨(Lib.decDigits a0.toNat).toArray⟩ else none else none
theorem strconv_Itoa.calls (a0 : Int) (r : ByteArray) (w : World) (h : strconv_Itoa.f a0 = some r) :
    Calls Tryd.prog 93 #[.int .i64 a0] w fun e w' => e = .returned (.string r) ∧ Drawn0 w w' := by
  unfold strconv_Itoa.f at h
  by_cases h0 : 0 ≤ a0
  · by_cases h1 : a0 < 100
    · rw [if_pos h0, if_pos h1] at h
      obtain rfl := Option.some.inj h
      obtain ⟨n, rfl⟩ := Int.eq_ofNat_of_zero_le h0
      rw [Int.toNat_natCast]
      exact (Tryd.strconv_Itoa_small n (by omega) w).mono fun e w' ⟨he, hw⟩ => ⟨he, by subst hw; exact Drawn0.refl _⟩
    · rw [if_pos h0, if_neg h1] at h; exact absurd h (by simp)
  · rw [if_neg h0] at h; exact absurd h (by simp)
end Go.Proofs.YtghlbdemlmbijaaDoor.Q

namespace Go.Proofs.YtghlbdemlmbijaaDoor.Q
open Go.RowKit Go.Proofs.YtghlbdemlmbijaaDoorW.PrintWords Go.Proofs.YtghlbdemlmbijaaDoorW.PrintLast Go.Proofs.YtghlbdemlmbijaaDoorW.PrintMore

set_option linter.unusedVariables false
set_option linter.unusedSimpArgs false

/-! ### gs1_checked: function 41 -/
def gs1_checked.f (a0 : Int) : Option (Int × Int × Bool × Bool × Bool) := some (a0, a0, true, true, false)
set_option maxHeartbeats 8000000 in
set_option maxRecDepth 100000 in
theorem gs1_checked.calls (a0 : Int) (r1 : Int) (r2 : Int) (r3 : Bool) (r4 : Bool) (r5 : Bool) (w : World) (h : gs1_checked.f a0 = some (r1, r2, r3, r4, r5)) :
    Calls Tryd.prog 41 #[.int .i64 a0] w fun e w' => e = .returned (.agg #[.int .i64 r1, .int .i64 r2, .bool r3, .bool r4, .bool r5]) ∧ Below w.heap.size w w' := by
  have hu56 := Tryd.underlying56
  have HB := Aside0.mk (Below.refl w.heap.size w)
  have H : (some (a0, a0, true, true, false)) = some (r1, r2, r3, r4, r5) := h
  clear h
  simp only [Option.some.injEq, Prod.mk.injEq] at H
  obtain ⟨rfl, rfl, rfl, rfl, rfl⟩ := H
  go_enter Tryd.func41, Tryd.ntmps41
  go_wp2_with (first | ((with_reducible refine gate_dst (N := 2) rfl ?_); refine box_event ?hg (N := 2) ?hd (cs := #[.int .i64 0, .int .i64 0, .bool false, .bool false, .bool false]) (t := 56) ?hr ?_; (case hd => rfl); (case hg => rfl); (case hr => first | (go_simp; done) | (go_simp; rfl)); intro gb102 hg w2 hbox hb; have n0_ := Aside0.mk (below_step (by repeat (first | (with_reducible first | exact HB.out | apply below_alloc | apply pw_below_drewN | apply below_drew1) | exact HB.out)) hb); have n1_ := Aside0.mk (hbox); have n2_ := Aside0.mk ((by rw [hg]; exact (below_size (by repeat (first | (with_reducible first | exact HB.out | apply below_alloc | apply pw_below_drewN | apply below_drew1) | exact HB.out))) : w.heap.size ≤ gb102)); have n3_ := Aside0.mk ((by rw [hg]; exact (below_size (by repeat (first | (with_reducible first | exact HB.out | apply below_alloc | apply pw_below_drewN | apply below_drew1) | exact HB.out))) : w.heap.size ≤ gb102)); clear HB; have HB := n0_; have BK102 := n1_; have GW102 := n2_; have GE102 := n3_; clear n0_ n1_ n2_ n3_; clear hb hbox hg; have hcz3_0 : w2.cell? ⟨gb102, 0, none⟩ = some (.int .i64 0) := (blk_cell BK102.out 0).trans rfl; have hcz3_1 : w2.cell? ⟨gb102, 1, none⟩ = some (.int .i64 0) := (blk_cell BK102.out 1).trans rfl; have hcz3_2 : w2.cell? ⟨gb102, 2, none⟩ = some (.bool false) := (blk_cell BK102.out 2).trans rfl; have hcz3_3 : w2.cell? ⟨gb102, 3, none⟩ = some (.bool false) := (blk_cell BK102.out 3).trans rfl; have hcz3_4 : w2.cell? ⟨gb102, 4, none⟩ = some (.bool false) := (blk_cell BK102.out 4).trans rfl; have hfz3_0 := blk_frozen BK102.out 0; have hfz3_1 := blk_frozen BK102.out 1; have hfz3_2 := blk_frozen BK102.out 2; have hfz3_3 := blk_frozen BK102.out 3; have hfz3_4 := blk_frozen BK102.out 4))
  refine bodyPost_ret (results_cell_row rfl _ _ gb102 56 #[.int .i64 a0, .int .i64 a0, .bool true, .bool true, .bool false] (0, 0) _ rfl (by (with_reducible repeat (first | refine blk_drewN ?_ _ | refine blk_drew ?_ | refine blk_alloc ?_ _)); refine blk_put (cs := #[.int .i64 a0, .int .i64 a0, .bool true, .bool true, .bool false]) ?_ 4 _ rfl; (with_reducible repeat (first | refine blk_drewN ?_ _ | refine blk_drew ?_ | refine blk_alloc ?_ _)); refine blk_put (cs := #[.int .i64 a0, .int .i64 a0, .bool true, .bool false, .bool false]) ?_ 3 _ rfl; (with_reducible repeat (first | refine blk_drewN ?_ _ | refine blk_drew ?_ | refine blk_alloc ?_ _)); refine blk_put (cs := #[.int .i64 a0, .int .i64 a0, .bool false, .bool false, .bool false]) ?_ 2 _ rfl; (with_reducible repeat (first | refine blk_drewN ?_ _ | refine blk_drew ?_ | refine blk_alloc ?_ _)); refine blk_put (cs := #[.int .i64 a0, .int .i64 0, .bool false, .bool false, .bool false]) ?_ 1 _ rfl; (with_reducible repeat (first | refine blk_drewN ?_ _ | refine blk_drew ?_ | refine blk_alloc ?_ _)); refine blk_put (cs := #[.int .i64 0, .int .i64 0, .bool false, .bool false, .bool false]) ?_ 0 _ rfl; (with_reducible repeat (first | refine blk_drewN ?_ _ | refine blk_drew ?_ | refine blk_alloc ?_ _)); exact BK102.out) Tryd.underlying56 rfl (by kernel_rfl)) rfl ?_
  exact ⟨by first | rfl | (simp [errW_none, errW_some] <;> rfl) | (simp [*, errW_none, errW_some] <;> rfl), by repeat (first | (with_reducible first | exact HB.out | apply below_alloc | apply pw_below_drewN | apply below_drew1 | refine below_set ?_ GE102.out) | exact HB.out)⟩

end Go.Proofs.YtghlbdemlmbijaaDoor.Q

namespace Go.Proofs.YtghlbdemlmbijaaDoor.Q
open Go.RowKit Go.Proofs.YtghlbdemlmbijaaDoorW.PrintWords Go.Proofs.YtghlbdemlmbijaaDoorW.PrintLast Go.Proofs.YtghlbdemlmbijaaDoorW.PrintMore

set_option linter.unusedVariables false
set_option linter.unusedSimpArgs false

/-! ### gs1_number: function 33 -/
def gs1_number.f (a0 : Int) : Option (Int × Int × Bool × Bool × Bool) := some (a0, a0, true, false, false)
set_option maxHeartbeats 8000000 in
set_option maxRecDepth 100000 in
theorem gs1_number.calls (a0 : Int) (r1 : Int) (r2 : Int) (r3 : Bool) (r4 : Bool) (r5 : Bool) (w : World) (h : gs1_number.f a0 = some (r1, r2, r3, r4, r5)) :
    Calls Tryd.prog 33 #[.int .i64 a0] w fun e w' => e = .returned (.agg #[.int .i64 r1, .int .i64 r2, .bool r3, .bool r4, .bool r5]) ∧ Below w.heap.size w w' := by
  have hu56 := Tryd.underlying56
  have HB := Aside0.mk (Below.refl w.heap.size w)
  have H : (some (a0, a0, true, false, false)) = some (r1, r2, r3, r4, r5) := h
  clear h
  simp only [Option.some.injEq, Prod.mk.injEq] at H
  obtain ⟨rfl, rfl, rfl, rfl, rfl⟩ := H
  go_enter Tryd.func33, Tryd.ntmps33
  go_wp2_with (first | ((with_reducible refine gate_dst (N := 2) rfl ?_); refine box_event ?hg (N := 2) ?hd (cs := #[.int .i64 0, .int .i64 0, .bool false, .bool false, .bool false]) (t := 56) ?hr ?_; (case hd => rfl); (case hg => rfl); (case hr => first | (go_simp; done) | (go_simp; rfl)); intro gb101 hg w2 hbox hb; have n0_ := Aside0.mk (below_step (by repeat (first | (with_reducible first | exact HB.out | apply below_alloc | apply pw_below_drewN | apply below_drew1) | exact HB.out)) hb); have n1_ := Aside0.mk (hbox); have n2_ := Aside0.mk ((by rw [hg]; exact (below_size (by repeat (first | (with_reducible first | exact HB.out | apply below_alloc | apply pw_below_drewN | apply below_drew1) | exact HB.out))) : w.heap.size ≤ gb101)); have n3_ := Aside0.mk ((by rw [hg]; exact (below_size (by repeat (first | (with_reducible first | exact HB.out | apply below_alloc | apply pw_below_drewN | apply below_drew1) | exact HB.out))) : w.heap.size ≤ gb101)); clear HB; have HB := n0_; have BK101 := n1_; have GW101 := n2_; have GE101 := n3_; clear n0_ n1_ n2_ n3_; clear hb hbox hg; have hcz3_0 : w2.cell? ⟨gb101, 0, none⟩ = some (.int .i64 0) := (blk_cell BK101.out 0).trans rfl; have hcz3_1 : w2.cell? ⟨gb101, 1, none⟩ = some (.int .i64 0) := (blk_cell BK101.out 1).trans rfl; have hcz3_2 : w2.cell? ⟨gb101, 2, none⟩ = some (.bool false) := (blk_cell BK101.out 2).trans rfl; have hcz3_3 : w2.cell? ⟨gb101, 3, none⟩ = some (.bool false) := (blk_cell BK101.out 3).trans rfl; have hcz3_4 : w2.cell? ⟨gb101, 4, none⟩ = some (.bool false) := (blk_cell BK101.out 4).trans rfl; have hfz3_0 := blk_frozen BK101.out 0; have hfz3_1 := blk_frozen BK101.out 1; have hfz3_2 := blk_frozen BK101.out 2; have hfz3_3 := blk_frozen BK101.out 3; have hfz3_4 := blk_frozen BK101.out 4))
  refine bodyPost_ret (results_cell_row rfl _ _ gb101 56 #[.int .i64 a0, .int .i64 a0, .bool true, .bool false, .bool false] (0, 0) _ rfl (by (with_reducible repeat (first | refine blk_drewN ?_ _ | refine blk_drew ?_ | refine blk_alloc ?_ _)); refine blk_put (cs := #[.int .i64 a0, .int .i64 a0, .bool true, .bool false, .bool false]) ?_ 4 _ rfl; (with_reducible repeat (first | refine blk_drewN ?_ _ | refine blk_drew ?_ | refine blk_alloc ?_ _)); refine blk_put (cs := #[.int .i64 a0, .int .i64 a0, .bool true, .bool false, .bool false]) ?_ 3 _ rfl; (with_reducible repeat (first | refine blk_drewN ?_ _ | refine blk_drew ?_ | refine blk_alloc ?_ _)); refine blk_put (cs := #[.int .i64 a0, .int .i64 a0, .bool false, .bool false, .bool false]) ?_ 2 _ rfl; (with_reducible repeat (first | refine blk_drewN ?_ _ | refine blk_drew ?_ | refine blk_alloc ?_ _)); refine blk_put (cs := #[.int .i64 a0, .int .i64 0, .bool false, .bool false, .bool false]) ?_ 1 _ rfl; (with_reducible repeat (first | refine blk_drewN ?_ _ | refine blk_drew ?_ | refine blk_alloc ?_ _)); refine blk_put (cs := #[.int .i64 0, .int .i64 0, .bool false, .bool false, .bool false]) ?_ 0 _ rfl; (with_reducible repeat (first | refine blk_drewN ?_ _ | refine blk_drew ?_ | refine blk_alloc ?_ _)); exact BK101.out) Tryd.underlying56 rfl (by kernel_rfl)) rfl ?_
  exact ⟨by first | rfl | (simp [errW_none, errW_some] <;> rfl) | (simp [*, errW_none, errW_some] <;> rfl), by repeat (first | (with_reducible first | exact HB.out | apply below_alloc | apply pw_below_drewN | apply below_drew1 | refine below_set ?_ GE101.out) | exact HB.out)⟩

end Go.Proofs.YtghlbdemlmbijaaDoor.Q

namespace Go.Proofs.YtghlbdemlmbijaaDoor.Q
open Go.RowKit Go.Proofs.YtghlbdemlmbijaaDoorW.PrintWords Go.Proofs.YtghlbdemlmbijaaDoorW.PrintLast Go.Proofs.YtghlbdemlmbijaaDoorW.PrintMore

set_option linter.unusedVariables false
set_option linter.unusedSimpArgs false

/-! ### gs1_text: function 42 -/
def gs1_text.f (a0 : Int) : Option (Int × Int × Bool × Bool × Bool) := some (0, a0, false, false, false)
set_option maxHeartbeats 8000000 in
set_option maxRecDepth 100000 in
theorem gs1_text.calls (a0 : Int) (r1 : Int) (r2 : Int) (r3 : Bool) (r4 : Bool) (r5 : Bool) (w : World) (h : gs1_text.f a0 = some (r1, r2, r3, r4, r5)) :
    Calls Tryd.prog 42 #[.int .i64 a0] w fun e w' => e = .returned (.agg #[.int .i64 r1, .int .i64 r2, .bool r3, .bool r4, .bool r5]) ∧ Below w.heap.size w w' := by
  have hu56 := Tryd.underlying56
  have HB := Aside0.mk (Below.refl w.heap.size w)
  have H : (some (0, a0, false, false, false)) = some (r1, r2, r3, r4, r5) := h
  clear h
  simp only [Option.some.injEq, Prod.mk.injEq] at H
  obtain ⟨rfl, rfl, rfl, rfl, rfl⟩ := H
  go_enter Tryd.func42, Tryd.ntmps42
  go_wp2_with (first | ((with_reducible refine gate_dst (N := 2) rfl ?_); refine box_event ?hg (N := 2) ?hd (cs := #[.int .i64 0, .int .i64 0, .bool false, .bool false, .bool false]) (t := 56) ?hr ?_; (case hd => rfl); (case hg => rfl); (case hr => first | (go_simp; done) | (go_simp; rfl)); intro gb103 hg w2 hbox hb; have n0_ := Aside0.mk (below_step (by repeat (first | (with_reducible first | exact HB.out | apply below_alloc | apply pw_below_drewN | apply below_drew1) | exact HB.out)) hb); have n1_ := Aside0.mk (hbox); have n2_ := Aside0.mk ((by rw [hg]; exact (below_size (by repeat (first | (with_reducible first | exact HB.out | apply below_alloc | apply pw_below_drewN | apply below_drew1) | exact HB.out))) : w.heap.size ≤ gb103)); have n3_ := Aside0.mk ((by rw [hg]; exact (below_size (by repeat (first | (with_reducible first | exact HB.out | apply below_alloc | apply pw_below_drewN | apply below_drew1) | exact HB.out))) : w.heap.size ≤ gb103)); clear HB; have HB := n0_; have BK103 := n1_; have GW103 := n2_; have GE103 := n3_; clear n0_ n1_ n2_ n3_; clear hb hbox hg; have hcz3_0 : w2.cell? ⟨gb103, 0, none⟩ = some (.int .i64 0) := (blk_cell BK103.out 0).trans rfl; have hcz3_1 : w2.cell? ⟨gb103, 1, none⟩ = some (.int .i64 0) := (blk_cell BK103.out 1).trans rfl; have hcz3_2 : w2.cell? ⟨gb103, 2, none⟩ = some (.bool false) := (blk_cell BK103.out 2).trans rfl; have hcz3_3 : w2.cell? ⟨gb103, 3, none⟩ = some (.bool false) := (blk_cell BK103.out 3).trans rfl; have hcz3_4 : w2.cell? ⟨gb103, 4, none⟩ = some (.bool false) := (blk_cell BK103.out 4).trans rfl; have hfz3_0 := blk_frozen BK103.out 0; have hfz3_1 := blk_frozen BK103.out 1; have hfz3_2 := blk_frozen BK103.out 2; have hfz3_3 := blk_frozen BK103.out 3; have hfz3_4 := blk_frozen BK103.out 4))
  refine bodyPost_ret (results_cell_row rfl _ _ gb103 56 #[.int .i64 0, .int .i64 a0, .bool false, .bool false, .bool false] (0, 0) _ rfl (by (with_reducible repeat (first | refine blk_drewN ?_ _ | refine blk_drew ?_ | refine blk_alloc ?_ _)); refine blk_put (cs := #[.int .i64 0, .int .i64 a0, .bool false, .bool false, .bool false]) ?_ 4 _ rfl; (with_reducible repeat (first | refine blk_drewN ?_ _ | refine blk_drew ?_ | refine blk_alloc ?_ _)); refine blk_put (cs := #[.int .i64 0, .int .i64 a0, .bool false, .bool false, .bool false]) ?_ 3 _ rfl; (with_reducible repeat (first | refine blk_drewN ?_ _ | refine blk_drew ?_ | refine blk_alloc ?_ _)); refine blk_put (cs := #[.int .i64 0, .int .i64 a0, .bool false, .bool false, .bool false]) ?_ 2 _ rfl; (with_reducible repeat (first | refine blk_drewN ?_ _ | refine blk_drew ?_ | refine blk_alloc ?_ _)); refine blk_put (cs := #[.int .i64 0, .int .i64 0, .bool false, .bool false, .bool false]) ?_ 1 _ rfl; (with_reducible repeat (first | refine blk_drewN ?_ _ | refine blk_drew ?_ | refine blk_alloc ?_ _)); refine blk_put (cs := #[.int .i64 0, .int .i64 0, .bool false, .bool false, .bool false]) ?_ 0 _ rfl; (with_reducible repeat (first | refine blk_drewN ?_ _ | refine blk_drew ?_ | refine blk_alloc ?_ _)); exact BK103.out) Tryd.underlying56 rfl (by kernel_rfl)) rfl ?_
  exact ⟨by first | rfl | (simp [errW_none, errW_some] <;> rfl) | (simp [*, errW_none, errW_some] <;> rfl), by repeat (first | (with_reducible first | exact HB.out | apply below_alloc | apply pw_below_drewN | apply below_drew1 | refine below_set ?_ GE103.out) | exact HB.out)⟩

end Go.Proofs.YtghlbdemlmbijaaDoor.Q

/- gs1.forms: the map that it makes, whatever the world. (Its six loops were written by wip/tools/genform.py.) -/
namespace Go.Proofs.YtghlbdemlmbijaaDoor.Q
open Go.RowKit Go.Maps Go.WideMaps Go.Proofs.YtghlbdemlmbijaaDoorW.PrintWords Go.Proofs.YtghlbdemlmbijaaDoorW.PrintLast Go.Proofs.YtghlbdemlmbijaaDoorW.PrintMore
set_option linter.unusedVariables false
set_option linter.unusedSimpArgs false

theorem strLaw : Keyed Tryd.prog 9 := string_keyed Tryd.underlying9
/-- The map of the call's own at block b. -/
structure MInv (w wr : World) (b n : Nat) (D : DataW Unit) : Prop where
  own : wr.ownsMap Tryd.prog 9 readForm b n D
  bel : Below w.heap.size w wr
  ge : w.heap.size ≤ b
theorem MInv.below {w wr w1 : World} {b n : Nat} {D : DataW Unit} (h : MInv w wr b n D) (hb : Below wr.heap.size wr w1) : MInv w w1 b n D :=
  ⟨h.own.kept (grown_of_below hb none) (by simp), below_step h.bel hb, h.ge⟩
theorem MInv.put {w wr w1 : World} {b n n' : Nat} {D D' : DataW Unit} (h : MInv w wr b n D) (ho : w1.ownsMap Tryd.prog 9 readForm b n' D') (hg : wr.grownBy w1 (some b)) : MInv w w1 b n' D' :=
  ⟨ho, h.bel.grown hg h.bel.size (fun k hk => by injection hk with hk; have := h.ge; omega), h.ge⟩
/-- A row of strings of the call's own beside it, at block B. -/
def cellsOf (l : List (List UInt8)) : Array Value := (l.map fun x => Value.string ⟨x.toArray⟩).toArray
structure FInv (w wr : World) (b B : Nat) (l : List (List UInt8)) (n : Nat) (D : DataW Unit) : Prop where
  m : MInv w wr b n D
  blk : wr.heap[B]? = some (.cells (cellsOf l) 9 (0, 0))
  ne : B ≠ b
theorem FInv.start {w wr : World} {b n : Nat} {D : DataW Unit} (h : MInv w wr b n D) (l : List (List UInt8)) : FInv w (wr.alloc (.cells (cellsOf l) 9)) b wr.heap.size l n D :=
  ⟨h.below ((Below.refl _ _).alloc (Nat.le_refl _) _), by simpa using heap_alloc_new wr (.cells (cellsOf l) 9 (0, 0)), fun e => by have := h.own.lt; omega⟩
theorem FInv.below {w wr w1 : World} {b B n : Nat} {l : List (List UInt8)} {D : DataW Unit} (h : FInv w wr b B l n D) (hb : Below wr.heap.size wr w1) : FInv w w1 b B l n D :=
  ⟨h.m.below hb, (hb.block B (blk_lt h.blk)).trans h.blk, h.ne⟩
theorem MInv.cast {w wr : World} {b n n' : Nat} {D D' : DataW Unit} (h : MInv w wr b n D) (hD : D = D') (hn : n = n') : MInv w wr b n' D' := hD ▸ hn ▸ h
theorem FInv.cast {w wr : World} {b B n n' : Nat} {l : List (List UInt8)} {D D' : DataW Unit} (h : FInv w wr b B l n D) (hD : D = D') (hn : n = n') : FInv w wr b B l n' D' := hD ▸ hn ▸ h
theorem FInv.put {w wr w1 : World} {b B n n' : Nat} {l : List (List UInt8)} {D D' : DataW Unit} (h : FInv w wr b B l n D) (ho : w1.ownsMap Tryd.prog 9 readForm b n' D') (hg : wr.grownBy w1 (some b)) : FInv w w1 b B l n' D' :=
  ⟨h.m.put ho hg, (hg.block B (blk_lt h.blk) (by intro e; injection e with e; exact h.ne e)).trans h.blk, h.ne⟩
theorem FInv.cell {w wr : World} {b B n : Nat} {l : List (List UInt8)} {D : DataW Unit} (h : FInv w wr b B l n D) (k : Nat) (hk : k < l.length) : wr.cell? ⟨B, k, none⟩ = some (.string ⟨(l[k]).toArray⟩) := by
  rw [blk_cell h.blk k]
  simp [cellsOf, hk]
theorem snoc_take (pre : List (List UInt8 × Form)) (l : List (List UInt8)) (f : Form) (k : Nat) (hk : k < l.length) :
    pre ++ (l.take (k + 1)).map (fun x => (x, f)) = (pre ++ (l.take k).map (fun x => (x, f))) ++ [(l[k], f)] := by
  rw [List.take_succ_eq_append_getElem hk, List.map_append, List.append_assoc]
  rfl

def items0 : List (List UInt8 × Form) := [([48, 48], (18, 18, true, true, false)), ([48, 49], (14, 14, true, true, false)), ([48, 50], (14, 14, true, true, false)), ([50, 48], (2, 2, true, false, false)), ([56, 48, 50, 48], (0, 25, false, false, false))]
def names1 : List (List UInt8) := [[49, 49], [49, 50], [49, 51], [49, 53], [49, 54], [49, 55]]
def form1 : Form := (6, 6, true, false, true)
def items1 : List (List UInt8 × Form) := items0 ++ names1.map fun x => (x, form1)
theorem fields1 (W : World) (hT : Tabs W) : Calls Tryd.prog 43 #[.string ⟨#[49, 49, 32, 49, 50, 32, 49, 51, 32, 49, 53, 32, 49, 54, 32, 49, 55]⟩] W fun e w' => e = .returned (.slice (some ⟨W.heap.size, 0, none⟩) 6 6) ∧ w' = W.alloc (.cells (cellsOf names1) 9) := by
  have hf : Lib.fields (⟨#[49, 49, 32, 49, 50, 32, 49, 51, 32, 49, 53, 32, 49, 54, 32, 49, 55]⟩ : ByteArray).data.toList = names1 := by decide +kernel
  have h := Tryd.strings_Fields ⟨#[49, 49, 32, 49, 50, 32, 49, 51, 32, 49, 53, 32, 49, 54, 32, 49, 55]⟩ W (by decide) (ascii_of_all (by decide)) hT.space
  rw [hf] at h
  exact h
def names2 : List (List UInt8) := [[52, 49, 48], [52, 49, 49], [52, 49, 50], [52, 49, 51], [52, 49, 52], [52, 49, 53], [52, 49, 54], [52, 49, 55]]
def form2 : Form := (13, 13, true, true, false)
def items2 : List (List UInt8 × Form) := items1 ++ names2.map fun x => (x, form2)
theorem fields2 (W : World) (hT : Tabs W) : Calls Tryd.prog 43 #[.string ⟨#[52, 49, 48, 32, 52, 49, 49, 32, 52, 49, 50, 32, 52, 49, 51, 32, 52, 49, 52, 32, 52, 49, 53, 32, 52, 49, 54, 32, 52, 49, 55]⟩] W fun e w' => e = .returned (.slice (some ⟨W.heap.size, 0, none⟩) 8 8) ∧ w' = W.alloc (.cells (cellsOf names2) 9) := by
  have hf : Lib.fields (⟨#[52, 49, 48, 32, 52, 49, 49, 32, 52, 49, 50, 32, 52, 49, 51, 32, 52, 49, 52, 32, 52, 49, 53, 32, 52, 49, 54, 32, 52, 49, 55]⟩ : ByteArray).data.toList = names2 := by decide +kernel
  have h := Tryd.strings_Fields ⟨#[52, 49, 48, 32, 52, 49, 49, 32, 52, 49, 50, 32, 52, 49, 51, 32, 52, 49, 52, 32, 52, 49, 53, 32, 52, 49, 54, 32, 52, 49, 55]⟩ W (by decide) (ascii_of_all (by decide)) hT.space
  rw [hf] at h
  exact h
def names3 : List (List UInt8) := [[51, 48], [51, 55]]
def form3 : Form := (0, 8, true, false, false)
def items3 : List (List UInt8 × Form) := items2 ++ names3.map fun x => (x, form3)
theorem fields3 (W : World) (hT : Tabs W) : Calls Tryd.prog 43 #[.string ⟨#[51, 48, 32, 51, 55]⟩] W fun e w' => e = .returned (.slice (some ⟨W.heap.size, 0, none⟩) 2 2) ∧ w' = W.alloc (.cells (cellsOf names3) 9) := by
  have hf : Lib.fields (⟨#[51, 48, 32, 51, 55]⟩ : ByteArray).data.toList = names3 := by decide +kernel
  have h := Tryd.strings_Fields ⟨#[51, 48, 32, 51, 55]⟩ W (by decide) (ascii_of_all (by decide)) hT.space
  rw [hf] at h
  exact h
def names4 : List (List UInt8) := [[49, 48], [50, 49], [50, 50], [50, 53, 52]]
def form4 : Form := (0, 20, false, false, false)
def items4 : List (List UInt8 × Form) := items3 ++ names4.map fun x => (x, form4)
theorem fields4 (W : World) (hT : Tabs W) : Calls Tryd.prog 43 #[.string ⟨#[49, 48, 32, 50, 49, 32, 50, 50, 32, 50, 53, 52]⟩] W fun e w' => e = .returned (.slice (some ⟨W.heap.size, 0, none⟩) 4 4) ∧ w' = W.alloc (.cells (cellsOf names4) 9) := by
  have hf : Lib.fields (⟨#[49, 48, 32, 50, 49, 32, 50, 50, 32, 50, 53, 52]⟩ : ByteArray).data.toList = names4 := by decide +kernel
  have h := Tryd.strings_Fields ⟨#[49, 48, 32, 50, 49, 32, 50, 50, 32, 50, 53, 52]⟩ W (by decide) (ascii_of_all (by decide)) hT.space
  rw [hf] at h
  exact h
def names5 : List (List UInt8) := [[50, 52, 48], [50, 52, 49], [50, 53, 48], [50, 53, 49], [52, 48, 48], [52, 48, 49], [52, 48, 51], [57, 48]]
def form5 : Form := (0, 30, false, false, false)
def items5 : List (List UInt8 × Form) := items4 ++ names5.map fun x => (x, form5)
theorem fields5 (W : World) (hT : Tabs W) : Calls Tryd.prog 43 #[.string ⟨#[50, 52, 48, 32, 50, 52, 49, 32, 50, 53, 48, 32, 50, 53, 49, 32, 52, 48, 48, 32, 52, 48, 49, 32, 52, 48, 51, 32, 57, 48]⟩] W fun e w' => e = .returned (.slice (some ⟨W.heap.size, 0, none⟩) 8 8) ∧ w' = W.alloc (.cells (cellsOf names5) 9) := by
  have hf : Lib.fields (⟨#[50, 52, 48, 32, 50, 52, 49, 32, 50, 53, 48, 32, 50, 53, 49, 32, 52, 48, 48, 32, 52, 48, 49, 32, 52, 48, 51, 32, 57, 48]⟩ : ByteArray).data.toList = names5 := by decide +kernel
  have h := Tryd.strings_Fields ⟨#[50, 52, 48, 32, 50, 52, 49, 32, 50, 53, 48, 32, 50, 53, 49, 32, 52, 48, 48, 32, 52, 48, 49, 32, 52, 48, 51, 32, 57, 48]⟩ W (by decide) (ascii_of_all (by decide)) hT.space
  rw [hf] at h
  exact h
def names6 : List (List UInt8) := [[57, 49], [57, 50], [57, 51], [57, 52], [57, 53], [57, 54], [57, 55], [57, 56], [57, 57]]
def form6 : Form := (0, 90, false, false, false)
def items6 : List (List UInt8 × Form) := items5 ++ names6.map fun x => (x, form6)
theorem fields6 (W : World) (hT : Tabs W) : Calls Tryd.prog 43 #[.string ⟨#[57, 49, 32, 57, 50, 32, 57, 51, 32, 57, 52, 32, 57, 53, 32, 57, 54, 32, 57, 55, 32, 57, 56, 32, 57, 57]⟩] W fun e w' => e = .returned (.slice (some ⟨W.heap.size, 0, none⟩) 9 9) ∧ w' = W.alloc (.cells (cellsOf names6) 9) := by
  have hf : Lib.fields (⟨#[57, 49, 32, 57, 50, 32, 57, 51, 32, 57, 52, 32, 57, 53, 32, 57, 54, 32, 57, 55, 32, 57, 56, 32, 57, 57]⟩ : ByteArray).data.toList = names6 := by decide +kernel
  have h := Tryd.strings_Fields ⟨#[57, 49, 32, 57, 50, 32, 57, 51, 32, 57, 52, 32, 57, 53, 32, 57, 54, 32, 57, 55, 32, 57, 56, 32, 57, 57]⟩ W (by decide) (ascii_of_all (by decide)) hT.space
  rw [hf] at h
  exact h
end Go.Proofs.YtghlbdemlmbijaaDoor.Q

/- gs1.forms: the walk. (Its six loops were written by a program.) -/
namespace Go.Proofs.YtghlbdemlmbijaaDoor.Q
open Go.RowKit Go.Maps Go.WideMaps Go.Proofs.YtghlbdemlmbijaaDoorW.PrintWords Go.Proofs.YtghlbdemlmbijaaDoorW.PrintLast Go.Proofs.YtghlbdemlmbijaaDoorW.PrintMore
set_option linter.unusedVariables false
set_option linter.unusedSimpArgs false
theorem Drawn0.of_eq {w w' : World} (h : w = w') : Drawn0 w w' := h ▸ Drawn0.refl w
set_option maxRecDepth 100000 in
set_option maxHeartbeats 4000000 in
theorem forms_calls (w : World) (hT : Tabs w) : Calls Tryd.prog 31 #[] w fun e w' => ∃ b, e = .returned (.map (some b)) ∧ Aside0 (w'.ownsMap Tryd.prog 9 readForm b 42 (putAll (.map []) items6)) ∧ Aside0 (Below w.heap.size w w') := by
  have hmm := @run_makeMap Tryd.prog
  have HT := Lib.hid hT
  clear hT
  have HO : Aside0 (MInv w (w.alloc (.map #[] 0)) w.heap.size 0 (.map [])) := ⟨⟨World.ownsMap_made _ _ _ _, (Below.refl _ _).alloc (Nat.le_refl _) _, Nat.le_refl _⟩⟩
  go_enter Tryd.func31, Tryd.ntmps31
  go_wp2_with (first
    | (go_at_call 41; refine (gs1_checked.calls _ _ _ _ _ _ _ rfl).mono ?_; rintro e w' ⟨rfl, hb⟩; have n_ := Aside0.mk (HO.out.below hb); clear HO hb; have HO := n_; clear n_)
    | (go_at_call 33; refine (gs1_number.calls _ _ _ _ _ _ _ rfl).mono ?_; rintro e w' ⟨rfl, hb⟩; have n_ := Aside0.mk (HO.out.below hb); clear HO hb; have HO := n_; clear n_)
    | (go_at_call 42; refine (gs1_text.calls _ _ _ _ _ _ _ rfl).mono ?_; rintro e w' ⟨rfl, hb⟩; have n_ := Aside0.mk (HO.out.below hb); clear HO hb; have HO := n_; clear n_)
    | (refine wpList_insert_own _ rfl _ _ _ 66 rfl 9 56 strLaw Tryd.underlying66 readForm _ _ _ rfl HO.out.own (by unfold maxLen; omega) (.string ⟨#[48, 48]⟩) (formV (18, 18, true, true, false)) (kl [48, 48]) rfl rfl (keyOf_string_mk Tryd.underlying9 (s := ⟨#[48, 48]⟩) (by decide)) (formD (18, 18, true, true, false)) [] rfl ?_; intro w1 ho hg; have n_ := Aside0.mk (HO.out.put ho hg); clear HO ho hg; have HO := n_; clear n_)
    | (refine wpList_insert_own _ rfl _ _ _ 66 rfl 9 56 strLaw Tryd.underlying66 readForm _ _ _ rfl HO.out.own (by unfold maxLen; omega) (.string ⟨#[48, 49]⟩) (formV (14, 14, true, true, false)) (kl [48, 49]) rfl rfl (keyOf_string_mk Tryd.underlying9 (s := ⟨#[48, 49]⟩) (by decide)) (formD (14, 14, true, true, false)) [] rfl ?_; intro w1 ho hg; have n_ := Aside0.mk (HO.out.put ho hg); clear HO ho hg; have HO := n_; clear n_)
    | (refine wpList_insert_own _ rfl _ _ _ 66 rfl 9 56 strLaw Tryd.underlying66 readForm _ _ _ rfl HO.out.own (by unfold maxLen; omega) (.string ⟨#[48, 50]⟩) (formV (14, 14, true, true, false)) (kl [48, 50]) rfl rfl (keyOf_string_mk Tryd.underlying9 (s := ⟨#[48, 50]⟩) (by decide)) (formD (14, 14, true, true, false)) [] rfl ?_; intro w1 ho hg; have n_ := Aside0.mk (HO.out.put ho hg); clear HO ho hg; have HO := n_; clear n_)
    | (refine wpList_insert_own _ rfl _ _ _ 66 rfl 9 56 strLaw Tryd.underlying66 readForm _ _ _ rfl HO.out.own (by unfold maxLen; omega) (.string ⟨#[50, 48]⟩) (formV (2, 2, true, false, false)) (kl [50, 48]) rfl rfl (keyOf_string_mk Tryd.underlying9 (s := ⟨#[50, 48]⟩) (by decide)) (formD (2, 2, true, false, false)) [] rfl ?_; intro w1 ho hg; have n_ := Aside0.mk (HO.out.put ho hg); clear HO ho hg; have HO := n_; clear n_)
    | (refine wpList_insert_own _ rfl _ _ _ 66 rfl 9 56 strLaw Tryd.underlying66 readForm _ _ _ rfl HO.out.own (by unfold maxLen; omega) (.string ⟨#[56, 48, 50, 48]⟩) (formV (0, 25, false, false, false)) (kl [56, 48, 50, 48]) rfl rfl (keyOf_string_mk Tryd.underlying9 (s := ⟨#[56, 48, 50, 48]⟩) (by decide)) (formD (0, 25, false, false, false)) [] rfl ?_; intro w1 ho hg; have n_ := Aside0.mk (HO.out.put ho hg); clear HO ho hg; have HO := n_; clear n_))

  (have hTW : Tabs _ := HT.out.below HO.out.bel); (refine (fields1 _ hTW).mono ?_); clear hTW; rintro e w' ⟨rfl, rfl⟩
  have HF1 := Aside0.mk ((FInv.start HO.out names1).cast (D' := putAll (.map []) items0) (n' := 5) rfl rfl)
  clear HO
  go_wp2_with fail
  go_loopw [23] (fun v wr => ∃ k : Nat, k ≤ 6 ∧ v = .int .i64 k ∧ Aside0 (FInv w wr w.heap.size _ names1 (5 + k) (putAll (.map []) (items0 ++ (names1.take k).map fun x => (x, form1))))) (fun v _ => 6 - (intOf v).toNat)
  case atStart => exact ⟨0, Nat.zero_le _, rfl, ⟨HF1.out.cast (by simp) rfl⟩⟩
  case round =>
    clear HF1
    obtain ⟨k, hk, rfl, HR⟩ := hrel
    by_cases hlt : k < 6
    · have hkn : k < names1.length := hlt
      have hc0 := HR.out.cell k hkn
      have hD := snoc_take items0 names1 form1 k hkn
      have h4 : ∀ y ∈ names1, y.length ≤ 4 := by decide
      have hx4 := h4 _ (List.getElem_mem hkn)
      generalize hx : names1[k] = x at hc0 hD hx4
      have HD := Lib.hid hD
      have HK := Lib.hid (keyOf_string_mk Tryd.underlying9 (s := ⟨x.toArray⟩) (by unfold maxLen; show x.length ≤ _; omega))
      clear hD h4 hx4 hx hkn
      go_wp2_with (first | (at_mapUpdate; refine wpList_mapUpdate_own _ rfl _ _ _ 66 rfl 9 56 strLaw Tryd.underlying66 readForm _ _ _ rfl HR.out.m.own (by unfold maxLen; omega) (.string ⟨x.toArray⟩) (formV form1) (kl x) rfl rfl HK.out (formD form1) [] rfl ?_; intro w2 ho hg; have n_ := Aside0.mk (HR.out.put ho hg); clear HR ho hg; have HR := n_; clear n_))
      go_roundw
      case rel => exact ⟨k + 1, by omega, by go_num, ⟨HR.out.cast (by rw [HD.out, putAll_snoc]) rfl⟩⟩
      case measure => simp [intOf]; omega
    · obtain rfl : k = 6 := by omega
      have HO := Aside0.mk (HR.out.m.cast (D' := putAll (.map []) items1) (n' := 11) rfl rfl)
      clear HR hk hlt
      go_wp2_with fail
      (have hTW : Tabs _ := HT.out.below HO.out.bel); (refine (fields2 _ hTW).mono ?_); clear hTW; rintro e w' ⟨rfl, rfl⟩
      have HF2 := Aside0.mk (FInv.start HO.out names2)
      clear HO
      go_wp2_with fail
      go_loopw [33] (fun v wr => ∃ k : Nat, k ≤ 8 ∧ v = .int .i64 k ∧ Aside0 (FInv w wr w.heap.size _ names2 (11 + k) (putAll (.map []) (items1 ++ (names2.take k).map fun x => (x, form2))))) (fun v _ => 8 - (intOf v).toNat)
      case atStart => exact ⟨0, Nat.zero_le _, rfl, ⟨HF2.out.cast (by simp) rfl⟩⟩
      case round =>
        clear HF2
        obtain ⟨k, hk, rfl, HR⟩ := hrel
        by_cases hlt : k < 8
        · have hkn : k < names2.length := hlt
          have hc0 := HR.out.cell k hkn
          have hD := snoc_take items1 names2 form2 k hkn
          have h4 : ∀ y ∈ names2, y.length ≤ 4 := by decide
          have hx4 := h4 _ (List.getElem_mem hkn)
          generalize hx : names2[k] = x at hc0 hD hx4
          have HD := Lib.hid hD
          have HK := Lib.hid (keyOf_string_mk Tryd.underlying9 (s := ⟨x.toArray⟩) (by unfold maxLen; show x.length ≤ _; omega))
          clear hD h4 hx4 hx hkn
          go_wp2_with (first | (go_at_call 41; refine (gs1_checked.calls _ _ _ _ _ _ _ rfl).mono ?_; rintro e w2 ⟨rfl, hb⟩; have n_ := Aside0.mk (HR.out.below hb); clear HR hb; have HR := n_; clear n_) | (at_mapUpdate; refine wpList_mapUpdate_own _ rfl _ _ _ 66 rfl 9 56 strLaw Tryd.underlying66 readForm _ _ _ rfl HR.out.m.own (by unfold maxLen; omega) (.string ⟨x.toArray⟩) (formV form2) (kl x) rfl rfl HK.out (formD form2) [] rfl ?_; intro w2 ho hg; have n_ := Aside0.mk (HR.out.put ho hg); clear HR ho hg; have HR := n_; clear n_))
          go_roundw
          case rel => exact ⟨k + 1, by omega, by go_num, ⟨HR.out.cast (by rw [HD.out, putAll_snoc]) rfl⟩⟩
          case measure => simp [intOf]; omega
        · obtain rfl : k = 8 := by omega
          have HO := Aside0.mk (HR.out.m.cast (D' := putAll (.map []) items2) (n' := 19) rfl rfl)
          clear HR hk hlt
          go_wp2_with fail
          (have hTW : Tabs _ := HT.out.below HO.out.bel); (refine (fields3 _ hTW).mono ?_); clear hTW; rintro e w' ⟨rfl, rfl⟩
          have HF3 := Aside0.mk (FInv.start HO.out names3)
          clear HO
          go_wp2_with fail
          go_loopw [43] (fun v wr => ∃ k : Nat, k ≤ 2 ∧ v = .int .i64 k ∧ Aside0 (FInv w wr w.heap.size _ names3 (19 + k) (putAll (.map []) (items2 ++ (names3.take k).map fun x => (x, form3))))) (fun v _ => 2 - (intOf v).toNat)
          case atStart => exact ⟨0, Nat.zero_le _, rfl, ⟨HF3.out.cast (by simp) rfl⟩⟩
          case round =>
            clear HF3
            obtain ⟨k, hk, rfl, HR⟩ := hrel
            by_cases hlt : k < 2
            · have hkn : k < names3.length := hlt
              have hc0 := HR.out.cell k hkn
              have hD := snoc_take items2 names3 form3 k hkn
              have h4 : ∀ y ∈ names3, y.length ≤ 4 := by decide
              have hx4 := h4 _ (List.getElem_mem hkn)
              generalize hx : names3[k] = x at hc0 hD hx4
              have HD := Lib.hid hD
              have HK := Lib.hid (keyOf_string_mk Tryd.underlying9 (s := ⟨x.toArray⟩) (by unfold maxLen; show x.length ≤ _; omega))
              clear hD h4 hx4 hx hkn
              go_wp2_with (first | (at_mapUpdate; refine wpList_mapUpdate_own _ rfl _ _ _ 66 rfl 9 56 strLaw Tryd.underlying66 readForm _ _ _ rfl HR.out.m.own (by unfold maxLen; omega) (.string ⟨x.toArray⟩) (formV form3) (kl x) rfl rfl HK.out (formD form3) [] rfl ?_; intro w2 ho hg; have n_ := Aside0.mk (HR.out.put ho hg); clear HR ho hg; have HR := n_; clear n_))
              go_roundw
              case rel => exact ⟨k + 1, by omega, by go_num, ⟨HR.out.cast (by rw [HD.out, putAll_snoc]) rfl⟩⟩
              case measure => simp [intOf]; omega
            · obtain rfl : k = 2 := by omega
              have HO := Aside0.mk (HR.out.m.cast (D' := putAll (.map []) items3) (n' := 21) rfl rfl)
              clear HR hk hlt
              go_wp2_with fail
              (have hTW : Tabs _ := HT.out.below HO.out.bel); (refine (fields4 _ hTW).mono ?_); clear hTW; rintro e w' ⟨rfl, rfl⟩
              have HF4 := Aside0.mk (FInv.start HO.out names4)
              clear HO
              go_wp2_with fail
              go_loopw [53] (fun v wr => ∃ k : Nat, k ≤ 4 ∧ v = .int .i64 k ∧ Aside0 (FInv w wr w.heap.size _ names4 (21 + k) (putAll (.map []) (items3 ++ (names4.take k).map fun x => (x, form4))))) (fun v _ => 4 - (intOf v).toNat)
              case atStart => exact ⟨0, Nat.zero_le _, rfl, ⟨HF4.out.cast (by simp) rfl⟩⟩
              case round =>
                clear HF4
                obtain ⟨k, hk, rfl, HR⟩ := hrel
                by_cases hlt : k < 4
                · have hkn : k < names4.length := hlt
                  have hc0 := HR.out.cell k hkn
                  have hD := snoc_take items3 names4 form4 k hkn
                  have h4 : ∀ y ∈ names4, y.length ≤ 4 := by decide
                  have hx4 := h4 _ (List.getElem_mem hkn)
                  generalize hx : names4[k] = x at hc0 hD hx4
                  have HD := Lib.hid hD
                  have HK := Lib.hid (keyOf_string_mk Tryd.underlying9 (s := ⟨x.toArray⟩) (by unfold maxLen; show x.length ≤ _; omega))
                  clear hD h4 hx4 hx hkn
                  go_wp2_with (first | (go_at_call 42; refine (gs1_text.calls _ _ _ _ _ _ _ rfl).mono ?_; rintro e w2 ⟨rfl, hb⟩; have n_ := Aside0.mk (HR.out.below hb); clear HR hb; have HR := n_; clear n_) | (at_mapUpdate; refine wpList_mapUpdate_own _ rfl _ _ _ 66 rfl 9 56 strLaw Tryd.underlying66 readForm _ _ _ rfl HR.out.m.own (by unfold maxLen; omega) (.string ⟨x.toArray⟩) (formV form4) (kl x) rfl rfl HK.out (formD form4) [] rfl ?_; intro w2 ho hg; have n_ := Aside0.mk (HR.out.put ho hg); clear HR ho hg; have HR := n_; clear n_))
                  go_roundw
                  case rel => exact ⟨k + 1, by omega, by go_num, ⟨HR.out.cast (by rw [HD.out, putAll_snoc]) rfl⟩⟩
                  case measure => simp [intOf]; omega
                · obtain rfl : k = 4 := by omega
                  have HO := Aside0.mk (HR.out.m.cast (D' := putAll (.map []) items4) (n' := 25) rfl rfl)
                  clear HR hk hlt
                  go_wp2_with fail
                  (have hTW : Tabs _ := HT.out.below HO.out.bel); (refine (fields5 _ hTW).mono ?_); clear hTW; rintro e w' ⟨rfl, rfl⟩
                  have HF5 := Aside0.mk (FInv.start HO.out names5)
                  clear HO
                  go_wp2_with fail
                  go_loopw [63] (fun v wr => ∃ k : Nat, k ≤ 8 ∧ v = .int .i64 k ∧ Aside0 (FInv w wr w.heap.size _ names5 (25 + k) (putAll (.map []) (items4 ++ (names5.take k).map fun x => (x, form5))))) (fun v _ => 8 - (intOf v).toNat)
                  case atStart => exact ⟨0, Nat.zero_le _, rfl, ⟨HF5.out.cast (by simp) rfl⟩⟩
                  case round =>
                    clear HF5
                    obtain ⟨k, hk, rfl, HR⟩ := hrel
                    by_cases hlt : k < 8
                    · have hkn : k < names5.length := hlt
                      have hc0 := HR.out.cell k hkn
                      have hD := snoc_take items4 names5 form5 k hkn
                      have h4 : ∀ y ∈ names5, y.length ≤ 4 := by decide
                      have hx4 := h4 _ (List.getElem_mem hkn)
                      generalize hx : names5[k] = x at hc0 hD hx4
                      have HD := Lib.hid hD
                      have HK := Lib.hid (keyOf_string_mk Tryd.underlying9 (s := ⟨x.toArray⟩) (by unfold maxLen; show x.length ≤ _; omega))
                      clear hD h4 hx4 hx hkn
                      go_wp2_with (first | (go_at_call 42; refine (gs1_text.calls _ _ _ _ _ _ _ rfl).mono ?_; rintro e w2 ⟨rfl, hb⟩; have n_ := Aside0.mk (HR.out.below hb); clear HR hb; have HR := n_; clear n_) | (at_mapUpdate; refine wpList_mapUpdate_own _ rfl _ _ _ 66 rfl 9 56 strLaw Tryd.underlying66 readForm _ _ _ rfl HR.out.m.own (by unfold maxLen; omega) (.string ⟨x.toArray⟩) (formV form5) (kl x) rfl rfl HK.out (formD form5) [] rfl ?_; intro w2 ho hg; have n_ := Aside0.mk (HR.out.put ho hg); clear HR ho hg; have HR := n_; clear n_))
                      go_roundw
                      case rel => exact ⟨k + 1, by omega, by go_num, ⟨HR.out.cast (by rw [HD.out, putAll_snoc]) rfl⟩⟩
                      case measure => simp [intOf]; omega
                    · obtain rfl : k = 8 := by omega
                      have HO := Aside0.mk (HR.out.m.cast (D' := putAll (.map []) items5) (n' := 33) rfl rfl)
                      clear HR hk hlt
                      go_wp2_with fail
                      (have hTW : Tabs _ := HT.out.below HO.out.bel); (refine (fields6 _ hTW).mono ?_); clear hTW; rintro e w' ⟨rfl, rfl⟩
                      have HF6 := Aside0.mk (FInv.start HO.out names6)
                      clear HO
                      go_wp2_with fail
                      go_loopw [73] (fun v wr => ∃ k : Nat, k ≤ 9 ∧ v = .int .i64 k ∧ Aside0 (FInv w wr w.heap.size _ names6 (33 + k) (putAll (.map []) (items5 ++ (names6.take k).map fun x => (x, form6))))) (fun v _ => 9 - (intOf v).toNat)
                      case atStart => exact ⟨0, Nat.zero_le _, rfl, ⟨HF6.out.cast (by simp) rfl⟩⟩
                      case round =>
                        clear HF6
                        obtain ⟨k, hk, rfl, HR⟩ := hrel
                        by_cases hlt : k < 9
                        · have hkn : k < names6.length := hlt
                          have hc0 := HR.out.cell k hkn
                          have hD := snoc_take items5 names6 form6 k hkn
                          have h4 : ∀ y ∈ names6, y.length ≤ 4 := by decide
                          have hx4 := h4 _ (List.getElem_mem hkn)
                          generalize hx : names6[k] = x at hc0 hD hx4
                          have HD := Lib.hid hD
                          have HK := Lib.hid (keyOf_string_mk Tryd.underlying9 (s := ⟨x.toArray⟩) (by unfold maxLen; show x.length ≤ _; omega))
                          clear hD h4 hx4 hx hkn
                          go_wp2_with (first | (go_at_call 42; refine (gs1_text.calls _ _ _ _ _ _ _ rfl).mono ?_; rintro e w2 ⟨rfl, hb⟩; have n_ := Aside0.mk (HR.out.below hb); clear HR hb; have HR := n_; clear n_) | (at_mapUpdate; refine wpList_mapUpdate_own _ rfl _ _ _ 66 rfl 9 56 strLaw Tryd.underlying66 readForm _ _ _ rfl HR.out.m.own (by unfold maxLen; omega) (.string ⟨x.toArray⟩) (formV form6) (kl x) rfl rfl HK.out (formD form6) [] rfl ?_; intro w2 ho hg; have n_ := Aside0.mk (HR.out.put ho hg); clear HR ho hg; have HR := n_; clear n_))
                          go_roundw
                          case rel => exact ⟨k + 1, by omega, by go_num, ⟨HR.out.cast (by rw [HD.out, putAll_snoc]) rfl⟩⟩
                          case measure => simp [intOf]; omega
                        · obtain rfl : k = 9 := by omega
                          have HO := Aside0.mk (HR.out.m.cast (D' := putAll (.map []) items6) (n' := 42) rfl rfl)
                          clear HR hk hlt
                          go_wp2
                          go_ret
                          exact ⟨_, rfl, ⟨HO.out.own⟩, ⟨HO.out.bel⟩⟩
end Go.Proofs.YtghlbdemlmbijaaDoor.Q

/- gs1.formOf: what it answers for every string. -/
namespace Go.Proofs.YtghlbdemlmbijaaDoor.Q
open Go.RowKit Go.Maps Go.WideMaps Go.Proofs.YtghlbdemlmbijaaDoorW.PrintWords Go.Proofs.YtghlbdemlmbijaaDoorW.PrintLast Go.Proofs.YtghlbdemlmbijaaDoorW.PrintMore
set_option linter.unusedVariables false
set_option linter.unusedSimpArgs false

theorem zeroForm (w : World) : (zeroValue 56).run Tryd.prog w = .ok (formV z0) w := by kernel_rfl
theorem items6_apart : items6.Pairwise fun a b => a.1 ≠ b.1 := by decide +kernel
/-- From 310 to 316 or from 320 to 337. -/
def inRange (g : List UInt8) : Bool := (!(Op.bytesLess g [51, 49, 48]) && (Op.bytesLess g [51, 49, 54] || g == [51, 49, 54])) || (!(Op.bytesLess g [51, 50, 48]) && (Op.bytesLess g [51, 51, 55] || g == [51, 51, 55]))
def okForm (f : Form) : Int × Int × Bool × Bool × Bool × Bool := (f.1, f.2.1, f.2.2.1, f.2.2.2.1, f.2.2.2.2, true)
def noForm : Int × Int × Bool × Bool × Bool × Bool := (0, 0, false, false, false, false)
def restForm (l : List UInt8) : Int × Int × Bool × Bool × Bool × Bool :=
  if l.length = 4 then
    if l.all isDig = true then
      if inRange (l.take 3) = true ∧ (l.getD 3 0).toNat ≤ 53 then okForm (6, 6, true, false, false)
      else if l.take 3 = [51, 57, 48] ∨ l.take 3 = [51, 57, 50] then okForm (0, 15, true, false, false) else noForm
    else noForm
  else noForm
def formOfS (l : List UInt8) : Int × Int × Bool × Bool × Bool × Bool := match look items6 l with | some f => okForm f | none => restForm l
def gs1_formOf.f (a0 : ByteArray) : Option (Int × Int × Bool × Bool × Bool × Bool) := if a0.size < 4294967281 then some (formOfS (bs a0)) else none
theorem items6_at (k : List UInt8) : (∀ z, (putAll (.map []) items6).atKey (kl k) z = match look items6 k with | some f => formD f | none => (DataW.map [] : DataW Unit).atKey (kl k) z) ∧ has (putAll (.map []) items6) (kl k) = ((look items6 k).isSome || false) :=
  putAll_at items6 items6_apart k (.map []) isMap_empty

theorem bcell {W w1 : World} (hb : Below W.heap.size W w1) : (∀ b o, b < W.heap.size → w1.cell? ⟨b, o, none⟩ = W.cell? ⟨b, o, none⟩) ∧ (∀ b o, b < W.heap.size → w1.frozen? ⟨b, o, none⟩ = W.frozen? ⟨b, o, none⟩) :=
  ⟨fun b o h => hb.cell (p := ⟨b, o, none⟩) h, fun b o h => hb.frozen (p := ⟨b, o, none⟩) h⟩
set_option maxRecDepth 100000 in
set_option maxHeartbeats 4000000 in
theorem formOf_named (s : ByteArray) (f0 f1 : Int) (f2 f3 f4 : Bool) (w : World) (hT : Tabs w) (hs : s.size < 4294967281) (hl : look items6 (bs s) = some (f0, f1, f2, f3, f4)) :
    Calls Tryd.prog 22 #[.string s] w fun e w' => e = .returned (.tuple #[.agg #[.int .i64 f0, .int .i64 f1, .bool f2, .bool f3, .bool f4], .bool true]) ∧ Below w.heap.size w w' := by
  have h1 := (items6_at (bs s)).1 (formD z0)
  have h2 := (items6_at (bs s)).2
  rw [hl] at h1 h2
  have HA := Lib.hid h1
  have HH := Lib.hid h2
  have HK := Lib.hid (keyOf_string_mk Tryd.underlying9 (s := s) (by unfold maxLen; omega))
  have HT := Lib.hid hT
  clear h1 h2 hl hT
  go_enter Tryd.func22, Tryd.ntmps22
  go_wp2_with (first
    | (go_at_call 31; refine (forms_calls _ (HT.out.below (by first | exact Below.refl _ _ | exact (Below.refl _ _).alloc (Nat.le_refl _) _))).mono ?_; rintro e w' ⟨b, rfl, HO, HB⟩; obtain ⟨hc, hf⟩ := bcell HB.out; have hz : w.heap.size < w'.heap.size := by (have := HB.out.size; simp at this; omega))
    | (at_lookup; refine wpList_lookup_own_ok _ rfl _ _ 66 rfl 9 56 strLaw Tryd.underlying66 readForm (zeroForm _) (formD z0) [] rfl _ 42 _ rfl HO.out _ (kl (bs s)) rfl HK.out ?_; intro v ps hv; rw [HA.out] at hv; obtain rfl : v = .agg #[.int .i64 f0, .int .i64 f1, .bool f2, .bool f3, .bool f4] := readForm_inv hv; clear hv; rw [HH.out]))
  have B0 : Below w.heap.size w w' := below_step ((Below.refl w.heap.size w).alloc (Nat.le_refl _) _) HB.out
  refine bodyPost_ret (v := .tuple #[.agg #[.int .i64 f0, .int .i64 f1, .bool f2, .bool f3, .bool f4], .bool true]) (by simp [results, Tryd.results22, go_sem, hc, hf, hz]) rfl ⟨rfl, ?_⟩
  repeat (first | exact B0 | apply below_alloc | refine below_set ?_ (Nat.le_refl _))
theorem all_not_digits (l : List UInt8) (h : ∀ x ∈ l, isDig x = true) : l.dropWhile ((bs digitsS).contains ·) = [] := by
  induction l with
  | nil => rfl
  | cons a l ih =>
    have ha : (bs digitsS).contains a = true := by have := mem_digits a; rw [h a (by simp)] at this; simpa using this
    rw [List.dropWhile_cons_of_pos ha]
    exact ih fun x hx => h x (by simp [hx])
theorem not_digit (x : UInt8) (hd : isDig x = false) : (bs digitsS).contains x = false := by
  have := mem_digits x; rw [hd] at this; simpa using this
theorem mem_drop (x : UInt8) (hd : isDig x = false) (l : List UInt8) (h : x ∈ l) : x ∈ l.dropWhile ((bs digitsS).contains ·) := by
  induction l with
  | nil => exact h
  | cons a l ih =>
    by_cases ha : (bs digitsS).contains a = true
    · rw [List.dropWhile_cons_of_pos ha]
      rcases List.mem_cons.1 h with rfl | h
      · rw [not_digit _ hd] at ha; cases ha
      · exact ih h
    · rw [List.dropWhile_cons_of_neg (by simpa using ha)]; exact h
theorem trim_empty (l : List UInt8) : (Lib.trimS l (bs digitsS)).isEmpty = l.all isDig := by
  unfold Lib.trimS Lib.trimLeftS Lib.trimRightS
  rcases h : l.all isDig with _ | _
  · rw [List.all_eq_false] at h
    obtain ⟨x, hx, hd⟩ := h
    have hd : isDig x = false := by simpa using hd
    rw [List.isEmpty_eq_false_iff]
    exact List.ne_nil_of_mem (mem_drop x hd _ (List.mem_reverse.2 (mem_drop x hd _ (List.mem_reverse.2 hx))))
  · rw [List.all_eq_true] at h
    rw [List.isEmpty_iff]
    have : (l.reverse.dropWhile ((bs digitsS).contains ·)) = [] := all_not_digits _ fun x hx => h x (List.mem_reverse.1 hx)
    rw [this]; rfl
/-- strings.Trim of the digits: nothing is left just where all bytes are digits. -/
theorem trim_calls (s : ByteArray) (w : World) (hs : s.size ≤ 9223372036854775807) : Calls Tryd.prog 32 #[.string s, .string digitsS] w fun e w' => ∃ t : ByteArray, e = .returned (.string t) ∧ t.toList.isEmpty = allDig s ∧ Below w.heap.size w w' := by
  refine (Any.strings_Trim_laid Tryd.lays160 (by kernel_rfl) s digitsS w hs (by decide) (ascii_of_all (by decide))).mono fun e w' ⟨he, hb⟩ => ⟨_, he, ?_, hb⟩
  rw [Lib.toList_data]
  exact trim_empty (bs s)
def numV (a b : Int) (d ok : Bool) : Value := .tuple #[.agg #[.int .i64 a, .int .i64 b, .bool d, .bool false, .bool false], .bool ok]
set_option maxRecDepth 100000 in
set_option maxHeartbeats 8000000 in
theorem formOf_num (s : ByteArray) (w : World) (hT : Tabs w) (hs : s.size = 4) (hl : look items6 (bs s) = none) (hd : allDig s = true) :
    Calls Tryd.prog 22 #[.string s] w fun e w' => e = .returned (if (inRange (s.extract 0 3).toList && decide (bt s 3 ≤ 53)) = true then numV 6 6 true true else if ((s.extract 0 3).toList == [51, 57, 48] || (s.extract 0 3).toList == [51, 57, 50]) = true then numV 0 15 true true else numV 0 0 false false) ∧ Below w.heap.size w w' := by
  have h1 := (items6_at (bs s)).1 (formD z0)
  have h2 := (items6_at (bs s)).2
  rw [hl] at h1 h2
  have HA := Lib.hid (show (putAll (.map []) items6).atKey (kl (bs s)) (formD z0) = formD z0 from h1)
  have HH := Lib.hid (show has (putAll (.map []) items6) (kl (bs s)) = false from h2)
  have HK := Lib.hid (keyOf_string_mk Tryd.underlying9 (s := s) (by unfold maxLen; omega))
  have HT := Lib.hid hT
  have HD := Lib.hid hd
  clear h1 h2 hl hT hd
  have l1 : ((s.size : Int) == 4) = true := beq_iff_eq.mpr (by omega)
  have l2 : ((s.size : Int) != 4) = false := bne_eq_false_iff_eq.mpr (by omega)
  have l3 : (s.size == 4) = true := beq_iff_eq.mpr hs
  have l4 : (3 ≤ (s.size : Int)) = True := eq_true (by omega)
  have l5 : (3 ≤ s.size) = True := eq_true (by omega)
  have l6 : (3 < s.size) = True := eq_true (by omega)
  have l7 : (3 < (s.size : Int)) = True := eq_true (by omega)
  have hb3 : ∀ h : 3 < s.size, ((s[3]'h).toNat : Int) = bt s 3 := bt_at s 3
  have HS := Lib.hid hs
  clear hs
  go_enter Tryd.func22, Tryd.ntmps22
  go_upto_region 7 with (first
    | (go_at_call 31; refine (forms_calls _ (HT.out.below (by first | exact Below.refl _ _ | exact (Below.refl _ _).alloc (Nat.le_refl _) _))).mono ?_; rintro e w' ⟨b, rfl, HO, HB⟩; obtain ⟨hc, hf⟩ := bcell HB.out; have hz : w.heap.size < w'.heap.size := by (have := HB.out.size; simp at this; omega))
    | (at_lookup; refine wpList_lookup_own_ok _ rfl _ _ 66 rfl 9 56 strLaw Tryd.underlying66 readForm (zeroForm _) (formD z0) [] rfl _ 42 _ rfl HO.out _ (kl (bs s)) rfl HK.out ?_; intro v ps hv; rw [HA.out] at hv; obtain rfl : v = .agg #[.int .i64 0, .int .i64 0, .bool false, .bool false, .bool false] := readForm_inv hv; clear hv; rw [HH.out])
    | (go_at_call 32; refine (trim_calls s _ (by rw [HS.out]; omega)).mono ?_; rintro e w2 ⟨t, rfl, ht, hb2⟩; rw [HD.out] at ht; have ht2 : t.toList = [] := List.isEmpty_iff.1 ht))
  go_cut [26] (fun v26 wc => v26 = .bool (inRange (s.extract 0 3).toList && decide (bt s 3 ≤ 53)) ∧ Aside0 (wc = w2))
  case first =>
    rcases p1 : Op.bytesLess (s.extract 0 3).toList [51, 49, 48] with _ | _
    · skip
      rcases p2 : Op.bytesLess (s.extract 0 3).toList [51, 49, 54] with _ | _
      · skip
        by_cases q2 : (s.extract 0 3).toList = [51, 49, 54]
        · have q2b : ((s.extract 0 3).toList == [51, 49, 54]) = true := beq_iff_eq.mpr q2
          replace q2 := eq_true q2
          go_wp2
          go_meet
          exact ⟨by simp [inRange, p1, p2, q2, q2b], ⟨rfl⟩⟩
        · have q2b : ((s.extract 0 3).toList == [51, 49, 54]) = false := beq_eq_false_iff_ne.mpr q2
          replace q2 := eq_false q2
          rcases p3 : Op.bytesLess (s.extract 0 3).toList [51, 50, 48] with _ | _
          · skip
            rcases p4 : Op.bytesLess (s.extract 0 3).toList [51, 51, 55] with _ | _
            · skip
              by_cases q4 : (s.extract 0 3).toList = [51, 51, 55]
              · have q4b : ((s.extract 0 3).toList == [51, 51, 55]) = true := beq_iff_eq.mpr q4
                replace q4 := eq_true q4
                go_wp2
                go_meet
                exact ⟨by simp [inRange, p1, p2, q2, q2b, p3, p4, q4, q4b], ⟨rfl⟩⟩
              · have q4b : ((s.extract 0 3).toList == [51, 51, 55]) = false := beq_eq_false_iff_ne.mpr q4
                replace q4 := eq_false q4
                go_wp2
                go_meet
                exact ⟨by simp [inRange, p1, p2, q2, q2b, p3, p4, q4, q4b], ⟨rfl⟩⟩
            · skip
              go_wp2
              go_meet
              exact ⟨by simp [inRange, p1, p2, q2, q2b, p3, p4], ⟨rfl⟩⟩
          · skip
            go_wp2
            go_meet
            exact ⟨by simp [inRange, p1, p2, q2, q2b, p3], ⟨rfl⟩⟩
      · skip
        go_wp2
        go_meet
        exact ⟨by simp [inRange, p1, p2], ⟨rfl⟩⟩
    · skip
      rcases p3 : Op.bytesLess (s.extract 0 3).toList [51, 50, 48] with _ | _
      · skip
        rcases p4 : Op.bytesLess (s.extract 0 3).toList [51, 51, 55] with _ | _
        · skip
          by_cases q4 : (s.extract 0 3).toList = [51, 51, 55]
          · have q4b : ((s.extract 0 3).toList == [51, 51, 55]) = true := beq_iff_eq.mpr q4
            replace q4 := eq_true q4
            go_wp2
            go_meet
            exact ⟨by simp [inRange, p1, p3, p4, q4, q4b], ⟨rfl⟩⟩
          · have q4b : ((s.extract 0 3).toList == [51, 51, 55]) = false := beq_eq_false_iff_ne.mpr q4
            replace q4 := eq_false q4
            go_wp2
            go_meet
            exact ⟨by simp [inRange, p1, p3, p4, q4, q4b], ⟨rfl⟩⟩
        · skip
          go_wp2
          go_meet
          exact ⟨by simp [inRange, p1, p3, p4], ⟨rfl⟩⟩
      · skip
        go_wp2
        go_meet
        exact ⟨by simp [inRange, p1, p3], ⟨rfl⟩⟩
  case rest =>
    obtain ⟨rfl, ⟨rfl⟩⟩ := hcut
    have c2 : ∀ o, wc.cell? ⟨w.heap.size, o, none⟩ = w'.cell? ⟨w.heap.size, o, none⟩ := fun o => (hb2.cell (p := ⟨w.heap.size, o, none⟩) (by simp; omega)).trans (by simp [go_sem, hz])
    have f2 : ∀ o, wc.frozen? ⟨w.heap.size, o, none⟩ = w'.frozen? ⟨w.heap.size, o, none⟩ := fun o => (hb2.frozen (p := ⟨w.heap.size, o, none⟩) (by simp; omega)).trans (by simp [go_sem, hz])
    have B2 : Below w.heap.size w wc := below_step ((below_step ((Below.refl w.heap.size w).alloc (Nat.le_refl _) _) HB.out).alloc (by omega) _) hb2
    have z2 : w.heap.size < wc.heap.size := by have := hb2.size; simp at this; omega
    rcases hA : (inRange (s.extract 0 3).toList && decide (bt s 3 ≤ 53)) with _ | _
    · rcases e1 : ((s.extract 0 3).toList == [51, 57, 48]) with _ | _
      · have e1' : ((s.extract 0 3).toList = [51, 57, 48]) = False := eq_false (by simpa using e1)
        rcases e2 : ((s.extract 0 3).toList == [51, 57, 50]) with _ | _
        · have e2' : ((s.extract 0 3).toList = [51, 57, 50]) = False := eq_false (by simpa using e2)
          go_wp2
          all_goals first | exact absurd ‹(inRange (s.extract 0 3).toList && decide (bt s 3 ≤ 53)) = true› (by rw [hA]; decide) | skip
          refine bodyPost_ret (v := numV 0 0 false false) (by simp [results, Tryd.results22, go_sem, hc, hf, hz, c2, f2, z2, numV]) rfl ⟨by simp, ?_⟩
          repeat (first | exact B2 | apply below_alloc | refine below_set ?_ (Nat.le_refl _))
        · have e2' : ((s.extract 0 3).toList = [51, 57, 50]) = True := eq_true (by simpa using e2)
          go_wp2
          all_goals first | exact absurd ‹(inRange (s.extract 0 3).toList && decide (bt s 3 ≤ 53)) = true› (by rw [hA]; decide) | skip
          refine bodyPost_ret (v := numV 0 15 true true) (by simp [results, Tryd.results22, go_sem, hc, hf, hz, c2, f2, z2, numV]) rfl ⟨by simp, ?_⟩
          repeat (first | exact B2 | apply below_alloc | refine below_set ?_ (Nat.le_refl _))
      · have e1' : ((s.extract 0 3).toList = [51, 57, 48]) = True := eq_true (by simpa using e1)
        go_wp2
        all_goals first | exact absurd ‹(inRange (s.extract 0 3).toList && decide (bt s 3 ≤ 53)) = true› (by rw [hA]; decide) | skip
        refine bodyPost_ret (v := numV 0 15 true true) (by simp [results, Tryd.results22, go_sem, hc, hf, hz, c2, f2, z2, numV]) rfl ⟨by simp, ?_⟩
        repeat (first | exact B2 | apply below_alloc | refine below_set ?_ (Nat.le_refl _))
    · go_wp2_with (first
        | (go_at_call 33; refine (gs1_number.calls 6 6 6 true false false _ rfl).mono ?_; rintro e w3 ⟨rfl, hb3⟩; have B3 := below_step B2 hb3; have c3 : ∀ o, w3.cell? ⟨w.heap.size, o, none⟩ = wc.cell? ⟨w.heap.size, o, none⟩ := fun o => (hb3.cell (p := ⟨w.heap.size, o, none⟩) z2); have f3 : ∀ o, w3.frozen? ⟨w.heap.size, o, none⟩ = wc.frozen? ⟨w.heap.size, o, none⟩ := fun o => (hb3.frozen (p := ⟨w.heap.size, o, none⟩) z2); have z3 : w.heap.size < w3.heap.size := by (have := hb3.size; omega)))
      all_goals first | exact absurd hA ‹¬(inRange (s.extract 0 3).toList && decide (bt s 3 ≤ 53)) = true› | skip
      refine bodyPost_ret (v := numV 6 6 true true) (by simp [results, Tryd.results22, go_sem, hc, hf, hz, c2, f2, z2, c3, f3, z3, numV]) rfl ⟨by simp, ?_⟩
      repeat (first | exact B3 | apply below_alloc | refine below_set ?_ (Nat.le_refl _))
set_option maxRecDepth 100000 in
set_option maxHeartbeats 8000000 in
theorem formOf_nodig (s : ByteArray) (w : World) (hT : Tabs w) (hs : s.size = 4) (hl : look items6 (bs s) = none) (hd : allDig s = false) :
    Calls Tryd.prog 22 #[.string s] w fun e w' => e = .returned (numV 0 0 false false) ∧ Below w.heap.size w w' := by
  have h1 := (items6_at (bs s)).1 (formD z0)
  have h2 := (items6_at (bs s)).2
  rw [hl] at h1 h2
  have HA := Lib.hid (show (putAll (.map []) items6).atKey (kl (bs s)) (formD z0) = formD z0 from h1)
  have HH := Lib.hid (show has (putAll (.map []) items6) (kl (bs s)) = false from h2)
  have HK := Lib.hid (keyOf_string_mk Tryd.underlying9 (s := s) (by unfold maxLen; omega))
  have HT := Lib.hid hT
  have HD := Lib.hid hd
  clear h1 h2 hl hT hd
  have l1 : ((s.size : Int) == 4) = true := beq_iff_eq.mpr (by omega)
  have l2 : ((s.size : Int) != 4) = false := bne_eq_false_iff_eq.mpr (by omega)
  have l3 : (s.size == 4) = true := beq_iff_eq.mpr hs
  have HS := Lib.hid hs
  clear hs
  go_enter Tryd.func22, Tryd.ntmps22
  go_wp2_with (first
    | (go_at_call 31; refine (forms_calls _ (HT.out.below (by first | exact Below.refl _ _ | exact (Below.refl _ _).alloc (Nat.le_refl _) _))).mono ?_; rintro e w' ⟨b, rfl, HO, HB⟩; obtain ⟨hc, hf⟩ := bcell HB.out; have hz : w.heap.size < w'.heap.size := by (have := HB.out.size; simp at this; omega))
    | (at_lookup; refine wpList_lookup_own_ok _ rfl _ _ 66 rfl 9 56 strLaw Tryd.underlying66 readForm (zeroForm _) (formD z0) [] rfl _ 42 _ rfl HO.out _ (kl (bs s)) rfl HK.out ?_; intro v ps hv; rw [HA.out] at hv; obtain rfl : v = .agg #[.int .i64 0, .int .i64 0, .bool false, .bool false, .bool false] := readForm_inv hv; clear hv; rw [HH.out])
    | (go_at_call 32; refine (trim_calls s _ (by rw [HS.out]; omega)).mono ?_; rintro e w2 ⟨t, rfl, ht, hb2⟩; rw [HD.out] at ht; have ht2 : t.toList ≠ [] := List.isEmpty_eq_false_iff.1 ht; have c2 : ∀ o, w2.cell? ⟨w.heap.size, o, none⟩ = w'.cell? ⟨w.heap.size, o, none⟩ := fun o => (hb2.cell (p := ⟨w.heap.size, o, none⟩) (by simp; omega)).trans (by simp [go_sem, hz]); have f2 : ∀ o, w2.frozen? ⟨w.heap.size, o, none⟩ = w'.frozen? ⟨w.heap.size, o, none⟩ := fun o => (hb2.frozen (p := ⟨w.heap.size, o, none⟩) (by simp; omega)).trans (by simp [go_sem, hz]); have B2 : Below w.heap.size w w2 := below_step ((below_step ((Below.refl w.heap.size w).alloc (Nat.le_refl _) _) HB.out).alloc (by omega) _) hb2; have z2 : w.heap.size < w2.heap.size := by (have := hb2.size; simp at this; omega)))
  refine bodyPost_ret (v := numV 0 0 false false) (by simp [results, Tryd.results22, go_sem, hc, hf, hz, c2, f2, z2, numV]) rfl ⟨rfl, ?_⟩
  repeat (first | exact B2 | apply below_alloc | refine below_set ?_ (Nat.le_refl _))
set_option maxRecDepth 100000 in
set_option maxHeartbeats 8000000 in
theorem formOf_short (s : ByteArray) (w : World) (hT : Tabs w) (hs : s.size ≠ 4) (hm : s.size < 4294967281) (hl : look items6 (bs s) = none) :
    Calls Tryd.prog 22 #[.string s] w fun e w' => e = .returned (numV 0 0 false false) ∧ Below w.heap.size w w' := by
  have h1 := (items6_at (bs s)).1 (formD z0)
  have h2 := (items6_at (bs s)).2
  rw [hl] at h1 h2
  have HA := Lib.hid (show (putAll (.map []) items6).atKey (kl (bs s)) (formD z0) = formD z0 from h1)
  have HH := Lib.hid (show has (putAll (.map []) items6) (kl (bs s)) = false from h2)
  have HK := Lib.hid (keyOf_string_mk Tryd.underlying9 (s := s) (by unfold maxLen; omega))
  have HT := Lib.hid hT
  clear h1 h2 hl hT
  have l1 : ((s.size : Int) == 4) = false := beq_eq_false_iff_ne.mpr (by omega)
  have l2 : ((s.size : Int) != 4) = true := bne_iff_ne.mpr (by omega)
  have l3 : (s.size == 4) = false := beq_eq_false_iff_ne.mpr hs
  clear hs hm
  go_enter Tryd.func22, Tryd.ntmps22
  go_wp2_with (first
    | (go_at_call 31; refine (forms_calls _ (HT.out.below (by first | exact Below.refl _ _ | exact (Below.refl _ _).alloc (Nat.le_refl _) _))).mono ?_; rintro e w' ⟨b, rfl, HO, HB⟩; obtain ⟨hc, hf⟩ := bcell HB.out; have hz : w.heap.size < w'.heap.size := by (have := HB.out.size; simp at this; omega))
    | (at_lookup; refine wpList_lookup_own_ok _ rfl _ _ 66 rfl 9 56 strLaw Tryd.underlying66 readForm (zeroForm _) (formD z0) [] rfl _ 42 _ rfl HO.out _ (kl (bs s)) rfl HK.out ?_; intro v ps hv; rw [HA.out] at hv; obtain rfl : v = .agg #[.int .i64 0, .int .i64 0, .bool false, .bool false, .bool false] := readForm_inv hv; clear hv; rw [HH.out]))
  have B0 : Below w.heap.size w w' := below_step ((Below.refl w.heap.size w).alloc (Nat.le_refl _) _) HB.out
  refine bodyPost_ret (v := numV 0 0 false false) (by simp [results, Tryd.results22, go_sem, hc, hf, hz, numV]) rfl ⟨rfl, ?_⟩
  repeat (first | exact B0 | apply below_alloc | refine below_set ?_ (Nat.le_refl _))
theorem bt3 (s : ByteArray) (h4 : s.size = 4) : bt s 3 ≤ 53 ↔ ((bs s).getD 3 0).toNat ≤ 53 := by
  have hl : 3 < (bs s).length := by rw [bs_len]; omega
  have hb := bt_nat s 3 hl
  have hg : (bs s).getD 3 0 = (bs s)[3]'hl := by rw [List.getD_eq_getElem?_getD, List.getElem?_eq_getElem hl]; rfl
  rw [hg]
  rw [show ((3 : Nat) : Int) = 3 from rfl] at hb
  rw [hb]
  omega
/-- gs1.formOf: what it answers. -/
theorem gs1_formOf.calls (a0 : ByteArray) (r1 r2 : Int) (r3 r4 r5 r6 : Bool) (w : World) (hT : Tabs w) (h : gs1_formOf.f a0 = some (r1, r2, r3, r4, r5, r6)) :
    Calls Tryd.prog 22 #[.string a0] w fun e w' => e = .returned (.tuple #[.agg #[.int .i64 r1, .int .i64 r2, .bool r3, .bool r4, .bool r5], .bool r6]) ∧ Below w.heap.size w w' := by
  unfold gs1_formOf.f at h
  split at h
  · rename_i hs
    have h := Option.some.inj h
    unfold formOfS at h
    split at h
    · rename_i f hl
      obtain ⟨f0, f1, f2, f3, f4⟩ := f
      simp only [okForm, Prod.mk.injEq] at h
      obtain ⟨rfl, rfl, rfl, rfl, rfl, rfl⟩ := h
      exact formOf_named a0 _ _ _ _ _ w hT hs hl
    · rename_i hl
      unfold restForm at h
      rw [bs_len] at h
      by_cases h4 : a0.size = 4
      · rw [if_pos h4] at h
        by_cases hd : allDig a0 = true
        · rw [if_pos (show (bs a0).all isDig = true from hd)] at h
          refine (formOf_num a0 w hT h4 hl hd).mono fun e w' ⟨he, hb⟩ => ⟨he.trans ?_, hb⟩
          have e1 : (a0.extract 0 3).toList = (bs a0).take 3 := by rw [Lib.toList_data]; exact (bs_extract a0 0 3).trans (by simp)
          have e2 : bt a0 3 ≤ 53 ↔ ((bs a0).getD 3 0).toNat ≤ 53 := bt3 a0 h4
          rw [e1]
          by_cases c1 : inRange ((bs a0).take 3) = true ∧ ((bs a0).getD 3 0).toNat ≤ 53
          · rw [if_pos c1] at h
            have : (inRange ((bs a0).take 3) && decide (bt a0 3 ≤ 53)) = true := by rw [c1.1, Bool.true_and]; exact decide_eq_true (e2.2 c1.2)
            rw [if_pos this]
            simp only [okForm, Prod.mk.injEq] at h
            obtain ⟨rfl, rfl, rfl, rfl, rfl, rfl⟩ := h
            rfl
          · rw [if_neg c1] at h
            have : ¬ (inRange ((bs a0).take 3) && decide (bt a0 3 ≤ 53)) = true := by
              intro hh
              rw [Bool.and_eq_true] at hh
              exact c1 ⟨hh.1, e2.1 (of_decide_eq_true hh.2)⟩
            rw [if_neg this]
            by_cases c2 : (bs a0).take 3 = [51, 57, 48] ∨ (bs a0).take 3 = [51, 57, 50]
            · rw [if_pos c2] at h
              rw [if_pos (by rw [Bool.or_eq_true, beq_iff_eq, beq_iff_eq]; exact c2)]
              simp only [okForm, Prod.mk.injEq] at h
              obtain ⟨rfl, rfl, rfl, rfl, rfl, rfl⟩ := h
              rfl
            · rw [if_neg c2] at h
              rw [if_neg (by rw [Bool.or_eq_true, beq_iff_eq, beq_iff_eq]; exact c2)]
              simp only [noForm, Prod.mk.injEq] at h
              obtain ⟨rfl, rfl, rfl, rfl, rfl, rfl⟩ := h
              rfl
        · rw [if_neg (show ¬ (bs a0).all isDig = true from hd)] at h
          simp only [noForm, Prod.mk.injEq] at h
          obtain ⟨rfl, rfl, rfl, rfl, rfl, rfl⟩ := h
          exact formOf_nodig a0 w hT h4 hl (by simpa using hd)
      · rw [if_neg h4] at h
        simp only [noForm, Prod.mk.injEq] at h
        obtain ⟨rfl, rfl, rfl, rfl, rfl, rfl⟩ := h
        exact formOf_short a0 w hT h4 hs hl
  · cases h
end Go.Proofs.YtghlbdemlmbijaaDoor.Q

namespace Go.Proofs.YtghlbdemlmbijaaDoor.Q
open Go.RowKit Go.Proofs.YtghlbdemlmbijaaDoorW.PrintWords Go.Proofs.YtghlbdemlmbijaaDoorW.PrintLast Go.Proofs.YtghlbdemlmbijaaDoorW.PrintMore

set_option linter.unusedVariables false
set_option linter.unusedSimpArgs false

/-! ### gs1_Fixed: function 14 -/
def gs1_Fixed.f (a0 : ByteArray) : Option (Int × Int × Int) := (gs1_formOf.f a0).bind fun bt202 => (if bt202.2.2.2.2.2 = true then (some (bt202.1, bt202.2.1, 0)) else (some (0, 0, 29)))
set_option maxHeartbeats 8000000 in
set_option maxRecDepth 100000 in
theorem gs1_Fixed.calls (a0 : ByteArray) (r1 : Int) (r2 : Int) (r3 : Int) (w : World) (hT : Tabs w) (h : gs1_Fixed.f a0 = some (r1, r2, r3)) :
    Calls Tryd.prog 14 #[.string a0] w fun e w' => e = .returned (.tuple #[.int .i64 r1, .int .i64 r2, .int .i64 r3]) ∧ Below w.heap.size w w' := by
  have hu56 := Tryd.underlying56
  have HT := Aside0.mk hT
  clear hT
  have HB := Aside0.mk (Below.refl w.heap.size w)
  have H : ((gs1_formOf.f a0).bind fun bt202 => (if bt202.2.2.2.2.2 = true then (some (bt202.1, bt202.2.1, 0)) else (some (0, 0, 29)))) = some (r1, r2, r3) := h
  clear h
  replace H := Option.bind_eq_some_iff.mp H
  obtain ⟨⟨t202, t203, t204, t205, t206, t207⟩, A20, H⟩ := H
  replace H : (if t207 = true then (some (t202, t203, 0)) else (some (0, 0, 29))) = some (r1, r2, r3) := H
  have A2 := Aside0.mk A20
  clear A20
  by_cases c3 : t207 = true
  · subst c3
    have H1 : (some (t202, t203, 0)) = some (r1, r2, r3) := by rw [if_pos rfl] at H; exact H
    clear H
    have H := H1
    clear H1
    simp only [Option.some.injEq, Prod.mk.injEq] at H
    obtain ⟨rfl, rfl, rfl⟩ := H
    go_enter Tryd.func14, Tryd.ntmps14
    go_wp2_with (first | (go_at_call 22; (with_reducible refine (gs1_formOf.calls a0 t202 t203 t204 t205 t206 true _ ?side1 A2.out).mono ?_); (case side1 => exact Tabs.below HT.out (by repeat (first | (with_reducible first | exact HB.out | apply below_alloc | apply pw_below_drewN | apply below_drew1) | exact HB.out))); rintro e w4 ⟨rfl, hb⟩; have n0_ := Aside0.mk (below_step (by repeat (first | (with_reducible first | exact HB.out | apply below_alloc | apply pw_below_drewN | apply below_drew1) | exact HB.out)) hb); clear HB; have HB := n0_; clear n0_; (try clear hb); (try clear hb2); (try clear hk); (try clear hi)) | ((with_reducible refine gate_dst (N := 5) rfl ?_); refine box_event ?hg (N := 5) ?hd (cs := #[.int .i64 0, .int .i64 0, .bool false, .bool false, .bool false]) (t := 56) ?hr ?_; (case hd => rfl); (case hg => rfl); (case hr => first | (go_simp; done) | (go_simp; rfl)); intro gb208 hg w5 hbox hb; have n0_ := Aside0.mk (below_step (by repeat (first | (with_reducible first | exact HB.out | apply below_alloc | apply pw_below_drewN | apply below_drew1) | exact HB.out)) hb); have n1_ := Aside0.mk (hbox); have n2_ := Aside0.mk ((by rw [hg]; exact (below_size (by repeat (first | (with_reducible first | exact HB.out | apply below_alloc | apply pw_below_drewN | apply below_drew1) | exact HB.out))) : w.heap.size ≤ gb208)); have n3_ := Aside0.mk ((by rw [hg]; exact (below_size (by repeat (first | (with_reducible first | exact HB.out | apply below_alloc | apply pw_below_drewN | apply below_drew1) | exact HB.out))) : w.heap.size ≤ gb208)); clear HB; have HB := n0_; have BK208 := n1_; have GW208 := n2_; have GE208 := n3_; clear n0_ n1_ n2_ n3_; clear hb hbox hg; have hcz6_0 : w5.cell? ⟨gb208, 0, none⟩ = some (.int .i64 0) := (blk_cell BK208.out 0).trans rfl; have hcz6_1 : w5.cell? ⟨gb208, 1, none⟩ = some (.int .i64 0) := (blk_cell BK208.out 1).trans rfl; have hcz6_2 : w5.cell? ⟨gb208, 2, none⟩ = some (.bool false) := (blk_cell BK208.out 2).trans rfl; have hcz6_3 : w5.cell? ⟨gb208, 3, none⟩ = some (.bool false) := (blk_cell BK208.out 3).trans rfl; have hcz6_4 : w5.cell? ⟨gb208, 4, none⟩ = some (.bool false) := (blk_cell BK208.out 4).trans rfl; have hfz6_0 := blk_frozen BK208.out 0; have hfz6_1 := blk_frozen BK208.out 1; have hfz6_2 := blk_frozen BK208.out 2; have hfz6_3 := blk_frozen BK208.out 3; have hfz6_4 := blk_frozen BK208.out 4))
    repeat (go_quiet (first | (go_at_call 22; (with_reducible refine (gs1_formOf.calls a0 t202 t203 t204 t205 t206 true _ ?side1 A2.out).mono ?_); (case side1 => exact Tabs.below HT.out (by repeat (first | (with_reducible first | exact HB.out | apply below_alloc | apply pw_below_drewN | apply below_drew1) | exact HB.out))); rintro e w4 ⟨rfl, hb⟩; have n0_ := Aside0.mk (below_step (by repeat (first | (with_reducible first | exact HB.out | apply below_alloc | apply pw_below_drewN | apply below_drew1) | exact HB.out)) hb); clear HB; have HB := n0_; clear n0_; (try clear hb); (try clear hb2); (try clear hk); (try clear hi)) | ((with_reducible refine gate_dst (N := 5) rfl ?_); refine box_event ?hg (N := 5) ?hd (cs := #[.int .i64 0, .int .i64 0, .bool false, .bool false, .bool false]) (t := 56) ?hr ?_; (case hd => rfl); (case hg => rfl); (case hr => first | (go_simp; done) | (go_simp; rfl)); intro gb208 hg w5 hbox hb; have n0_ := Aside0.mk (below_step (by repeat (first | (with_reducible first | exact HB.out | apply below_alloc | apply pw_below_drewN | apply below_drew1) | exact HB.out)) hb); have n1_ := Aside0.mk (hbox); have n2_ := Aside0.mk ((by rw [hg]; exact (below_size (by repeat (first | (with_reducible first | exact HB.out | apply below_alloc | apply pw_below_drewN | apply below_drew1) | exact HB.out))) : w.heap.size ≤ gb208)); have n3_ := Aside0.mk ((by rw [hg]; exact (below_size (by repeat (first | (with_reducible first | exact HB.out | apply below_alloc | apply pw_below_drewN | apply below_drew1) | exact HB.out))) : w.heap.size ≤ gb208)); clear HB; have HB := n0_; have BK208 := n1_; have GW208 := n2_; have GE208 := n3_; clear n0_ n1_ n2_ n3_; clear hb hbox hg; have hcz6_0 : w5.cell? ⟨gb208, 0, none⟩ = some (.int .i64 0) := (blk_cell BK208.out 0).trans rfl; have hcz6_1 : w5.cell? ⟨gb208, 1, none⟩ = some (.int .i64 0) := (blk_cell BK208.out 1).trans rfl; have hcz6_2 : w5.cell? ⟨gb208, 2, none⟩ = some (.bool false) := (blk_cell BK208.out 2).trans rfl; have hcz6_3 : w5.cell? ⟨gb208, 3, none⟩ = some (.bool false) := (blk_cell BK208.out 3).trans rfl; have hcz6_4 : w5.cell? ⟨gb208, 4, none⟩ = some (.bool false) := (blk_cell BK208.out 4).trans rfl; have hfz6_0 := blk_frozen BK208.out 0; have hfz6_1 := blk_frozen BK208.out 1; have hfz6_2 := blk_frozen BK208.out 2; have hfz6_3 := blk_frozen BK208.out 3; have hfz6_4 := blk_frozen BK208.out 4)); try go_wp2_with (first | (go_at_call 22; (with_reducible refine (gs1_formOf.calls a0 t202 t203 t204 t205 t206 true _ ?side1 A2.out).mono ?_); (case side1 => exact Tabs.below HT.out (by repeat (first | (with_reducible first | exact HB.out | apply below_alloc | apply pw_below_drewN | apply below_drew1) | exact HB.out))); rintro e w4 ⟨rfl, hb⟩; have n0_ := Aside0.mk (below_step (by repeat (first | (with_reducible first | exact HB.out | apply below_alloc | apply pw_below_drewN | apply below_drew1) | exact HB.out)) hb); clear HB; have HB := n0_; clear n0_; (try clear hb); (try clear hb2); (try clear hk); (try clear hi)) | ((with_reducible refine gate_dst (N := 5) rfl ?_); refine box_event ?hg (N := 5) ?hd (cs := #[.int .i64 0, .int .i64 0, .bool false, .bool false, .bool false]) (t := 56) ?hr ?_; (case hd => rfl); (case hg => rfl); (case hr => first | (go_simp; done) | (go_simp; rfl)); intro gb208 hg w5 hbox hb; have n0_ := Aside0.mk (below_step (by repeat (first | (with_reducible first | exact HB.out | apply below_alloc | apply pw_below_drewN | apply below_drew1) | exact HB.out)) hb); have n1_ := Aside0.mk (hbox); have n2_ := Aside0.mk ((by rw [hg]; exact (below_size (by repeat (first | (with_reducible first | exact HB.out | apply below_alloc | apply pw_below_drewN | apply below_drew1) | exact HB.out))) : w.heap.size ≤ gb208)); have n3_ := Aside0.mk ((by rw [hg]; exact (below_size (by repeat (first | (with_reducible first | exact HB.out | apply below_alloc | apply pw_below_drewN | apply below_drew1) | exact HB.out))) : w.heap.size ≤ gb208)); clear HB; have HB := n0_; have BK208 := n1_; have GW208 := n2_; have GE208 := n3_; clear n0_ n1_ n2_ n3_; clear hb hbox hg; have hcz6_0 : w5.cell? ⟨gb208, 0, none⟩ = some (.int .i64 0) := (blk_cell BK208.out 0).trans rfl; have hcz6_1 : w5.cell? ⟨gb208, 1, none⟩ = some (.int .i64 0) := (blk_cell BK208.out 1).trans rfl; have hcz6_2 : w5.cell? ⟨gb208, 2, none⟩ = some (.bool false) := (blk_cell BK208.out 2).trans rfl; have hcz6_3 : w5.cell? ⟨gb208, 3, none⟩ = some (.bool false) := (blk_cell BK208.out 3).trans rfl; have hcz6_4 : w5.cell? ⟨gb208, 4, none⟩ = some (.bool false) := (blk_cell BK208.out 4).trans rfl; have hfz6_0 := blk_frozen BK208.out 0; have hfz6_1 := blk_frozen BK208.out 1; have hfz6_2 := blk_frozen BK208.out 2; have hfz6_3 := blk_frozen BK208.out 3; have hfz6_4 := blk_frozen BK208.out 4)))
    go_ret3
    exact ⟨by first | rfl | (simp [errW_none, errW_some] <;> rfl) | (simp [*, errW_none, errW_some] <;> rfl), by repeat (first | (with_reducible first | exact HB.out | apply below_alloc | apply pw_below_drewN | apply below_drew1 | refine below_set ?_ GE208.out) | exact HB.out)⟩
  · replace c3 := Bool.eq_false_iff.mpr c3
    subst c3
    have H1 : (some (0, 0, 29)) = some (r1, r2, r3) := by rw [if_neg (show ¬ (false = true) by decide)] at H; exact H
    clear H
    have H := H1
    clear H1
    simp only [Option.some.injEq, Prod.mk.injEq] at H
    obtain ⟨rfl, rfl, rfl⟩ := H
    go_enter Tryd.func14, Tryd.ntmps14
    go_wp2_with (first | (go_at_call 22; (with_reducible refine (gs1_formOf.calls a0 t202 t203 t204 t205 t206 false _ ?side1 A2.out).mono ?_); (case side1 => exact Tabs.below HT.out (by repeat (first | (with_reducible first | exact HB.out | apply below_alloc | apply pw_below_drewN | apply below_drew1) | exact HB.out))); rintro e w7 ⟨rfl, hb⟩; have n0_ := Aside0.mk (below_step (by repeat (first | (with_reducible first | exact HB.out | apply below_alloc | apply pw_below_drewN | apply below_drew1) | exact HB.out)) hb); clear HB; have HB := n0_; clear n0_; (try clear hb); (try clear hb2); (try clear hk); (try clear hi)) | ((with_reducible refine gate_dst (N := 5) rfl ?_); refine box_event ?hg (N := 5) ?hd (cs := #[.int .i64 0, .int .i64 0, .bool false, .bool false, .bool false]) (t := 56) ?hr ?_; (case hd => rfl); (case hg => rfl); (case hr => first | (go_simp; done) | (go_simp; rfl)); intro gb208 hg w8 hbox hb; have n0_ := Aside0.mk (below_step (by repeat (first | (with_reducible first | exact HB.out | apply below_alloc | apply pw_below_drewN | apply below_drew1) | exact HB.out)) hb); have n1_ := Aside0.mk (hbox); have n2_ := Aside0.mk ((by rw [hg]; exact (below_size (by repeat (first | (with_reducible first | exact HB.out | apply below_alloc | apply pw_below_drewN | apply below_drew1) | exact HB.out))) : w.heap.size ≤ gb208)); have n3_ := Aside0.mk ((by rw [hg]; exact (below_size (by repeat (first | (with_reducible first | exact HB.out | apply below_alloc | apply pw_below_drewN | apply below_drew1) | exact HB.out))) : w.heap.size ≤ gb208)); clear HB; have HB := n0_; have BK208 := n1_; have GW208 := n2_; have GE208 := n3_; clear n0_ n1_ n2_ n3_; clear hb hbox hg; have hcz9_0 : w8.cell? ⟨gb208, 0, none⟩ = some (.int .i64 0) := (blk_cell BK208.out 0).trans rfl; have hcz9_1 : w8.cell? ⟨gb208, 1, none⟩ = some (.int .i64 0) := (blk_cell BK208.out 1).trans rfl; have hcz9_2 : w8.cell? ⟨gb208, 2, none⟩ = some (.bool false) := (blk_cell BK208.out 2).trans rfl; have hcz9_3 : w8.cell? ⟨gb208, 3, none⟩ = some (.bool false) := (blk_cell BK208.out 3).trans rfl; have hcz9_4 : w8.cell? ⟨gb208, 4, none⟩ = some (.bool false) := (blk_cell BK208.out 4).trans rfl; have hfz9_0 := blk_frozen BK208.out 0; have hfz9_1 := blk_frozen BK208.out 1; have hfz9_2 := blk_frozen BK208.out 2; have hfz9_3 := blk_frozen BK208.out 3; have hfz9_4 := blk_frozen BK208.out 4))
    repeat (go_quiet (first | (go_at_call 22; (with_reducible refine (gs1_formOf.calls a0 t202 t203 t204 t205 t206 false _ ?side1 A2.out).mono ?_); (case side1 => exact Tabs.below HT.out (by repeat (first | (with_reducible first | exact HB.out | apply below_alloc | apply pw_below_drewN | apply below_drew1) | exact HB.out))); rintro e w7 ⟨rfl, hb⟩; have n0_ := Aside0.mk (below_step (by repeat (first | (with_reducible first | exact HB.out | apply below_alloc | apply pw_below_drewN | apply below_drew1) | exact HB.out)) hb); clear HB; have HB := n0_; clear n0_; (try clear hb); (try clear hb2); (try clear hk); (try clear hi)) | ((with_reducible refine gate_dst (N := 5) rfl ?_); refine box_event ?hg (N := 5) ?hd (cs := #[.int .i64 0, .int .i64 0, .bool false, .bool false, .bool false]) (t := 56) ?hr ?_; (case hd => rfl); (case hg => rfl); (case hr => first | (go_simp; done) | (go_simp; rfl)); intro gb208 hg w8 hbox hb; have n0_ := Aside0.mk (below_step (by repeat (first | (with_reducible first | exact HB.out | apply below_alloc | apply pw_below_drewN | apply below_drew1) | exact HB.out)) hb); have n1_ := Aside0.mk (hbox); have n2_ := Aside0.mk ((by rw [hg]; exact (below_size (by repeat (first | (with_reducible first | exact HB.out | apply below_alloc | apply pw_below_drewN | apply below_drew1) | exact HB.out))) : w.heap.size ≤ gb208)); have n3_ := Aside0.mk ((by rw [hg]; exact (below_size (by repeat (first | (with_reducible first | exact HB.out | apply below_alloc | apply pw_below_drewN | apply below_drew1) | exact HB.out))) : w.heap.size ≤ gb208)); clear HB; have HB := n0_; have BK208 := n1_; have GW208 := n2_; have GE208 := n3_; clear n0_ n1_ n2_ n3_; clear hb hbox hg; have hcz9_0 : w8.cell? ⟨gb208, 0, none⟩ = some (.int .i64 0) := (blk_cell BK208.out 0).trans rfl; have hcz9_1 : w8.cell? ⟨gb208, 1, none⟩ = some (.int .i64 0) := (blk_cell BK208.out 1).trans rfl; have hcz9_2 : w8.cell? ⟨gb208, 2, none⟩ = some (.bool false) := (blk_cell BK208.out 2).trans rfl; have hcz9_3 : w8.cell? ⟨gb208, 3, none⟩ = some (.bool false) := (blk_cell BK208.out 3).trans rfl; have hcz9_4 : w8.cell? ⟨gb208, 4, none⟩ = some (.bool false) := (blk_cell BK208.out 4).trans rfl; have hfz9_0 := blk_frozen BK208.out 0; have hfz9_1 := blk_frozen BK208.out 1; have hfz9_2 := blk_frozen BK208.out 2; have hfz9_3 := blk_frozen BK208.out 3; have hfz9_4 := blk_frozen BK208.out 4)); try go_wp2_with (first | (go_at_call 22; (with_reducible refine (gs1_formOf.calls a0 t202 t203 t204 t205 t206 false _ ?side1 A2.out).mono ?_); (case side1 => exact Tabs.below HT.out (by repeat (first | (with_reducible first | exact HB.out | apply below_alloc | apply pw_below_drewN | apply below_drew1) | exact HB.out))); rintro e w7 ⟨rfl, hb⟩; have n0_ := Aside0.mk (below_step (by repeat (first | (with_reducible first | exact HB.out | apply below_alloc | apply pw_below_drewN | apply below_drew1) | exact HB.out)) hb); clear HB; have HB := n0_; clear n0_; (try clear hb); (try clear hb2); (try clear hk); (try clear hi)) | ((with_reducible refine gate_dst (N := 5) rfl ?_); refine box_event ?hg (N := 5) ?hd (cs := #[.int .i64 0, .int .i64 0, .bool false, .bool false, .bool false]) (t := 56) ?hr ?_; (case hd => rfl); (case hg => rfl); (case hr => first | (go_simp; done) | (go_simp; rfl)); intro gb208 hg w8 hbox hb; have n0_ := Aside0.mk (below_step (by repeat (first | (with_reducible first | exact HB.out | apply below_alloc | apply pw_below_drewN | apply below_drew1) | exact HB.out)) hb); have n1_ := Aside0.mk (hbox); have n2_ := Aside0.mk ((by rw [hg]; exact (below_size (by repeat (first | (with_reducible first | exact HB.out | apply below_alloc | apply pw_below_drewN | apply below_drew1) | exact HB.out))) : w.heap.size ≤ gb208)); have n3_ := Aside0.mk ((by rw [hg]; exact (below_size (by repeat (first | (with_reducible first | exact HB.out | apply below_alloc | apply pw_below_drewN | apply below_drew1) | exact HB.out))) : w.heap.size ≤ gb208)); clear HB; have HB := n0_; have BK208 := n1_; have GW208 := n2_; have GE208 := n3_; clear n0_ n1_ n2_ n3_; clear hb hbox hg; have hcz9_0 : w8.cell? ⟨gb208, 0, none⟩ = some (.int .i64 0) := (blk_cell BK208.out 0).trans rfl; have hcz9_1 : w8.cell? ⟨gb208, 1, none⟩ = some (.int .i64 0) := (blk_cell BK208.out 1).trans rfl; have hcz9_2 : w8.cell? ⟨gb208, 2, none⟩ = some (.bool false) := (blk_cell BK208.out 2).trans rfl; have hcz9_3 : w8.cell? ⟨gb208, 3, none⟩ = some (.bool false) := (blk_cell BK208.out 3).trans rfl; have hcz9_4 : w8.cell? ⟨gb208, 4, none⟩ = some (.bool false) := (blk_cell BK208.out 4).trans rfl; have hfz9_0 := blk_frozen BK208.out 0; have hfz9_1 := blk_frozen BK208.out 1; have hfz9_2 := blk_frozen BK208.out 2; have hfz9_3 := blk_frozen BK208.out 3; have hfz9_4 := blk_frozen BK208.out 4)))
    go_ret3
    exact ⟨by first | rfl | (simp [errW_none, errW_some] <;> rfl) | (simp [*, errW_none, errW_some] <;> rfl), by repeat (first | (with_reducible first | exact HB.out | apply below_alloc | apply pw_below_drewN | apply below_drew1 | refine below_set ?_ GE208.out) | exact HB.out)⟩

end Go.Proofs.YtghlbdemlmbijaaDoor.Q

/- What both tables answer, and that they agree. -/

namespace Go.Proofs.YtghlbdemlmbijaaDoor.Q
open Go.RowKit Go.Proofs.YtghlbdemlmbijaaDoorW.PrintWords Go.Proofs.YtghlbdemlmbijaaDoorW.PrintLast Go.Proofs.YtghlbdemlmbijaaDoorW.PrintMore
set_option linter.unusedVariables false
set_option linter.unusedSimpArgs false
/-! ### From some number of rounds on -/
def Ev {α : Type} (F : Nat → Option α) (r : α) : Prop := ∃ K, ∀ k, K ≤ k → F k = some r
section
variable {α β : Type} {F G : Nat → Option α} {r : α} {a : β} {c : Prop} [Decidable c]
theorem Ev.const {o : Option α} (h : o = some r) : Ev (fun _ => o) r := ⟨0, fun _ _ => h⟩
theorem Ev.bind {F : Nat → Option β} {G : β → Nat → Option α} (h : Ev F a) (g : Ev (G a) r) : Ev (fun k => (F k).bind fun x => G x k) r := by
  obtain ⟨K1, h1⟩ := h
  obtain ⟨K2, h2⟩ := g
  refine ⟨max K1 K2, fun k hk => ?_⟩
  show (F k).bind (fun x => G x k) = some r
  rw [h1 k (by omega)]
  exact h2 k (by omega)
theorem Ev.succ (h : Ev (fun k => F (k + 1)) r) : Ev F r := by
  obtain ⟨K, h⟩ := h
  refine ⟨K + 1, fun k hk => ?_⟩
  obtain ⟨j, rfl⟩ : ∃ j, k = j + 1 := ⟨k - 1, by omega⟩
  exact h j (by omega)
theorem Ev.pos (hc : c) (h : Ev F r) : Ev (fun k => if c then F k else G k) r := by
  simpa [hc] using h
theorem Ev.neg (hc : ¬ c) (h : Ev G r) : Ev (fun k => if c then F k else G k) r := by
  simpa [hc] using h
theorem Ev.congr (h : Ev F r) (e : ∀ k, G k = F k) : Ev G r := by
  obtain ⟨K, h⟩ := h
  exact ⟨K, fun k hk => (e k).trans (h k hk)⟩
theorem Ev.of (K : Nat) (h : ∀ k, K ≤ k → F k = some r) : Ev F r := ⟨K, h⟩
theorem Ev.get (h : Ev F r) : ∃ k, F k = some r := by
  obtain ⟨K, h⟩ := h
  exact ⟨K, h K (Nat.le_refl _)⟩
end
/-! ### Digits -/
/-! ### The reference's table -/
def tableR (l : List UInt8) : Int × Int :=
  if l.all isDig = true then
    if l.length = 2 ∧ (!(Op.bytesLess l [57, 48] || l == [57, 48])) = true then (5, 90)
    else if l.length = 3 ∧ (!(Op.bytesLess l [52, 49, 48]) && (Op.bytesLess l [52, 49, 55] || l == [52, 49, 55])) = true then (2, 13)
    else if l.length = 4 ∧ (l.take 3 = [51, 57, 48] ∨ l.take 3 = [51, 57, 50]) then (4, 15)
    else if l.length = 4 ∧ (l.getD 3 0).toNat ≤ 53 ∧ inRange (l.take 3) = true then (1, 6)
    else (0, 0)
  else (0, 0)
def tableS (l : List UInt8) : Int × Int :=
  if l = [48, 48] then (2, 18)
  else if l = [48, 49] then (2, 14) else if l = [48, 50] then (2, 14)
  else if l = [49, 49] then (3, 6) else if l = [49, 50] then (3, 6) else if l = [49, 51] then (3, 6) else if l = [49, 53] then (3, 6) else if l = [49, 54] then (3, 6) else if l = [49, 55] then (3, 6)
  else if l = [50, 48] then (1, 2)
  else if l = [51, 48] then (4, 8) else if l = [51, 55] then (4, 8)
  else if l = [49, 48] then (5, 20) else if l = [50, 49] then (5, 20) else if l = [50, 50] then (5, 20) else if l = [50, 53, 52] then (5, 20)
  else if l = [56, 48, 50, 48] then (5, 25)
  else if l = [50, 52, 48] then (5, 30) else if l = [50, 52, 49] then (5, 30) else if l = [50, 53, 48] then (5, 30) else if l = [50, 53, 49] then (5, 30)
  else if l = [52, 48, 48] then (5, 30) else if l = [52, 48, 49] then (5, 30) else if l = [52, 48, 51] then (5, 30) else if l = [57, 48] then (5, 30)
  else tableR l
theorem take3 (s : ByteArray) : (s.extract 0 3).toList = (bs s).take 3 := by rw [Lib.toList_data]; exact (bs_extract s 0 3).trans (by simp)
/-! ### The program's own table says the same -/
def conv (t : Int × Int) : Int × Int × Bool × Bool × Bool × Bool :=
  if t.1 = 1 then (t.2, t.2, true, false, false, true)
  else if t.1 = 2 then (t.2, t.2, true, true, false, true)
  else if t.1 = 3 then (t.2, t.2, true, false, true, true)
  else if t.1 = 4 then (0, t.2, true, false, false, true)
  else if t.1 = 5 then (0, t.2, false, false, false, true)
  else (0, 0, false, false, false, false)
set_option maxRecDepth 100000 in
theorem named_conv : ∀ p ∈ items6, okForm p.2 = conv (tableS p.1) := by decide +kernel
theorem look_some {m : List (List UInt8 × Form)} {k : List UInt8} {f : Form} (h : look m k = some f) : (k, f) ∈ m := by
  unfold look at h
  obtain ⟨p, hp, rfl⟩ := Option.map_eq_some_iff.1 h
  have h1 := List.find?_some hp
  have h2 := List.mem_of_find?_eq_some hp
  have h3 : p.1 = k := beq_iff_eq.1 h1
  rw [← h3]
  exact h2
theorem look_none {m : List (List UInt8 × Form)} {k : List UInt8} (h : look m k = none) : ∀ p ∈ m, p.1 ≠ k := by
  unfold look at h
  have h1 := Option.map_eq_none_iff.1 h
  rw [List.find?_eq_none] at h1
  exact fun p hp he => h1 p hp (beq_iff_eq.2 he)
theorem dig_of {c : UInt8} (h : isDig c = true) : ∃ n : Fin 10, c = UInt8.ofNat (48 + n.val) := by
  have h2 : 48 ≤ c.toNat ∧ c.toNat ≤ 57 := by unfold isDig at h; simpa using h
  refine ⟨⟨c.toNat - 48, by omega⟩, ?_⟩
  show c = UInt8.ofNat (48 + (c.toNat - 48))
  rw [show 48 + (c.toNat - 48) = c.toNat by omega, UInt8.ofNat_toNat]
def namedAI (l : List UInt8) : Bool := items6.any fun p => p.1 == l
theorem namedAI_of {l : List UInt8} (h : namedAI l = true) : ∃ p ∈ items6, p.1 = l := by
  unfold namedAI at h
  obtain ⟨p, hp, he⟩ := List.any_eq_true.1 h
  exact ⟨p, hp, beq_iff_eq.1 he⟩
set_option maxRecDepth 100000 in
theorem two_all : ∀ n m : Fin 10, (Op.bytesLess [UInt8.ofNat (48 + n.val), UInt8.ofNat (48 + m.val)] [57, 48] || [UInt8.ofNat (48 + n.val), UInt8.ofNat (48 + m.val)] == [57, 48]) || namedAI [UInt8.ofNat (48 + n.val), UInt8.ofNat (48 + m.val)] = true := by decide +kernel
set_option maxRecDepth 100000 in
theorem three_all : ∀ n m o : Fin 10, (!(!(Op.bytesLess [UInt8.ofNat (48 + n.val), UInt8.ofNat (48 + m.val), UInt8.ofNat (48 + o.val)] [52, 49, 48]) && (Op.bytesLess [UInt8.ofNat (48 + n.val), UInt8.ofNat (48 + m.val), UInt8.ofNat (48 + o.val)] [52, 49, 55] || [UInt8.ofNat (48 + n.val), UInt8.ofNat (48 + m.val), UInt8.ofNat (48 + o.val)] == [52, 49, 55]))) || namedAI [UInt8.ofNat (48 + n.val), UInt8.ofNat (48 + m.val), UInt8.ofNat (48 + o.val)] = true := by decide +kernel
theorem two_dig {l : List UInt8} (hl : l.length = 2) (hd : l.all isDig = true) (h : (!(Op.bytesLess l [57, 48] || l == [57, 48])) = true) : ∃ p ∈ items6, p.1 = l := by
  match l, hl with
  | [a, b], _ =>
    simp only [List.all_cons, List.all_nil, Bool.and_true, Bool.and_eq_true] at hd
    obtain ⟨n, rfl⟩ := dig_of hd.1
    obtain ⟨m, rfl⟩ := dig_of hd.2
    have := two_all n m
    refine namedAI_of ?_
    rcases hx : (Op.bytesLess [UInt8.ofNat (48 + n.val), UInt8.ofNat (48 + m.val)] [57, 48] || [UInt8.ofNat (48 + n.val), UInt8.ofNat (48 + m.val)] == [57, 48]) with _ | _
    · rw [hx] at this; simpa using this
    · rw [hx] at h; cases h
theorem three_dig {l : List UInt8} (hl : l.length = 3) (hd : l.all isDig = true) (h : (!(Op.bytesLess l [52, 49, 48]) && (Op.bytesLess l [52, 49, 55] || l == [52, 49, 55])) = true) : ∃ p ∈ items6, p.1 = l := by
  match l, hl with
  | [a, b, c], _ =>
    simp only [List.all_cons, List.all_nil, Bool.and_true, Bool.and_eq_true] at hd
    obtain ⟨n, rfl⟩ := dig_of hd.1
    obtain ⟨m, rfl⟩ := dig_of hd.2.1
    obtain ⟨o, rfl⟩ := dig_of hd.2.2
    have := three_all n m o
    rw [h] at this
    exact namedAI_of (by simpa using this)
set_option maxRecDepth 100000 in
theorem tableS_other {l : List UInt8} (h : ∀ p ∈ items6, p.1 ≠ l) : tableS l = tableR l := by
  unfold tableS
  rw [if_neg (fun e => absurd (namedAI_of (l := l) (by rw [e]; decide +kernel)) (fun ⟨p, hp, he⟩ => h p hp he))]
  rw [if_neg (fun e => absurd (namedAI_of (l := l) (by rw [e]; decide +kernel)) (fun ⟨p, hp, he⟩ => h p hp he))]
  rw [if_neg (fun e => absurd (namedAI_of (l := l) (by rw [e]; decide +kernel)) (fun ⟨p, hp, he⟩ => h p hp he))]
  rw [if_neg (fun e => absurd (namedAI_of (l := l) (by rw [e]; decide +kernel)) (fun ⟨p, hp, he⟩ => h p hp he))]
  rw [if_neg (fun e => absurd (namedAI_of (l := l) (by rw [e]; decide +kernel)) (fun ⟨p, hp, he⟩ => h p hp he))]
  rw [if_neg (fun e => absurd (namedAI_of (l := l) (by rw [e]; decide +kernel)) (fun ⟨p, hp, he⟩ => h p hp he))]
  rw [if_neg (fun e => absurd (namedAI_of (l := l) (by rw [e]; decide +kernel)) (fun ⟨p, hp, he⟩ => h p hp he))]
  rw [if_neg (fun e => absurd (namedAI_of (l := l) (by rw [e]; decide +kernel)) (fun ⟨p, hp, he⟩ => h p hp he))]
  rw [if_neg (fun e => absurd (namedAI_of (l := l) (by rw [e]; decide +kernel)) (fun ⟨p, hp, he⟩ => h p hp he))]
  rw [if_neg (fun e => absurd (namedAI_of (l := l) (by rw [e]; decide +kernel)) (fun ⟨p, hp, he⟩ => h p hp he))]
  rw [if_neg (fun e => absurd (namedAI_of (l := l) (by rw [e]; decide +kernel)) (fun ⟨p, hp, he⟩ => h p hp he))]
  rw [if_neg (fun e => absurd (namedAI_of (l := l) (by rw [e]; decide +kernel)) (fun ⟨p, hp, he⟩ => h p hp he))]
  rw [if_neg (fun e => absurd (namedAI_of (l := l) (by rw [e]; decide +kernel)) (fun ⟨p, hp, he⟩ => h p hp he))]
  rw [if_neg (fun e => absurd (namedAI_of (l := l) (by rw [e]; decide +kernel)) (fun ⟨p, hp, he⟩ => h p hp he))]
  rw [if_neg (fun e => absurd (namedAI_of (l := l) (by rw [e]; decide +kernel)) (fun ⟨p, hp, he⟩ => h p hp he))]
  rw [if_neg (fun e => absurd (namedAI_of (l := l) (by rw [e]; decide +kernel)) (fun ⟨p, hp, he⟩ => h p hp he))]
  rw [if_neg (fun e => absurd (namedAI_of (l := l) (by rw [e]; decide +kernel)) (fun ⟨p, hp, he⟩ => h p hp he))]
  rw [if_neg (fun e => absurd (namedAI_of (l := l) (by rw [e]; decide +kernel)) (fun ⟨p, hp, he⟩ => h p hp he))]
  rw [if_neg (fun e => absurd (namedAI_of (l := l) (by rw [e]; decide +kernel)) (fun ⟨p, hp, he⟩ => h p hp he))]
  rw [if_neg (fun e => absurd (namedAI_of (l := l) (by rw [e]; decide +kernel)) (fun ⟨p, hp, he⟩ => h p hp he))]
  rw [if_neg (fun e => absurd (namedAI_of (l := l) (by rw [e]; decide +kernel)) (fun ⟨p, hp, he⟩ => h p hp he))]
  rw [if_neg (fun e => absurd (namedAI_of (l := l) (by rw [e]; decide +kernel)) (fun ⟨p, hp, he⟩ => h p hp he))]
  rw [if_neg (fun e => absurd (namedAI_of (l := l) (by rw [e]; decide +kernel)) (fun ⟨p, hp, he⟩ => h p hp he))]
  rw [if_neg (fun e => absurd (namedAI_of (l := l) (by rw [e]; decide +kernel)) (fun ⟨p, hp, he⟩ => h p hp he))]
  rw [if_neg (fun e => absurd (namedAI_of (l := l) (by rw [e]; decide +kernel)) (fun ⟨p, hp, he⟩ => h p hp he))]
theorem inRange_not {l : List UInt8} (h : l = [51, 57, 48] ∨ l = [51, 57, 50]) : inRange l = false := by
  rcases h with rfl | rfl <;> decide +kernel
/-- The program's table is the reference's, in other words. -/
theorem formOfS_table (l : List UInt8) : formOfS l = conv (tableS l) := by
  unfold formOfS
  split
  · rename_i f hl
    exact named_conv (l, f) (look_some hl)
  · rename_i hl
    have hn := look_none hl
    rw [tableS_other hn]
    unfold restForm tableR
    by_cases hd : l.all isDig = true
    · rw [if_pos hd]
      have n2 : ¬ (l.length = 2 ∧ (!(Op.bytesLess l [57, 48] || l == [57, 48])) = true) := fun h => by
        obtain ⟨p, hp, he⟩ := two_dig h.1 hd h.2
        exact hn p hp he
      have n3 : ¬ (l.length = 3 ∧ (!(Op.bytesLess l [52, 49, 48]) && (Op.bytesLess l [52, 49, 55] || l == [52, 49, 55])) = true) := fun h => by
        obtain ⟨p, hp, he⟩ := three_dig h.1 hd h.2
        exact hn p hp he
      rw [if_neg n2, if_neg n3]
      by_cases h4 : l.length = 4
      · rw [if_pos h4, if_pos hd]
        by_cases c1 : l.take 3 = [51, 57, 48] ∨ l.take 3 = [51, 57, 50]
        · rw [if_neg (show ¬ (inRange (l.take 3) = true ∧ (l.getD 3 0).toNat ≤ 53) from fun h => by have := h.1; rw [inRange_not c1] at this; cases this), if_pos c1, if_pos (show l.length = 4 ∧ (l.take 3 = [51, 57, 48] ∨ l.take 3 = [51, 57, 50]) from ⟨h4, c1⟩)]
          rfl
        · rw [if_neg (show ¬ (l.length = 4 ∧ _) from fun h => c1 h.2)]
          by_cases c2 : (l.getD 3 0).toNat ≤ 53 ∧ inRange (l.take 3) = true
          · rw [if_pos (show inRange (l.take 3) = true ∧ (l.getD 3 0).toNat ≤ 53 from ⟨c2.2, c2.1⟩), if_pos (show l.length = 4 ∧ _ from ⟨h4, c2⟩)]
            rfl
          · rw [if_neg (show ¬ (inRange (l.take 3) = true ∧ (l.getD 3 0).toNat ≤ 53) from fun h => c2 ⟨h.2, h.1⟩), if_neg c1, if_neg (show ¬ (l.length = 4 ∧ _) from fun h => c2 h.2)]
            rfl
      · simp only [h4, hd, false_and, if_false, if_true]
        rfl
    · rw [if_neg hd]
      split <;> rfl
theorem ite_mem {α : Type} {c : Prop} [Decidable c] {x y : α} {L : List α} (hx : x ∈ L) (hy : y ∈ L) : (if c then x else y) ∈ L := by split <;> assumption
theorem tableS_form (l : List UInt8) : tableS l ∈ [(2, 18), (2, 14), (3, 6), (1, 2), (4, 8), (5, 20), (5, 25), (5, 30), (5, 90), (2, 13), (4, 15), (1, 6), ((0 : Int), (0 : Int))] := by
  unfold tableS tableR
  repeat' (with_reducible refine ite_mem ?_ ?_)
  all_goals simp
def fixedS (l : List UInt8) : Int × Int × Int := if (tableS l).1 = 0 then (0, 0, 29) else if (tableS l).1 = 4 ∨ (tableS l).1 = 5 then (0, (tableS l).2, 0) else ((tableS l).2, (tableS l).2, 0)
theorem form_at (a : ByteArray) (hs : a.size < 4294967281) : gs1_formOf.f a = some (conv (tableS (bs a))) := by
  unfold gs1_formOf.f
  rw [if_pos hs, formOfS_table]
theorem fixed_at (a : ByteArray) (hs : a.size < 4294967281) : gs1_Fixed.f a = some (fixedS (bs a)) := by
  unfold gs1_Fixed.f fixedS
  rw [form_at a hs, Option.bind_some]
  have h := tableS_form (bs a)
  simp only [List.mem_cons, List.not_mem_nil, or_false] at h
  rcases h with h | h | h | h | h | h | h | h | h | h | h | h | h <;> rw [h] <;> rfl
end Go.Proofs.YtghlbdemlmbijaaDoor.Q

namespace Go.Proofs.YtghlbdemlmbijaaDoor.Q
open Go.RowKit Go.Proofs.YtghlbdemlmbijaaDoorW.PrintWords Go.Proofs.YtghlbdemlmbijaaDoorW.PrintLast Go.Proofs.YtghlbdemlmbijaaDoorW.PrintMore

set_option linter.unusedVariables false
set_option linter.unusedSimpArgs false

/-! ### gs1_within: function 36 -/
def gs1_within.l0 : Nat → ByteArray → ByteArray → Int → Int → Option (Bool)
  | 0, _, _, _, _ => none
  | k + 1, x0, x1, x7, x8 => if x8 < x7 then (if 0 ≤ x8 then (if x8 < (x0.size : Int) then ((strings_IndexByte.f x1 (bt x0 x8)).bind fun t104 => (if t104 < 0 then (some false) else (gs1_within.l0 k x0 x1 x7 (wrap64 (x8 + 1))))) else (none)) else (none)) else (some true)
def gs1_within.f (k : Nat) (a0 : ByteArray) (a1 : ByteArray) : Option (Bool) := gs1_within.l0 k a0 a1 (a0.size : Int) 0
theorem gs1_within.mono_l : ∀ k, (∀ y0 y1 y2 y3, LeO (gs1_within.l0 k y0 y1 y2 y3) (gs1_within.l0 (k + 1) y0 y1 y2 y3))
  | 0 => fun _ _ _ _ r h => by simp [gs1_within.l0] at h
  | k + 1 => by
    have ih0 := gs1_within.mono_l k
    · intro y0 y1 y2 y3
      unfold gs1_within.l0
      repeat' first
      | (with_reducible exact ih0 _ _ _ _)
      | (with_reducible exact LeO.refl _)
      | (with_reducible exact LeO.none _)
      | (with_reducible refine LeO.ite ?_ ?_)
      | (with_reducible refine LeO.bind ?_ (fun _ => ?_))
      | exact ih0 _ _ _ _
      | exact LeO.none _
      | refine LeO.ite ?_ ?_
      | refine LeO.bind ?_ (fun _ => ?_)
theorem gs1_within.mono : ∀ a0 a1 k, LeO (gs1_within.f k a0 a1) (gs1_within.f (k + 1) a0 a1) := by
  intro a0 a1 k
  have ih0 := gs1_within.mono_l k
  unfold gs1_within.f
  repeat' first
      | (with_reducible exact ih0 _ _ _ _)
      | (with_reducible exact LeO.refl _)
      | (with_reducible exact LeO.none _)
      | (with_reducible refine LeO.ite ?_ ?_)
      | (with_reducible refine LeO.bind ?_ (fun _ => ?_))
      | exact ih0 _ _ _ _
      | exact LeO.none _
      | refine LeO.ite ?_ ?_
      | refine LeO.bind ?_ (fun _ => ?_)
set_option maxHeartbeats 8000000 in
set_option maxRecDepth 100000 in
theorem gs1_within.calls (k : Nat) (a0 : ByteArray) (a1 : ByteArray) (r : Bool) (w : World) (h : gs1_within.f k a0 a1 = some r) :
    Calls Tryd.prog 36 #[.string a0, .string a1] w fun e w' => e = .returned (.bool r) ∧ Drawn0 w w' := by
  have H : (gs1_within.l0 k a0 a1 (a0.size : Int) 0) = some r := h
  clear h
  have H' := Aside0.mk H
  clear H
  go_enter Tryd.func36, Tryd.ntmps36
  go_wp2
  go_loopg [8] k (fun kq v8 w' => ∃ (x8_1 : Int), v8 = .int .i64 x8_1 ∧ Aside0 (gs1_within.l0 kq a0 a1 (a0.size : Int) x8_1 = some r) ∧ Aside0 (kq ≤ k) ∧ Drawn0 w w')
  case atStart => exact ⟨(0), (by first | rfl | (simp; done) | (simp [*]; done)), H', ⟨Nat.le_refl _⟩, by repeat (first | exact Drawn0.refl _ | apply Drawn0.step)⟩
  case round =>
    clear H'
    try clear p2
    obtain ⟨x8_1, rfl, HA, HK1, ⟨m1, rfl⟩⟩ := hrel
    cases gk with
    | zero => exact absurd HA.out (by simp [gs1_within.l0])
    | succ k1 =>
      have H := HA.out
      clear HA
      simp only [gs1_within.l0] at H
      by_cases c3 : x8_1 < (a0.size : Int)
      · rw [if_pos c3] at H
        have c3b0 : decide (x8_1 < (a0.size : Int)) = true := decide_eq_true c3
        clear c3
        by_cases c4 : 0 ≤ x8_1
        · rw [if_pos c4] at H
          have c4b0 : decide (0 ≤ x8_1) = true := decide_eq_true c4
          clear c4
          by_cases c5 : x8_1 < (a0.size : Int)
          · rw [if_pos c5] at H
            have c5b0 : decide (x8_1 < (a0.size : Int)) = true := decide_eq_true c5
            clear c5
            replace H := Option.bind_eq_some_iff.mp H
            obtain ⟨t104, A70, H⟩ := H
            replace H : (if t104 < 0 then (some false) else (gs1_within.l0 k1 a0 a1 (a0.size : Int) (wrap64 (x8_1 + 1)))) = some r := H
            have A7 := Aside0.mk A70
            clear A70
            by_cases c8 : t104 < 0
            · rw [if_pos c8] at H
              have c8b0 : decide (t104 < 0) = true := decide_eq_true c8
              clear c8
              obtain rfl := Option.some.inj H
              have p6 : 0 ≤ (x8_1 : Int) := of_decide_eq_true (by first | (with_reducible assumption) | assumption)
              have q6 : x8_1 < (a0.size : Int) := of_decide_eq_true (by first | (with_reducible assumption) | assumption)
              have hx6 := bt_at a0 x8_1
              replace p6 := eq_true p6
              replace q6 := eq_true q6
              (try (have h_ := of_eq_true q6; simp only [ByteArray.size_append, ByteArray.size_extract, Nat.min_self, Int.toNat_natCast, Nat.sub_zero, Int.natCast_add, size_lit, List.length_cons, List.length_nil, Nat.zero_add, Nat.reduceAdd, Int.natCast_one, Int.cast_ofNat_Int] at h_; have q6s := eq_true h_; clear h_))
              go_wp2_with (first | ((with_reducible refine gate_callee (f := 20) rfl ?_); refine goesL_ (some 15) rfl rfl Tryd.func20 (by kernel_rfl) rfl #[.string a1, .int .u8 (bt a0 x8_1)] rfl (by (try simp only [List.map_toArray, List.map_cons, List.map_nil]); first | done | rfl | (simp only [List.length_drop, List.length_take]; rfl)) ?_; (with_reducible refine (strings_IndexByte.calls a1 (bt a0 x8_1) t104 _ A7.out).mono ?_); rintro e w' ⟨rfl, ⟨nd, rfl⟩⟩; refine ⟨_, rfl, ?_⟩))
              go_ret
              exact ⟨by first | rfl | (simp; done) | (simp [*]; done), by repeat (first | exact Drawn0.refl _ | apply Drawn0.step)⟩
            · rw [if_neg c8] at H
              have c8b0 : decide (t104 < 0) = false := decide_eq_false c8
              clear c8
              have H' := Aside0.mk H
              clear H
              have p6 : 0 ≤ (x8_1 : Int) := of_decide_eq_true (by first | (with_reducible assumption) | assumption)
              have q6 : x8_1 < (a0.size : Int) := of_decide_eq_true (by first | (with_reducible assumption) | assumption)
              have hx6 := bt_at a0 x8_1
              replace p6 := eq_true p6
              replace q6 := eq_true q6
              (try (have h_ := of_eq_true q6; simp only [ByteArray.size_append, ByteArray.size_extract, Nat.min_self, Int.toNat_natCast, Nat.sub_zero, Int.natCast_add, size_lit, List.length_cons, List.length_nil, Nat.zero_add, Nat.reduceAdd, Int.natCast_one, Int.cast_ofNat_Int] at h_; have q6s := eq_true h_; clear h_))
              go_wp2_with (first | ((with_reducible refine gate_callee (f := 20) rfl ?_); refine goesL_ (some 15) rfl rfl Tryd.func20 (by kernel_rfl) rfl #[.string a1, .int .u8 (bt a0 x8_1)] rfl (by (try simp only [List.map_toArray, List.map_cons, List.map_nil]); first | done | rfl | (simp only [List.length_drop, List.length_take]; rfl)) ?_; (with_reducible refine (strings_IndexByte.calls a1 (bt a0 x8_1) t104 _ A7.out).mono ?_); rintro e w' ⟨rfl, ⟨nd, rfl⟩⟩; refine ⟨_, rfl, ?_⟩))
              go_roundg k1
              case measure => have := HK1.out; omega
              case rel => exact ⟨(wrap64 (x8_1 + 1)), (by first | rfl | (simp; done) | (simp [*]; done)), H', ⟨by have := HK1.out; omega⟩, by repeat (first | exact Drawn0.refl _ | apply Drawn0.step)⟩
          · rw [if_neg c5] at H
            exact absurd H (by simp)
        · rw [if_neg c4] at H
          exact absurd H (by simp)
      · rw [if_neg c3] at H
        have c3b0 : decide (x8_1 < (a0.size : Int)) = false := decide_eq_false c3
        clear c3
        obtain rfl := Option.some.inj H
        go_wp2
        go_ret
        exact ⟨by first | rfl | (simp; done) | (simp [*]; done), by repeat (first | exact Drawn0.refl _ | apply Drawn0.step)⟩

end Go.Proofs.YtghlbdemlmbijaaDoor.Q

namespace Go.Proofs.YtghlbdemlmbijaaDoor.Q
open Go.RowKit Go.Proofs.YtghlbdemlmbijaaDoorW.PrintWords Go.Proofs.YtghlbdemlmbijaaDoorW.PrintLast Go.Proofs.YtghlbdemlmbijaaDoorW.PrintMore

set_option linter.unusedVariables false
set_option linter.unusedSimpArgs false

/-! ### gs1_two: function 51 -/
def gs1_two.f (a0 : ByteArray) : Option (Int) := if 0 < (a0.size : Int) then (if 1 < (a0.size : Int) then (some ((10 * (((bt a0 0) - 48) % 256)) + (((bt a0 1) - 48) % 256))) else (none)) else (none)
set_option maxHeartbeats 8000000 in
set_option maxRecDepth 100000 in
theorem gs1_two.calls (a0 : ByteArray) (r : Int) (w : World) (h : gs1_two.f a0 = some r) :
    Calls Tryd.prog 51 #[.string a0] w fun e w' => e = .returned (.int .i64 r) ∧ Drawn0 w w' := by
  have H : (if 0 < (a0.size : Int) then (if 1 < (a0.size : Int) then (some ((10 * (((bt a0 0) - 48) % 256)) + (((bt a0 1) - 48) % 256))) else (none)) else (none)) = some r := h
  clear h
  by_cases c2 : 0 < (a0.size : Int)
  · rw [if_pos c2] at H
    have c2b0 : decide (0 < (a0.size : Int)) = true := decide_eq_true c2
    have c2b1 : decide (0 < a0.size) = true := decide_eq_true (by omega)
    clear c2
    by_cases c4 : 1 < (a0.size : Int)
    · rw [if_pos c4] at H
      have c4b0 : decide (1 < (a0.size : Int)) = true := decide_eq_true c4
      have c4b1 : decide (1 < a0.size) = true := decide_eq_true (by omega)
      clear c4
      obtain rfl := Option.some.inj H
      have p3 : 0 ≤ (0 : Int) := (by omega)
      have q3 : 0 < a0.size := (by have : (0 : Int) < (a0.size : Int) := of_decide_eq_true (by first | (with_reducible assumption) | assumption); omega)
      have hx3 : ∀ h : 0 < a0.size, ((a0[0]'h).toNat : Int) = bt a0 0 := bt_at a0 0
      clear p3
      have qi3 : (0 < (a0.size : Int)) = True := eq_true (of_decide_eq_true (by first | (with_reducible assumption) | assumption))
      replace q3 := eq_true q3
      (try (have h_ := of_eq_true q3; simp only [ByteArray.size_append, ByteArray.size_extract, Nat.min_self, Int.toNat_natCast, Nat.sub_zero, Int.natCast_add, size_lit, List.length_cons, List.length_nil, Nat.zero_add, Nat.reduceAdd, Int.natCast_one, Int.cast_ofNat_Int] at h_; have q3s := eq_true h_; clear h_))
      have p5 : 0 ≤ (1 : Int) := (by omega)
      have q5 : 1 < a0.size := (by have : (1 : Int) < (a0.size : Int) := of_decide_eq_true (by first | (with_reducible assumption) | assumption); omega)
      have hx5 : ∀ h : 1 < a0.size, ((a0[1]'h).toNat : Int) = bt a0 1 := bt_at a0 1
      clear p5
      have qi5 : (1 < (a0.size : Int)) = True := eq_true (of_decide_eq_true (by first | (with_reducible assumption) | assumption))
      replace q5 := eq_true q5
      (try (have h_ := of_eq_true q5; simp only [ByteArray.size_append, ByteArray.size_extract, Nat.min_self, Int.toNat_natCast, Nat.sub_zero, Int.natCast_add, size_lit, List.length_cons, List.length_nil, Nat.zero_add, Nat.reduceAdd, Int.natCast_one, Int.cast_ofNat_Int] at h_; have q5s := eq_true h_; clear h_))
      go_enter Tryd.func51, Tryd.ntmps51
      go_wp2
      repeat (go_quiet (fail); try go_wp2)
      go_ret
      exact ⟨by first | rfl | (simp; done) | (simp [*]; done), by repeat (first | exact Drawn0.refl _ | apply Drawn0.step)⟩
    · rw [if_neg c4] at H
      exact absurd H (by simp)
  · rw [if_neg c2] at H
    exact absurd H (by simp)

end Go.Proofs.YtghlbdemlmbijaaDoor.Q
