/- Joined by a program of this work (pack.py) out of the texts Tabs, Q0, Short, QE0, Shelf, Pl, GLib, Qeandigits, Qeanlength, Qeanexpanded, Qcheckdigitwithin, Qcheckdigitbackward, Qcheckdigitdigit, GChk1, GComp, QeancheckDigit, Qeancomplete, Qeanmargins, GFlip0, GOnce, GOnce2, GBuild, GRep, GRep2, GRep3, GFlip, ShelfRev, GPat, Qeandrawn of this seat, in build order. -/
import Derived.Test.YtjmeekceecpemaaGreatDoorWWords
import Derived.Test.YtjmeekceecpemaaGreatDoorWLast
import Derived.Test.YtjmeekceecpemaaGreatDoorWApart
import Derived.Test.YtjmeekceecpemaaGreatDoorWArr
import Derived.Test.YtjmeekceecpemaaGreatDoorWEqStruct
import Derived.Test.YtjmeekceecpemaaGreatDoorWGuard
import Derived.Test.YtjmeekceecpemaaGreatDoorWZeros
import Derived.Test.YtjmeekceecpemaaGreatDoorWShare
import Derived.Test.YtjmeekceecpemaaGreatDoorWN
import Derived.Test.YtjmeekceecpemaaGreatDoorWNEv
import Derived.Test.YtjmeekceecpemaaGreatDoorWMore
import Derived.Test.YtjmeekceecpemaaGreatDoorWRepsOne
import Derived.Test.YtjmeekceecpemaaGreatDoorWTab
import Derived.Test.YtjmeekceecpemaaGreatDoorProg
import Derived.Lib.LaidTab
import Derived.Lib.Space
import Derived.Below
import Derived.WalkSmall
import Derived.KernelRfl
import Derived.Deep.Draws
import Derived.Deep.AppendLies
import Derived.Maps.AppendAt
import Derived.OwnWalk
import Derived.Laws.BytesArg
import Derived.Laws.MakeOwn
import Derived.Laws.OwnMore
import Derived.Deep.OwnRows
import Derived.Tactics
import Derived.Lib.ConvBytes
import Derived.Laws.Slices
import Derived.WalkKit
import Derived.RowKit3
import Derived.Deep.LoopGhost
import Derived.Deep.QuietTactic
import Derived.BigQuiet
import Derived.WideLaws
import Derived.Deep.DeepCutAuto
import Derived.Deep.CutBlock
import Derived.Deep.RegionHeld3
import Derived.Laws.Rows
import Derived.Lib.AppendStr
import Derived.ArgAppend
import Derived.Laws.IdiomCopy
import Derived.OrdersHeld
import Derived.Laws.BitsLemmas
import Derived.RowKit
import Derived.WalkLawsBesides
import Derived.Shelf.Strings.Builder1
import Derived.Shelf.Strings.Builder2
import Derived.Shelf.Strings.OnBuilder
import Derived.Shelf.Strings.Trim
import Derived.Shelf.Small.Utf8
import Derived.Shelf.Small.Strs
import Derived.Shelf.Strings.BuilderF
import Derived.Shelf.Utf8.RuneCount
import Derived.Shelf.Strconv.Itoa0
import Derived.Shelf.Strconv.Itoa1
import Derived.Shelf.LaysM
import Derived.Shelf.Strconv.Itoa2
import Derived.Shelf.Strconv.Itoa3
import Derived.Shelf.Strings.Search1
import Derived.Shelf.Strings.Search2
import Derived.Shelf.Strings.Search3
import Derived.Shelf.Strings.Count
import Derived.Shelf.Strings.Shaped
import Derived.Shelf.Strings.Prefix
import Derived.Shelf.Strings.Split
import Derived.Shelf.Unicode.Decode
import Derived.Shelf.Strings.Runes
import Derived.Shelf.Strings.RuneCount
import Derived.Shelf.Strings.AsciiSet
import Derived.Shelf.Bits.Mul64
import Derived.Shelf.Strings.Repeat
import Derived.Shelf.Unicode.DecodeSlow
import Derived.Shelf.Unicode.DecodeAny
import Derived.Shelf.Unicode.DecodeLast
import Derived.Shelf.Slices.Turned
import Derived.Shelf.Strings.SlTrimAscii
import Derived.Lib.IndexLaws
import Derived.Lib.Strings
import Derived.Lib.ItoaNum
import Derived.Lib.Hide
import Derived.Deep.RegionWith
import Derived.Outline
import Derived.Tactics2
import Derived.Defers
import Derived.Laws.Pointers
import Derived.Laws.LoneSync
import Derived.RegionTactic
import Derived.RegionCalls
import Derived.ChangeAlike
import Derived.Deep.WholeRow
import Derived.Lib.AtoiErrMem
import Derived.Lib.LazyBuf
import Derived.Ground.SlgnProg
import Derived.Shelf.SlicesE.Reverse
import Derived.Lib.OwnBridge
/- A constant string's size. -/
namespace Go.Proofs.YtjmeekceecpemaaGreatDoor
open Go.RowKit
theorem size_lit (l : List UInt8) : (⟨⟨l⟩⟩ : ByteArray).size = l.length := rfl
end Go.Proofs.YtjmeekceecpemaaGreatDoor

namespace Go.Proofs.YtjmeekceecpemaaGreatDoor.Q
open Go.RowKit Go.Proofs.YtjmeekceecpemaaGreatDoorW.PrintWords Go.Proofs.YtjmeekceecpemaaGreatDoorW.PrintLast Go.Proofs.YtjmeekceecpemaaGreatDoorW.PrintMore

set_option linter.unusedVariables false
set_option linter.unusedSimpArgs false



def errW : Option Int → Value
  | none => .nilIface
  | some c => .iface 0 (.int .i64 c)
theorem errW_none : errW none = .nilIface := rfl
theorem errW_some (c : Int) : errW (some c) = .iface 0 (.int .i64 c) := rfl

theorem info3 : (Tryz.prog.info? 3).map (fun i => (i.zero, i.size, i.bytes)) = some (some (.int .i64 0), 1, 8) := by kernel_rfl
theorem info4 : (Tryz.prog.info? 4).map (fun i => (i.zero, i.size, i.bytes)) = some (some (.bool false), 1, 1) := by kernel_rfl
theorem info5 : (Tryz.prog.info? 5).map (fun i => (i.zero, i.size, i.bytes)) = some (some (.int .u8 0), 1, 1) := by kernel_rfl
theorem info9 : (Tryz.prog.info? 9).map (fun i => (i.zero, i.size, i.bytes)) = some (some (.string ⟨#[]⟩), 1, 16) := by kernel_rfl
theorem info23 : (Tryz.prog.info? 23).map (fun i => (i.zero, i.size, i.bytes)) = some (some (.slice none 0 0), 1, 24) := by kernel_rfl
-- the values' own types
def rd_L3 (xs : List (List ByteArray)) (i : Int) : (List ByteArray) := xs.getD i.toNat ([] : List ByteArray)
theorem at_L3 {w : World} {A : Option Addr} {n : Nat} {xs : List (List ByteArray)} (h : Kd.C (Kd.slice 9 Kd.string) w A n xs) (i : Int) (h0 : 0 ≤ i) (h1 : i < n) : ∃ ad A0 c0, A = some ad ∧ w.cell? (ad.add i.toNat) = some (.slice A0 (rd_L3 xs i).length c0) ∧ (rd_L3 xs i).length ≤ c0 ∧ Kd.string.C w A0 (rd_L3 xs i).length (rd_L3 xs i) := by
  obtain ⟨ad, c, e, _, hK, hc0⟩ := Kd.C_get h ([] : List ByteArray) i h0 h1
  have hc : ∀ j u, c[j]? = some u → w.cell? (ad.add (i.toNat * 1 + j)) = some u := hc0
  obtain ⟨A0, c0, rfl, l0, g0⟩ := hK
  exact ⟨ad, A0, c0, e, by have hq := hc 0 _ rfl; rwa [Nat.mul_one, Nat.add_zero] at hq, l0, g0⟩

def rd_L5 (xs : List (List Bool)) (i : Int) : (List Bool) := xs.getD i.toNat ([] : List Bool)
theorem at_L5 {w : World} {A : Option Addr} {n : Nat} {xs : List (List Bool)} (h : Kd.C (Kd.slice 4 Kd.bool) w A n xs) (i : Int) (h0 : 0 ≤ i) (h1 : i < n) : ∃ ad A0 c0, A = some ad ∧ w.cell? (ad.add i.toNat) = some (.slice A0 (rd_L5 xs i).length c0) ∧ (rd_L5 xs i).length ≤ c0 ∧ Kd.bool.C w A0 (rd_L5 xs i).length (rd_L5 xs i) := by
  obtain ⟨ad, c, e, _, hK, hc0⟩ := Kd.C_get h ([] : List Bool) i h0 h1
  have hc : ∀ j u, c[j]? = some u → w.cell? (ad.add (i.toNat * 1 + j)) = some u := hc0
  obtain ⟨A0, c0, rfl, l0, g0⟩ := hK
  exact ⟨ad, A0, c0, e, by have hq := hc 0 _ rfl; rwa [Nat.mul_one, Nat.add_zero] at hq, l0, g0⟩

end Go.Proofs.YtjmeekceecpemaaGreatDoor.Q

/- Short forms: what the printed texts say again and again, said once. Each closes its side where it is named, by the names that stand there. -/
namespace Go.Proofs.YtjmeekceecpemaaGreatDoor.Q
open Go.RowKit Go.Proofs.YtjmeekceecpemaaGreatDoorW.PrintWords Go.Proofs.YtjmeekceecpemaaGreatDoorW.PrintLast Go.Proofs.YtjmeekceecpemaaGreatDoorW.PrintMore
set_option linter.unusedVariables false
section
variable {p q : Prop}
theorem bw (h : p := by repeat (first | (with_reducible first | exact HB.out | apply below_alloc | apply pw_below_drewN | apply below_drew1 | refine below_set ?_ (Aside0.out (by assumption))) | exact HB.out)) : p := h
theorem bk (H : Aside0 q) (h : q → p := by intro h_; (with_reducible repeat (first | refine blk_drewN ?_ _ | refine blk_drew ?_ | refine blk_alloc ?_ _)); exact h_) : p := h H.out
theorem kd (H : Aside0 q) (h : q → p := by intro h_; (with_reducible repeat (first | apply Kd.R_alloc | apply Kd.R_drewN | apply Kd.R_drew)); exact h_) : p := h H.out
theorem ar (h : p := by (try simp only [List.map_toArray, List.map_cons, List.map_nil]); first | done | rfl | (simp only [List.length_drop, List.length_take]; rfl)) : p := h
theorem am (h : p := by first | (with_reducible assumption) | assumption) : p := h
theorem rs (h : p := by first | rfl | (simp; done) | (simp [*]; done)) : p := h
theorem es (h : p := by first | rfl | (simp [errW_none, errW_some] <;> rfl) | (simp [*, errW_none, errW_some] <;> rfl)) : p := h
theorem la (h : p := by first | omega | exact Nat.le_refl _) : p := h
theorem om (h : p := by omega) : p := h
theorem kr (h : p := by kernel_rfl) : p := h
theorem e1 (h : p := by decide) : p := h
theorem SZ : (∀ a b : ByteArray, (a ++ b).size = a.size + b.size) ∧ (∀ (a : ByteArray) i j, (a.extract i j).size = min j a.size - i) ∧ (∀ n : Nat, min n n = n) ∧ (∀ n : Nat, ((n : Int)).toNat = n) ∧ (∀ n : Nat, n - 0 = n) ∧ (∀ n m : Nat, ((n + m : Nat) : Int) = n + m) ∧ (∀ n : Nat, 0 + n = n) ∧ (((1 : Nat) : Int) = 1) :=
  ⟨fun _ _ => ByteArray.size_append, fun _ _ _ => ByteArray.size_extract, Nat.min_self, Int.toNat_natCast, Nat.sub_zero, Int.natCast_add, Nat.zero_add, Int.natCast_one⟩
theorem s1 (h : p = True) (e : p = q := by simp only [SZ, size_lit, List.length_cons, List.length_nil, Nat.reduceAdd, Int.cast_ofNat_Int]; rfl) : q = True := e ▸ h
theorem s2 (h : p = False) (e : p = q := by simp only [SZ, size_lit, List.length_cons, List.length_nil, Nat.reduceAdd, Int.cast_ofNat_Int]; rfl) : q = False := e ▸ h
theorem s3 {d : Decidable p} (h : decide p = true) (e : p = q := by simp only [SZ, size_lit, List.length_cons, List.length_nil, Nat.reduceAdd, Int.cast_ofNat_Int]; rfl) : q = True := e ▸ eq_true (of_decide_eq_true h)
theorem s4 (h : p) (e : p = q := by simp only [SZ, size_lit, List.length_cons, List.length_nil, Nat.reduceAdd, Int.cast_ofNat_Int]; rfl) : q := e ▸ h
variable {α β : Type}
theorem ifn [Decidable p] {x : Option α} {r : α} (h : (if p then x else none) = some r) : p ∧ x = some r := by
  by_cases hc : p
  · rw [if_pos hc] at h; exact ⟨hc, h⟩
  · rw [if_neg hc] at h; cases h
theorem ifc [Decidable p] {x y r : Option α} (h : (if p then x else y) = r) : (p ∧ x = r) ∨ (¬ p ∧ y = r) := by
  by_cases hc : p
  · rw [if_pos hc] at h; exact .inl ⟨hc, h⟩
  · rw [if_neg hc] at h; exact .inr ⟨hc, h⟩
theorem bd {o : Option α} {f : α → Option β} {r : β} (h : o.bind f = some r) : ∃ t, Aside0 (o = some t) ∧ f t = some r := by
  obtain ⟨t, a, b⟩ := Option.bind_eq_some_iff.mp h
  exact ⟨t, ⟨a⟩, b⟩
end
section
variable {P : Program} {ops : Array Oper} {Q : Exit → Act → World → Prop} {md : Region.Mode} {S : World → Prop} {ds : List Nat}
/-- pure_, its sides closed. -/
theorem pu {T : Bool × List (List Nat × List Nat)} (hT : Aside0 (rtab md ops = T)) (i : Nat) (n : Tmp) {oi : Oper} {v : Value} {fuel : Nat} {l l' : Array Bool} {a a' : Act} {w : World}
    (hi : ops[i]? = some oi := by rfl) (hN : oi.dst = some n := by rfl) (hl : l.setIfInBounds i true = l' := by simp only [List.setIfInBounds_toArray, List.set_cons_zero, List.set_cons_succ]; rfl)
    (hc : anyT T l.toList l'.toList i = true := by kernel_rfl)
    (hy : Yields P ops oi v a := by exact Or.inl ⟨by rfl, by intro w'; go_simp; (try go_bits); with_reducible rfl⟩)
    (ha : a.put (some n) v = a' := by simp only [Act.put, List.setIfInBounds_toArray, List.set_cons_zero, List.set_cons_succ, i64_w]; rfl)
    (hQ : ∀ c a w, Q (.panic c) (a.put oi.dst v) w → Q (.panic c) a w := by exact (fun _ _ _ h => h))
    (h : wpAnyLast P md ops Q S ds fuel l' a' w) : wpAnyLast P md ops Q S ds (fuel + 1) l a w :=
  pure_ l' hi hN (any_of hT.out hc) hQ hy ha h
/-- take_, its sides closed. -/
theorem tk {T : Bool × List (List Nat × List Nat)} {B : List Nat} (hT : Aside0 (rtab md ops = T)) (hB : Aside0 (waitsOk T.2 B = true)) {w : World} (hS : S w) (i : Nat) (n : Tmp) {oi : Oper} {v : Value} {fuel : Nat} {l l' : Array Bool} {a a' : Act}
    (hi : ops[i]? = some oi := by rfl) (hN : oi.dst = some n := by rfl) (hl : l.setIfInBounds i true = l' := by simp only [List.setIfInBounds_toArray, List.set_cons_zero, List.set_cons_succ]; rfl)
    (hc : takeW T B ds l.toList l'.toList i = true := by kernel_rfl)
    (hy : YieldsIf P ops S oi v a := by exact Or.inl ⟨by rfl, by intro w' _; go_simp; (try go_bits); with_reducible rfl⟩)
    (ha : a.put (some n) v = a' := by simp only [Act.put, List.setIfInBounds_toArray, List.set_cons_zero, List.set_cons_succ, i64_w]; rfl)
    (hQ : ∀ c a w, Q (.panic c) (a.put oi.dst v) w → Q (.panic c) a w := by exact (fun _ _ _ h => h))
    (h : wpAnyLast P md ops Q S ds fuel l' a' w) : wpAnyLast P md ops Q S ds (fuel + 1) l a w :=
  take_ l' hi hN (take_ofW hT.out hB.out hc) hQ hy hS ha h
/-- one_, its sides closed. -/
theorem on {T : Bool × List (List Nat × List Nat)} (hT : Aside0 (rtab md ops = T)) (i : Nat) (n : Tmp) {oi : Oper} {fuel : Nat} {l l' : Array Bool} {a : Act} {w : World}
    (hi : ops[i]? = some oi := by rfl) (hN : oi.dst = some n := by rfl) (hl : l.setIfInBounds i true = l' := by simp only [List.setIfInBounds_toArray, List.set_cons_zero, List.set_cons_succ]; rfl)
    (hc : (readyT T.2 l.toList == [i] && l.toList.set i true == l'.toList) = true := by kernel_rfl) (hd : i ∉ ds := by decide)
    (h : ∀ K : Act → World → Prop, Shut (∀ a' w', S w' → (S w' → wpAnyLast P md ops Q S ds fuel l' a' w') → K a' w') → if Region.wanted oi (yielded ops a.tmps) = true then Oper.wp P oi a w K Q else K (a.put (some n) undef) w) :
    wpAnyLast P md ops Q S ds (fuel + 1) l a w :=
  one_ l' hi hN (one_of hT.out hc) hd h
/-- norm_, its side closed. -/
theorem nm {fuel : Nat} {l : Array Bool} {a a' : Act} {w : World} (ha : a = a' := by simp only [Act.put, List.setIfInBounds_toArray, List.set_cons_zero, List.set_cons_succ, i64_w]; rfl) (h : wpAnyLast P md ops Q S ds fuel l a' w) : wpAnyLast P md ops Q S ds fuel l a w := norm_ ha h
end
end Go.Proofs.YtjmeekceecpemaaGreatDoor.Q

namespace Go.Proofs.YtjmeekceecpemaaGreatDoor.Q
open Go.RowKit Go.Proofs.YtjmeekceecpemaaGreatDoorW.PrintWords Go.Proofs.YtjmeekceecpemaaGreatDoorW.PrintLast Go.Proofs.YtjmeekceecpemaaGreatDoorW.PrintMore

set_option linter.unusedVariables false
set_option linter.unusedSimpArgs false

theorem eqA31 (d : Nat) (w : World) (x0 y0 : Int) (x1 y1 : ByteArray) (x2 y2 : ByteArray) :
    (Op.equalIn (d + 2) 31 (.agg #[.int .i64 x0, .string x1, .string x2]) (.agg #[.int .i64 y0, .string y1, .string y2])).run Tryz.prog w = .ok (x0 == y0 && (x1.toList == y1.toList && (x2.toList == y2.toList))) w := by
  refine eqA_of Tryz.underlying31 (by kernel_rfl) ?_
  refine eqf_cons (by rfl) (by go_simp; rfl) (by go_simp; rfl) (by go_simp) ?_
  refine eqf_cons (by rfl) (by go_simp; rfl) (by go_simp; rfl) (by go_simp) ?_
  exact eqf_last (by rfl) (by go_simp; rfl) (by go_simp; rfl) (by go_simp)
end Go.Proofs.YtjmeekceecpemaaGreatDoor.Q

/-
  DERIVED: THE SHELF's CONTRACTS AT THIS DUMP, IN PLAIN WORDS (tools/lay-plain.mjs out of 'TryzShelfSrc.lean', which tools/lay-shelf.mjs wrote): THE SAME DECLARATIONS UNDER THE SAME NAMES: 'import', 'namespace', 'open', 'def', 'theorem' AND NOTHING ELSE: no command of the shelf's: FOR A HAND-IN. Each laying: the table of numbers ('.._ren') and one theorem, a field a fact of the dump's own or the kernel's comparison; each contract: ONE APPLICATION.
-/
namespace Go.Proofs
open Go.Shelf
def Tryz.lays156_ren : Go.Shelf.Ren := ⟨fun | 156 => 64 | 165 => 57 | 166 => 58 | 169 => 60 | 240 => 93 | 241 => 94 | 276 => 114 | 277 => 115 | n => n, fun | 31 => 67 | 9 => 9 | 3 => 3 | 4 => 4 | 0 => 0 | 20 => 20 | 72 => 76 | 76 => 80 | 70 => 74 | 37 => 40 | 75 => 79 | 127 => 111 | 164 => 130 | 5 => 5 | 80 => 83 | n => n, fun | n => n⟩
theorem Tryz.lays156 : Go.Proofs.Lays.n156 Tryz.prog Tryz.lays156_ren := {
  mixed := by kernel_rfl
  f156 := Tryz.func64.trans (congrArg some (by kernel_rfl))
  f165 := Tryz.func57.trans (congrArg some (by kernel_rfl))
  f166 := Tryz.func58.trans (congrArg some (by kernel_rfl))
  f169 := Tryz.func60.trans (congrArg some (by kernel_rfl))
  f240 := Tryz.func93.trans (congrArg some (by kernel_rfl))
  f241 := Tryz.func94.trans (congrArg some (by kernel_rfl))
  f276 := Tryz.func114.trans (congrArg some (by kernel_rfl))
  f277 := Tryz.func115.trans (congrArg some (by kernel_rfl))
  t0 := Tryz.underlying0
  a0 := Tryz.isAgg0
  z0 := Tryz.sizeOf0
  v0 := Tryz.zeroValue0
  t3 := Tryz.underlying3
  a3 := Tryz.isAgg3
  z3 := Tryz.sizeOf3
  v3 := Tryz.zeroValue3
  t4 := Tryz.underlying4
  a4 := Tryz.isAgg4
  z4 := Tryz.sizeOf4
  v4 := Tryz.zeroValue4
  t9 := Tryz.underlying9
  a9 := Tryz.isAgg9
  z9 := Tryz.sizeOf9
  v9 := Tryz.zeroValue9
  t20 := Tryz.underlying20
  a20 := Tryz.isAgg20
  z20 := Tryz.sizeOf20
  v20 := Tryz.zeroValue20
  t31 := Tryz.underlying67
  a31 := Tryz.isAgg67
  z31 := Tryz.sizeOf67
  v31 := Tryz.zeroValue67
  t37 := Tryz.underlying40
  a37 := Tryz.isAgg40
  z37 := Tryz.sizeOf40
  v37 := Tryz.zeroValue40
  t70 := Tryz.underlying74
  a70 := Tryz.isAgg74
  z70 := Tryz.sizeOf74
  v70 := Tryz.zeroValue74
  t72 := Tryz.underlying76
  a72 := Tryz.isAgg76
  z72 := Tryz.sizeOf76
  v72 := Tryz.zeroValue76
  t75 := Tryz.underlying79
  a75 := Tryz.isAgg79
  z75 := Tryz.sizeOf79
  v75 := Tryz.zeroValue79
  t76 := Tryz.underlying80
  a76 := Tryz.isAgg80
  z76 := Tryz.sizeOf80
  v76 := Tryz.zeroValue80
  t127 := Tryz.underlying111
  a127 := Tryz.isAgg111
  z127 := Tryz.sizeOf111
  v127 := Tryz.zeroValue111
  t164 := Tryz.underlying130
  a164 := Tryz.isAgg130
  z164 := Tryz.sizeOf130
  v164 := Tryz.zeroValue130 }
theorem Tryz.Builder_Extra_156 : Builder.Extra Tryz.prog Tryz.lays156_ren := {
  sizeBuilder := by kernel_rfl
  liesBuilder := by kernel_rfl
  t5 := Tryz.underlying5
  a5 := Tryz.isAgg5
  z5 := Tryz.sizeOf5
  v5 := Tryz.zeroValue5
  infoByte := by kernel_rfl
  cellsByte := by kernel_rfl
  sizeByte := by kernel_rfl
  neB5 := by decide }
open Go.RowKit in
/-- strings.Join: "Join concatenates the elements of its first argument to create a single string. The separator string sep is placed between elements in the resulting string.": HOWEVER MANY ELEMENTS. Below the heap's end the world is as it was. (LAID: no walk: one application.) -/
theorem Tryz.strings_Join (bk o c : Nat) (xs : List ByteArray) (sep : ByteArray) (w : World) (hcells : ∀ (j : Nat) x, xs[j]? = some x → w.cell? ⟨bk, o + j, none⟩ = some (.string x)) (hbk : bk < w.heap.size) (hN : xs.length ≤ 140737488355328) (hcap : xs.length ≤ c) (hlen : (Lib.join (xs.map (·.data.toList)) sep.data.toList).length ≤ 140737488355328) :
    Calls Tryz.prog 64 #[.slice (some ⟨bk, o, none⟩) xs.length c, .string sep] w fun e w' => e = .returned (.string ⟨(Lib.join (xs.map (·.data.toList)) sep.data.toList).toArray⟩) ∧ Below w.heap.size w w' := Any.strings_Join Tryz.lays156 Tryz.Builder_Extra_156 bk o c xs sep w hcells hbk hN hcap hlen
def Tryz.lays160_ren : Go.Shelf.Ren := ⟨fun | 160 => 42 | 232 => 73 | 231 => 72 | 227 => 74 | 234 => 76 | 233 => 75 | 236 => 78 | 235 => 77 | 228 => 97 | 271 => 100 | 151 => 99 | 197 => 98 | 120 => 120 | 152 => 119 | 260 => 118 | 137 => 123 | 119 => 127 | 224 => 103 | 225 => 102 | 217 => 101 | 266 => 121 | n => n, fun | 9 => 9 | 4 => 4 | 3 => 3 | 5 => 5 | 117 => 92 | 116 => 91 | 0 => 0 | 124 => 95 | 21 => 21 | 105 => 115 | 46 => 70 | 119 => 165 | 139 => 168 | 138 => 167 | n => n, fun | 3 => 1 | 4 => 2 | n => n⟩
theorem Tryz.lays160 : Go.Proofs.Lays.n160 Tryz.prog Tryz.lays160_ren := {
  mixed := by kernel_rfl
  f119 := Tryz.func127.trans (congrArg some (by kernel_rfl))
  f120 := Tryz.func120.trans (congrArg some (by kernel_rfl))
  f137 := Tryz.func123.trans (congrArg some (by kernel_rfl))
  f151 := Tryz.func99.trans (congrArg some (by kernel_rfl))
  f152 := Tryz.func119.trans (congrArg some (by kernel_rfl))
  f160 := Tryz.func42.trans (congrArg some (by kernel_rfl))
  f197 := Tryz.func98.trans (congrArg some (by kernel_rfl))
  f217 := Tryz.func101.trans (congrArg some (by kernel_rfl))
  f224 := Tryz.func103.trans (congrArg some (by kernel_rfl))
  f225 := Tryz.func102.trans (congrArg some (by kernel_rfl))
  f227 := Tryz.func74.trans (congrArg some (by kernel_rfl))
  f228 := Tryz.func97.trans (congrArg some (by kernel_rfl))
  f231 := Tryz.func72.trans (congrArg some (by kernel_rfl))
  f232 := Tryz.func73.trans (congrArg some (by kernel_rfl))
  f233 := Tryz.func75.trans (congrArg some (by kernel_rfl))
  f234 := Tryz.func76.trans (congrArg some (by kernel_rfl))
  f235 := Tryz.func77.trans (congrArg some (by kernel_rfl))
  f236 := Tryz.func78.trans (congrArg some (by kernel_rfl))
  f260 := Tryz.func118.trans (congrArg some (by kernel_rfl))
  f266 := Tryz.func121.trans (congrArg some (by kernel_rfl))
  f271 := Tryz.func100.trans (congrArg some (by kernel_rfl))
  t0 := Tryz.underlying0
  a0 := Tryz.isAgg0
  z0 := Tryz.sizeOf0
  v0 := Tryz.zeroValue0
  t3 := Tryz.underlying3
  a3 := Tryz.isAgg3
  z3 := Tryz.sizeOf3
  v3 := Tryz.zeroValue3
  t4 := Tryz.underlying4
  a4 := Tryz.isAgg4
  z4 := Tryz.sizeOf4
  v4 := Tryz.zeroValue4
  t5 := Tryz.underlying5
  a5 := Tryz.isAgg5
  z5 := Tryz.sizeOf5
  v5 := Tryz.zeroValue5
  t9 := Tryz.underlying9
  a9 := Tryz.isAgg9
  z9 := Tryz.sizeOf9
  v9 := Tryz.zeroValue9
  t21 := Tryz.underlying21
  a21 := Tryz.isAgg21
  z21 := Tryz.sizeOf21
  v21 := Tryz.zeroValue21
  t46 := Tryz.underlying70
  a46 := Tryz.isAgg70
  z46 := Tryz.sizeOf70
  v46 := Tryz.zeroValue70
  t105 := Tryz.underlying115
  a105 := Tryz.isAgg115
  z105 := Tryz.sizeOf115
  v105 := Tryz.zeroValue115
  t116 := Tryz.underlying91
  a116 := Tryz.isAgg91
  z116 := Tryz.sizeOf91
  t117 := Tryz.underlying92
  a117 := Tryz.isAgg92
  z117 := Tryz.sizeOf92
  v117 := Tryz.zeroValue92
  t119 := Tryz.underlying165
  a119 := Tryz.isAgg165
  z119 := Tryz.sizeOf165
  t124 := Tryz.underlying95
  a124 := Tryz.isAgg95
  z124 := Tryz.sizeOf95
  v124 := Tryz.zeroValue95
  t138 := Tryz.underlying167
  a138 := Tryz.isAgg167
  z138 := Tryz.sizeOf167
  v138 := Tryz.zeroValue167
  t139 := Tryz.underlying168
  a139 := Tryz.isAgg168
  z139 := Tryz.sizeOf168
  v139 := Tryz.zeroValue168
  g3 := by kernel_rfl
  g4 := by kernel_rfl }
def Tryz.lays137_ren : Go.Shelf.Ren := ⟨fun | 137 => 123 | 217 => 101 | 266 => 121 | n => n, fun | 9 => 9 | 5 => 5 | 3 => 3 | n => n, fun | n => n⟩
theorem Tryz.lays137 : Go.Proofs.Lays.n137 Tryz.prog Tryz.lays137_ren := {
  mixed := by kernel_rfl
  f137 := Tryz.func123.trans (congrArg some (by kernel_rfl))
  f217 := Tryz.func101.trans (congrArg some (by kernel_rfl))
  f266 := Tryz.func121.trans (congrArg some (by kernel_rfl))
  t3 := Tryz.underlying3
  a3 := Tryz.isAgg3
  z3 := Tryz.sizeOf3
  v3 := Tryz.zeroValue3
  t5 := Tryz.underlying5
  a5 := Tryz.isAgg5
  z5 := Tryz.sizeOf5
  v5 := Tryz.zeroValue5
  t9 := Tryz.underlying9
  a9 := Tryz.isAgg9
  z9 := Tryz.sizeOf9
  v9 := Tryz.zeroValue9 }
open Go.RowKit in
/-- strings.IndexByte: "IndexByte returns the index of the first instance of c in s, or -1 if c is not present in s.": IT RETURNS 'Lib.indexByte s c'; the world is as it was. (LAID: no walk: one application.) -/
theorem Tryz.strings_IndexByte (s : ByteArray) (c : Int) (w : World) :
    Calls Tryz.prog 123 #[.string s, .int .u8 c] w fun e w' => e = .returned (.int .i64 (Lib.indexByte s.data.toList c.toNat.toUInt8)) ∧ w' = w := Any.strings_IndexByte Tryz.lays137 s c w
def Tryz.lays171_ren : Go.Shelf.Ren := ⟨fun | 171 => 178 | 243 => 179 | 246 => 180 | 283 => 181 | 284 => 182 | 285 => 183 | 286 => 184 | 129 => 186 | 317 => 185 | 318 => 187 | 319 => 188 | 320 => 189 | 337 => 190 | 338 => 191 | n => n, fun | 3 => 3 | 9 => 9 | 2 => 2 | 4 => 4 | 171 => 226 | 0 => 0 | 53 => 108 | 37 => 40 | 5 => 5 | 173 => 229 | 212 => 232 | 51 => 105 | 20 => 20 | 213 => 233 | 46 => 70 | 232 => 236 | 233 => 237 | n => n, fun | 17 => 3 | 18 => 4 | 19 => 5 | n => n⟩
theorem Tryz.lays171 : Go.Proofs.Lays.n171 Tryz.prog Tryz.lays171_ren := {
  mixed := by kernel_rfl
  f129 := Tryz.func186.trans (congrArg some (by kernel_rfl))
  f171 := Tryz.func178.trans (congrArg some (by kernel_rfl))
  f243 := Tryz.func179.trans (congrArg some (by kernel_rfl))
  f246 := Tryz.func180.trans (congrArg some (by kernel_rfl))
  f283 := Tryz.func181.trans (congrArg some (by kernel_rfl))
  f284 := Tryz.func182.trans (congrArg some (by kernel_rfl))
  f285 := Tryz.func183.trans (congrArg some (by kernel_rfl))
  f286 := Tryz.func184.trans (congrArg some (by kernel_rfl))
  f317 := Tryz.func185.trans (congrArg some (by kernel_rfl))
  f318 := Tryz.func187.trans (congrArg some (by kernel_rfl))
  f319 := Tryz.func188.trans (congrArg some (by kernel_rfl))
  f320 := Tryz.func189.trans (congrArg some (by kernel_rfl))
  f337 := Tryz.func190.trans (congrArg some (by kernel_rfl))
  f338 := Tryz.func191.trans (congrArg some (by kernel_rfl))
  t0 := Tryz.underlying0
  a0 := Tryz.isAgg0
  z0 := Tryz.sizeOf0
  v0 := Tryz.zeroValue0
  t2 := Tryz.underlying2
  a2 := Tryz.isAgg2
  z2 := Tryz.sizeOf2
  v2 := Tryz.zeroValue2
  t3 := Tryz.underlying3
  a3 := Tryz.isAgg3
  z3 := Tryz.sizeOf3
  v3 := Tryz.zeroValue3
  t4 := Tryz.underlying4
  a4 := Tryz.isAgg4
  z4 := Tryz.sizeOf4
  v4 := Tryz.zeroValue4
  t5 := Tryz.underlying5
  a5 := Tryz.isAgg5
  z5 := Tryz.sizeOf5
  v5 := Tryz.zeroValue5
  t9 := Tryz.underlying9
  a9 := Tryz.isAgg9
  z9 := Tryz.sizeOf9
  v9 := Tryz.zeroValue9
  t20 := Tryz.underlying20
  a20 := Tryz.isAgg20
  z20 := Tryz.sizeOf20
  v20 := Tryz.zeroValue20
  t37 := Tryz.underlying40
  a37 := Tryz.isAgg40
  z37 := Tryz.sizeOf40
  v37 := Tryz.zeroValue40
  t46 := Tryz.underlying70
  a46 := Tryz.isAgg70
  z46 := Tryz.sizeOf70
  v46 := Tryz.zeroValue70
  t51 := Tryz.underlying105
  a51 := Tryz.isAgg105
  z51 := Tryz.sizeOf105
  v51 := Tryz.zeroValue105
  t53 := Tryz.underlying108
  a53 := Tryz.isAgg108
  z53 := Tryz.sizeOf108
  v53 := Tryz.zeroValue108
  t171 := Tryz.underlying226
  a171 := Tryz.isAgg226
  z171 := Tryz.sizeOf226
  v171 := Tryz.zeroValue226
  t173 := Tryz.underlying229
  a173 := Tryz.isAgg229
  z173 := Tryz.sizeOf229
  v173 := Tryz.zeroValue229
  t212 := Tryz.underlying232
  a212 := Tryz.isAgg232
  z212 := Tryz.sizeOf232
  v212 := Tryz.zeroValue232
  t213 := Tryz.underlying233
  a213 := Tryz.isAgg233
  z213 := Tryz.sizeOf233
  t232 := Tryz.underlying236
  a232 := Tryz.isAgg236
  z232 := Tryz.sizeOf236
  v232 := Tryz.zeroValue236
  t233 := Tryz.underlying237
  a233 := Tryz.isAgg237
  z233 := Tryz.sizeOf237
  v233 := Tryz.zeroValue237
  g17 := by kernel_rfl
  g18 := by kernel_rfl
  g19 := by kernel_rfl }
open Go.RowKit Go.Sort Go.Lib in
/-- THE ROAD WITHOUT THE TABLE: 0 <= i < 100: NO PREMISE ON THE WORLD, AND THE WORLD IS AS IT WAS: a row that keeps its argument in that range need list no table ('laid = []'). (LAID: no walk: one application.) -/
theorem Tryz.strconv_Itoa_small (i : Nat) (hi : i < 100) (w : World) :
    Calls Tryz.prog 178 #[.int .i64 i] w fun e w' => e = .returned (.string ⟨(Lib.decDigits i).toArray⟩) ∧ w' = w := Any.strconv_Itoa_small Tryz.lays171 i hi w
def Tryz.lays143_ren : Go.Shelf.Ren := ⟨fun | 143 => 43 | 219 => 79 | 217 => 101 | 225 => 102 | 224 => 103 | 267 => 104 | 266 => 121 | 314 => 122 | n => n, fun | 9 => 9 | 3 => 3 | 4 => 4 | 5 => 5 | 46 => 70 | 146 => 106 | 51 => 105 | n => n, fun | 1 => 0 | n => n⟩
theorem Tryz.lays143 : Go.Proofs.Lays.n143 Tryz.prog Tryz.lays143_ren := {
  mixed := by kernel_rfl
  f143 := Tryz.func43.trans (congrArg some (by kernel_rfl))
  f217 := Tryz.func101.trans (congrArg some (by kernel_rfl))
  f219 := Tryz.func79.trans (congrArg some (by kernel_rfl))
  f224 := Tryz.func103.trans (congrArg some (by kernel_rfl))
  f225 := Tryz.func102.trans (congrArg some (by kernel_rfl))
  f266 := Tryz.func121.trans (congrArg some (by kernel_rfl))
  f267 := Tryz.func104.trans (congrArg some (by kernel_rfl))
  f314 := Tryz.func122.trans (congrArg some (by kernel_rfl))
  t3 := Tryz.underlying3
  a3 := Tryz.isAgg3
  z3 := Tryz.sizeOf3
  v3 := Tryz.zeroValue3
  t4 := Tryz.underlying4
  a4 := Tryz.isAgg4
  z4 := Tryz.sizeOf4
  v4 := Tryz.zeroValue4
  t5 := Tryz.underlying5
  a5 := Tryz.isAgg5
  z5 := Tryz.sizeOf5
  v5 := Tryz.zeroValue5
  t9 := Tryz.underlying9
  a9 := Tryz.isAgg9
  z9 := Tryz.sizeOf9
  v9 := Tryz.zeroValue9
  t46 := Tryz.underlying70
  a46 := Tryz.isAgg70
  z46 := Tryz.sizeOf70
  v46 := Tryz.zeroValue70
  t51 := Tryz.underlying105
  a51 := Tryz.isAgg105
  z51 := Tryz.sizeOf105
  v51 := Tryz.zeroValue105
  t146 := Tryz.underlying106
  a146 := Tryz.isAgg106
  z146 := Tryz.sizeOf106
  v146 := Tryz.zeroValue106
  g1 := by kernel_rfl }
open Go.RowKit Go.Lib in
/-- strings.Index: "Index returns the index of the first instance of substr in s, or -1 if substr is not present in s.": AT A substr OF ONE BYTE c: IT RETURNS 'Lib.indexByte s c'; the world is as it was. (LAID: no walk: one application.) -/
theorem Tryz.strings_Index_one (s : ByteArray) (c : UInt8) (w : World) :
    Calls Tryz.prog 43 #[.string s, .string ⟨#[c]⟩] w fun e w' => e = .returned (.int .i64 (Lib.indexByte s.data.toList c)) ∧ w' = w := Any.strings_Index_one Tryz.lays143 s c w
def Tryz.lays144_ren : Go.Shelf.Ren := ⟨fun | 144 => 81 | 143 => 43 | 219 => 79 | 217 => 101 | 225 => 102 | 224 => 103 | 267 => 104 | 266 => 121 | 314 => 122 | n => n, fun | 9 => 9 | 4 => 4 | 3 => 3 | 5 => 5 | 46 => 70 | 146 => 106 | 51 => 105 | n => n, fun | 1 => 0 | n => n⟩
theorem Tryz.lays144 : Go.Proofs.Lays.n144 Tryz.prog Tryz.lays144_ren := {
  mixed := by kernel_rfl
  f143 := Tryz.func43.trans (congrArg some (by kernel_rfl))
  f144 := Tryz.func81.trans (congrArg some (by kernel_rfl))
  f217 := Tryz.func101.trans (congrArg some (by kernel_rfl))
  f219 := Tryz.func79.trans (congrArg some (by kernel_rfl))
  f224 := Tryz.func103.trans (congrArg some (by kernel_rfl))
  f225 := Tryz.func102.trans (congrArg some (by kernel_rfl))
  f266 := Tryz.func121.trans (congrArg some (by kernel_rfl))
  f267 := Tryz.func104.trans (congrArg some (by kernel_rfl))
  f314 := Tryz.func122.trans (congrArg some (by kernel_rfl))
  t3 := Tryz.underlying3
  a3 := Tryz.isAgg3
  z3 := Tryz.sizeOf3
  v3 := Tryz.zeroValue3
  t4 := Tryz.underlying4
  a4 := Tryz.isAgg4
  z4 := Tryz.sizeOf4
  v4 := Tryz.zeroValue4
  t5 := Tryz.underlying5
  a5 := Tryz.isAgg5
  z5 := Tryz.sizeOf5
  v5 := Tryz.zeroValue5
  t9 := Tryz.underlying9
  a9 := Tryz.isAgg9
  z9 := Tryz.sizeOf9
  v9 := Tryz.zeroValue9
  t46 := Tryz.underlying70
  a46 := Tryz.isAgg70
  z46 := Tryz.sizeOf70
  v46 := Tryz.zeroValue70
  t51 := Tryz.underlying105
  a51 := Tryz.isAgg105
  z51 := Tryz.sizeOf105
  v51 := Tryz.zeroValue105
  t146 := Tryz.underlying106
  a146 := Tryz.isAgg106
  z146 := Tryz.sizeOf106
  v146 := Tryz.zeroValue106
  g1 := by kernel_rfl }
open Go.RowKit Go.Lib in
/-- strings.Contains: "Contains reports whether substr is within s.": AT A substr OF ONE BYTE c: IT RETURNS 'decide (0 ≤ Lib.indexByte s c)'; the world is as it was. (LAID: no walk: one application.) -/
theorem Tryz.strings_Contains_one (s : ByteArray) (c : UInt8) (w : World) :
    Calls Tryz.prog 81 #[.string s, .string ⟨#[c]⟩] w fun e w' => e = .returned (.bool (decide (0 ≤ Lib.indexByte s.data.toList c))) ∧ w' = w := Any.strings_Contains_one Tryz.lays144 s c w
def Tryz.lays105_ren : Go.Shelf.Ren := ⟨fun | 105 => 29 | 212 => 55 | 99 => 56 | 165 => 57 | 166 => 58 | 170 => 59 | 169 => 60 | 263 => 90 | 264 => 91 | 206 => 92 | 240 => 93 | 241 => 94 | 276 => 114 | 277 => 115 | n => n, fun | 9 => 9 | 3 => 3 | 4 => 4 | 20 => 20 | 0 => 0 | 46 => 70 | 109 => 71 | 5 => 5 | 72 => 76 | 76 => 80 | 51 => 105 | 146 => 106 | 53 => 108 | 148 => 109 | 70 => 74 | 37 => 40 | 75 => 79 | 127 => 111 | 164 => 130 | 80 => 83 | n => n, fun | n => n⟩
theorem Tryz.lays105 : Go.Proofs.Lays.n105 Tryz.prog Tryz.lays105_ren := {
  mixed := by kernel_rfl
  f99 := Tryz.func56.trans (congrArg some (by kernel_rfl))
  f105 := Tryz.func29.trans (congrArg some (by kernel_rfl))
  f165 := Tryz.func57.trans (congrArg some (by kernel_rfl))
  f166 := Tryz.func58.trans (congrArg some (by kernel_rfl))
  f169 := Tryz.func60.trans (congrArg some (by kernel_rfl))
  f170 := Tryz.func59.trans (congrArg some (by kernel_rfl))
  f206 := Tryz.func92.trans (congrArg some (by kernel_rfl))
  f212 := Tryz.func55.trans (congrArg some (by kernel_rfl))
  f240 := Tryz.func93.trans (congrArg some (by kernel_rfl))
  f241 := Tryz.func94.trans (congrArg some (by kernel_rfl))
  f263 := Tryz.func90.trans (congrArg some (by kernel_rfl))
  f264 := Tryz.func91.trans (congrArg some (by kernel_rfl))
  f276 := Tryz.func114.trans (congrArg some (by kernel_rfl))
  f277 := Tryz.func115.trans (congrArg some (by kernel_rfl))
  t0 := Tryz.underlying0
  a0 := Tryz.isAgg0
  z0 := Tryz.sizeOf0
  v0 := Tryz.zeroValue0
  t3 := Tryz.underlying3
  a3 := Tryz.isAgg3
  z3 := Tryz.sizeOf3
  v3 := Tryz.zeroValue3
  t4 := Tryz.underlying4
  a4 := Tryz.isAgg4
  z4 := Tryz.sizeOf4
  v4 := Tryz.zeroValue4
  t5 := Tryz.underlying5
  a5 := Tryz.isAgg5
  z5 := Tryz.sizeOf5
  v5 := Tryz.zeroValue5
  t9 := Tryz.underlying9
  a9 := Tryz.isAgg9
  z9 := Tryz.sizeOf9
  v9 := Tryz.zeroValue9
  t20 := Tryz.underlying20
  a20 := Tryz.isAgg20
  z20 := Tryz.sizeOf20
  v20 := Tryz.zeroValue20
  t37 := Tryz.underlying40
  a37 := Tryz.isAgg40
  z37 := Tryz.sizeOf40
  v37 := Tryz.zeroValue40
  t46 := Tryz.underlying70
  a46 := Tryz.isAgg70
  z46 := Tryz.sizeOf70
  v46 := Tryz.zeroValue70
  t51 := Tryz.underlying105
  a51 := Tryz.isAgg105
  z51 := Tryz.sizeOf105
  v51 := Tryz.zeroValue105
  t53 := Tryz.underlying108
  a53 := Tryz.isAgg108
  z53 := Tryz.sizeOf108
  v53 := Tryz.zeroValue108
  t70 := Tryz.underlying74
  a70 := Tryz.isAgg74
  z70 := Tryz.sizeOf74
  v70 := Tryz.zeroValue74
  t72 := Tryz.underlying76
  a72 := Tryz.isAgg76
  z72 := Tryz.sizeOf76
  v72 := Tryz.zeroValue76
  t75 := Tryz.underlying79
  a75 := Tryz.isAgg79
  z75 := Tryz.sizeOf79
  v75 := Tryz.zeroValue79
  t76 := Tryz.underlying80
  a76 := Tryz.isAgg80
  z76 := Tryz.sizeOf80
  v76 := Tryz.zeroValue80
  t109 := Tryz.underlying71
  a109 := Tryz.isAgg71
  z109 := Tryz.sizeOf71
  v109 := Tryz.zeroValue71
  t127 := Tryz.underlying111
  a127 := Tryz.isAgg111
  z127 := Tryz.sizeOf111
  v127 := Tryz.zeroValue111
  t146 := Tryz.underlying106
  a146 := Tryz.isAgg106
  z146 := Tryz.sizeOf106
  v146 := Tryz.zeroValue106
  t148 := Tryz.underlying109
  a148 := Tryz.isAgg109
  z148 := Tryz.sizeOf109
  v148 := Tryz.zeroValue109
  t164 := Tryz.underlying130
  a164 := Tryz.isAgg130
  z164 := Tryz.sizeOf130
  v164 := Tryz.zeroValue130 }
theorem Tryz.Builder_Extra_105 : Builder.Extra Tryz.prog Tryz.lays105_ren := {
  sizeBuilder := by kernel_rfl
  liesBuilder := by kernel_rfl
  t5 := Tryz.underlying5
  a5 := Tryz.isAgg5
  z5 := Tryz.sizeOf5
  v5 := Tryz.zeroValue5
  infoByte := by kernel_rfl
  cellsByte := by kernel_rfl
  sizeByte := by kernel_rfl
  neB5 := by decide }
open Go.RowKit Go.Lib in
/-- **strings.Repeat: count ≥ 0, the result within one allocation: count copies of s.** (LAID: no walk: one application.) -/
theorem Tryz.strings_Repeat (s : ByteArray) (c : Nat) (w : World) (hc : c ≤ 9223372036854775807) (hlen : s.size * c ≤ 140737488355328) :
    Calls Tryz.prog 29 #[.string s, .int .i64 c] w fun e w' => e = .returned (.string ⟨(Lib.repeatL s.data.toList c).toArray⟩) ∧ Below w.heap.size w w' := Any.strings_Repeat Tryz.lays105 Tryz.Builder_Extra_105 s c w hc hlen
end Go.Proofs

/- Plain laws on bytes, lists and rounds: no program in sight. -/
namespace Go.Proofs.YtjmeekceecpemaaGreatDoor.Q
open Go.RowKit Go.Proofs.YtjmeekceecpemaaGreatDoorW.PrintWords Go.Proofs.YtjmeekceecpemaaGreatDoorW.PrintLast Go.Proofs.YtjmeekceecpemaaGreatDoorW.PrintMore

theorem wrap_up (i : Nat) (h : i < 4611686018427387904) : wrap64 ((i : Int) + 1) = ((i + 1 : Nat) : Int) := by unfold wrap64; omega
theorem wrap_dn (i : Nat) (h : i < 4611686018427387904) : wrap64 ((i : Int) - 1) = (i : Int) - 1 := by unfold wrap64; omega
theorem wrap_id (i : Int) (h0 : -4611686018427387904 ≤ i) (h1 : i < 4611686018427387904) : wrap64 i = i := by unfold wrap64; omega
/-- The bytes of a string. -/
def bs (s : ByteArray) : List UInt8 := s.data.toList
theorem bs_len (s : ByteArray) : (bs s).length = s.size := (Lib.size_eq s).symm
theorem bs_mk (l : List UInt8) : bs ⟨l.toArray⟩ = l := rfl
theorem bs_inj {s t : ByteArray} (h : bs s = bs t) : s = t := by rw [← Lib.mk_data s, ← Lib.mk_data t]; exact congrArg _ (congrArg _ h)
theorem bs_toList (s : ByteArray) : s.toList = bs s := Lib.toList_data s
theorem bs_extract (s : ByteArray) (a b : Nat) : bs (s.extract a b) = ((bs s).drop a).take (b - a) := by
  simp [bs, ByteArray.data_extract, Array.toList_extract, List.extract_eq_take_drop]
theorem bs_append (s t : ByteArray) : bs (s ++ t) = bs s ++ bs t := by simp [bs, ByteArray.data_append]
theorem bt_nat (s : ByteArray) (i : Nat) (h : i < (bs s).length) : bt s (i : Int) = ((bs s)[i].toNat : Int) := by
  have h2 : i < s.size := by rw [← bs_len]; exact h
  unfold bt
  simp only [Int.toNat_natCast, dif_pos h2]
  rfl
theorem u8_back (c : UInt8) : ((c.toNat : Int)).toNat.toUInt8 = c := by simp
theorem rd_nat (l : List Int) (i : Nat) (h : i < l.length) : rd l (i : Int) = l[i] := by simp [rd, List.getD, h]
theorem indexByte_iff (l : List UInt8) (c : UInt8) : Lib.indexByte l c < 0 ↔ ¬ c ∈ l := by
  induction l with
  | nil => simp [Lib.indexByte]
  | cons b l ih =>
    have hg := Lib.indexByte_ge l c
    simp only [Lib.indexByte]
    by_cases h : b = c
    · subst h; simp
    · have h1 : (b == c) = false := beq_eq_false_iff_ne.mpr h
      rw [h1]
      simp only [Bool.false_eq_true, if_false, List.mem_cons]
      by_cases h2 : Lib.indexByte l c = -1
      · rw [if_pos (by simp [h2])]
        have : ¬ c ∈ l := ih.1 (by omega)
        simp [this, Ne.symm h]
      · rw [if_neg (by simpa using h2)]
        have h3 : c ∈ l := by
          rcases Classical.em (c ∈ l) with h4 | h4
          · exact h4
          · have := ih.2 h4; omega
        simp [h3]
        omega
theorem indexByte_mem {l : List UInt8} {c : UInt8} (h : c ∈ l) : ∃ o : Nat, Lib.indexByte l c = o ∧ o < l.length ∧ l[o]? = some c ∧ ∀ k, k < o → l[k]? ≠ some c := by
  have hg := Lib.indexByte_ge l c
  have hn : ¬ Lib.indexByte l c < 0 := fun h2 => (indexByte_iff l c).1 h2 h
  obtain ⟨o, ho⟩ := Int.eq_ofNat_of_zero_le (show 0 ≤ Lib.indexByte l c by omega)
  have h1 := Lib.indexByte_some ho
  refine ⟨o, ho, ?_, h1.1, h1.2⟩
  exact (List.getElem?_eq_some_iff.1 h1.1).1
theorem indexByte_not {l : List UInt8} {c : UInt8} (h : ¬ c ∈ l) : Lib.indexByte l c = -1 := by
  have hg := Lib.indexByte_ge l c
  have := (indexByte_iff l c).2 h
  omega
theorem decDigit (d : Nat) (h : d < 10) : Lib.decDigits d = [UInt8.ofNat (48 + d)] := Lib.decDigits_one h
theorem all_u8 {P : UInt8 → Prop} (h : ∀ n, n < 256 → P (UInt8.ofNat n)) (x : UInt8) : P x := by
  have h1 := h x.toNat x.toNat_lt
  rwa [UInt8.ofNat_toNat] at h1
/-- A digit. -/
def isDig (c : UInt8) : Bool := decide (48 ≤ c.toNat) && decide (c.toNat ≤ 57)
abbrev digitsS : ByteArray := ⟨#[48, 49, 50, 51, 52, 53, 54, 55, 56, 57]⟩
set_option maxRecDepth 100000 in
theorem mem_digits (c : UInt8) : decide (c ∈ bs digitsS) = isDig c := all_u8 (P := fun c => decide (c ∈ bs digitsS) = isDig c) (by decide) c
/-- All bytes are digits. -/
def allDig (s : ByteArray) : Bool := (bs s).all isDig
theorem allDig_eq (s : ByteArray) : ((bs s).all fun x => decide (x ∈ bs digitsS)) = allDig s := by
  unfold allDig
  congr 1
  funext c
  exact mem_digits c
end Go.Proofs.YtjmeekceecpemaaGreatDoor.Q

/- The library's string functions as the printed texts call them. -/
namespace Go.Proofs.YtjmeekceecpemaaGreatDoor.Q
open Go.RowKit Go.Proofs.YtjmeekceecpemaaGreatDoorW.PrintWords Go.Proofs.YtjmeekceecpemaaGreatDoorW.PrintLast Go.Proofs.YtjmeekceecpemaaGreatDoorW.PrintMore
set_option linter.unusedVariables false

def strings_IndexByte.f (a0 : ByteArray) (a1 : Int) : Option Int := some (Lib.indexByte (bs a0) a1.toNat.toUInt8)
theorem strings_IndexByte.calls (a0 : ByteArray) (a1 : Int) (r : Int) (w : World) (h : strings_IndexByte.f a0 a1 = some r) :
    Calls Tryz.prog 123 #[.string a0, .int .u8 a1] w fun e w' => e = .returned (.int .i64 r) ∧ Drawn0 w w' := by
  obtain rfl := Option.some.inj h
  exact (Tryz.strings_IndexByte a0 a1 w).mono fun e w' ⟨he, hw⟩ => ⟨he, by subst hw; exact Drawn0.refl _⟩
/-- strings.Trim at an ASCII cutset. -/
def strings_Trim.f (a0 a1 : ByteArray) : Option ByteArray :=
  if a0.size ≤ 9223372036854775807 ∧ a1.size < 4294967281 ∧ (bs a1).all (fun b => decide (b.toNat < 128)) = true then some ⟨(Lib.trimS (bs a0) (bs a1)).toArray⟩ else none
theorem strings_Trim.calls (a0 a1 : ByteArray) (r : ByteArray) (w : World) (h : strings_Trim.f a0 a1 = some r) :
    Calls Tryz.prog 42 #[.string a0, .string a1] w fun e w' => e = .returned (.string r) ∧ Below w.heap.size w w' := by
  unfold strings_Trim.f at h
  by_cases hc : a0.size ≤ 9223372036854775807 ∧ a1.size < 4294967281 ∧ (bs a1).all (fun b => decide (b.toNat < 128)) = true
  · rw [if_pos hc] at h
    obtain rfl := Option.some.inj h
    exact Any.strings_Trim_laid Tryz.lays160 (by kernel_rfl) a0 a1 w hc.1 hc.2.1 (ascii_of_all hc.2.2)
  · rw [if_neg hc] at h
    exact absurd h (by simp)
theorem one_byte {a : ByteArray} {c : UInt8} (h : bs a = [c]) : a = ⟨#[c]⟩ := bs_inj h
/-- strings.Index at a substr of one byte. -/
def strings_Index.f (a0 a1 : ByteArray) : Option Int := match bs a1 with | [c] => some (Lib.indexByte (bs a0) c) | _ => none
theorem strings_Index.calls (a0 a1 : ByteArray) (r : Int) (w : World) (h : strings_Index.f a0 a1 = some r) :
    Calls Tryz.prog 43 #[.string a0, .string a1] w fun e w' => e = .returned (.int .i64 r) ∧ Drawn0 w w' := by
  unfold strings_Index.f at h
  split at h
  · rename_i c hc
    obtain rfl := one_byte hc
    obtain rfl := Option.some.inj h
    exact (Tryz.strings_Index_one a0 c w).mono fun e w' ⟨he, hw⟩ => ⟨he, by subst hw; exact Drawn0.refl _⟩
  · exact absurd h (by simp)
def strings_Contains.f (a0 a1 : ByteArray) : Option Bool := match bs a1 with | [c] => some (decide (0 ≤ Lib.indexByte (bs a0) c)) | _ => none
theorem strings_Contains.calls (a0 a1 : ByteArray) (r : Bool) (w : World) (h : strings_Contains.f a0 a1 = some r) :
    Calls Tryz.prog 81 #[.string a0, .string a1] w fun e w' => e = .returned (.bool r) ∧ Drawn0 w w' := by
  unfold strings_Contains.f at h
  split at h
  · rename_i c hc
    obtain rfl := one_byte hc
    obtain rfl := Option.some.inj h
    exact (Tryz.strings_Contains_one a0 c w).mono fun e w' ⟨he, hw⟩ => ⟨he, by subst hw; exact Drawn0.refl _⟩
  · exact absurd h (by simp)
def strings_Repeat.f (a0 : ByteArray) (a1 : Int) : Option ByteArray :=
  if 0 ≤ a1 ∧ a1 ≤ 9223372036854775807 ∧ a0.size * a1.toNat ≤ 140737488355328 then some ⟨(Lib.repeatL (bs a0) a1.toNat).toArray⟩ else none
theorem strings_Repeat.calls (a0 : ByteArray) (a1 : Int) (r : ByteArray) (w : World) (h : strings_Repeat.f a0 a1 = some r) :
    Calls Tryz.prog 29 #[.string a0, .int .i64 a1] w fun e w' => e = .returned (.string r) ∧ Below w.heap.size w w' := by
  unfold strings_Repeat.f at h
  by_cases hc : 0 ≤ a1 ∧ a1 ≤ 9223372036854775807 ∧ a0.size * a1.toNat ≤ 140737488355328
  · rw [if_pos hc] at h
    obtain rfl := Option.some.inj h
    obtain ⟨n, rfl⟩ := Int.eq_ofNat_of_zero_le hc.1
    rw [Int.toNat_natCast] at hc ⊢
    exact Tryz.strings_Repeat a0 n w (by omega) hc.2.2
  · rw [if_neg hc] at h
    exact absurd h (by simp)
def joinS (l : List ByteArray) (s : ByteArray) : List UInt8 := Lib.join (l.map (·.data.toList)) s.data.toList
def strings_Join.f (l0 : List ByteArray) (a1 : ByteArray) : Option ByteArray :=
  if l0.length ≤ 140737488355328 ∧ (joinS l0 a1).length ≤ 140737488355328 then some ⟨(joinS l0 a1).toArray⟩ else none
theorem strings_Join.calls (A0 : Option Addr) (c0 : Nat) (l0 : List ByteArray) (a1 r : ByteArray) (w : World) (hr0 : Kd.C Kd.string w A0 l0.length l0) (hc0 : l0.length ≤ c0) (h : strings_Join.f l0 a1 = some r) :
    Calls Tryz.prog 64 #[.slice A0 l0.length c0, .string a1] w fun e w' => e = .returned (.string r) ∧ Below w.heap.size w w' := by
  unfold strings_Join.f at h
  by_cases hc : l0.length ≤ 140737488355328 ∧ (joinS l0 a1).length ≤ 140737488355328
  · rw [if_pos hc] at h
    obtain rfl := Option.some.inj h
    by_cases h0 : l0.length = 0
    · obtain rfl : l0 = [] := List.length_eq_zero_iff.1 h0
      refine (Any.strings_Join_none Tryz.lays156 Tryz.Builder_Extra_156 A0 c0 a1 w).mono fun e w' ⟨he, hw⟩ => ⟨he, hw ▸ Below.refl _ _⟩
    · have key : ∀ (j : Nat) x, l0[j]? = some x → ∃ ad, A0 = some ad ∧ w.cell? (ad.add j) = some (.string x) := by
        intro j x hj
        have hjl := (List.getElem?_eq_some_iff.1 hj).1
        obtain ⟨ad, e, hx⟩ := Kd.at_string hr0 (j : Int) (by omega) (by omega)
        refine ⟨ad, e, ?_⟩
        rw [Int.toNat_natCast] at hx
        rw [hx]
        simp [rdOf, List.getD, hj]
      obtain ⟨x0, hx0⟩ : ∃ x, l0[0]? = some x := ⟨l0[0]'(by omega), List.getElem?_eq_getElem (by omega)⟩
      obtain ⟨⟨bk, o, sp⟩, e, hx⟩ := key 0 x0 hx0
      subst e
      have e0 : ((⟨bk, o, sp⟩ : Addr).add 0) = ⟨bk, o, sp⟩ := by simp [Addr.add]
      rw [e0] at hx
      have hsp : sp = none := by
        unfold World.cell? at hx
        split at hx
        · cases sp with
          | none => rfl
          | some _ => simp at hx
        · cases hx
      subst hsp
      refine Tryz.strings_Join bk o c0 l0 a1 w (fun j x hj => ?_) (World.block_lt_of_cell? w _ hx) hc.1 hc0 hc.2
      obtain ⟨ad, e, h2⟩ := key j x hj
      injection e with e
      subst e
      have e1 : ((⟨bk, o, none⟩ : Addr).add j) = ⟨bk, o + j, none⟩ := by rw [Addr.add]; split <;> simp_all
      rw [e1] at h2
      exact h2
  · rw [if_neg hc] at h
    exact absurd h (by simp)
def strconv_Itoa.f (a0 : Int) : Option ByteArray := if 0 ≤ a0 then if a0 < 100 then some ⟨(Lib.decDigits a0.toNat).toArray⟩ else none else none
theorem strconv_Itoa.calls (a0 : Int) (r : ByteArray) (w : World) (h : strconv_Itoa.f a0 = some r) :
    Calls Tryz.prog 178 #[.int .i64 a0] w fun e w' => e = .returned (.string r) ∧ Drawn0 w w' := by
  unfold strconv_Itoa.f at h
  by_cases h0 : 0 ≤ a0
  · by_cases h1 : a0 < 100
    · rw [if_pos h0, if_pos h1] at h
      obtain rfl := Option.some.inj h
      obtain ⟨n, rfl⟩ := Int.eq_ofNat_of_zero_le h0
      rw [Int.toNat_natCast]
      exact (Tryz.strconv_Itoa_small n (by omega) w).mono fun e w' ⟨he, hw⟩ => ⟨he, by subst hw; exact Drawn0.refl _⟩
    · rw [if_pos h0, if_neg h1] at h; exact absurd h (by simp)
  · rw [if_neg h0] at h; exact absurd h (by simp)
end Go.Proofs.YtjmeekceecpemaaGreatDoor.Q

namespace Go.Proofs.YtjmeekceecpemaaGreatDoor.Q
open Go.RowKit Go.Proofs.YtjmeekceecpemaaGreatDoorW.PrintWords Go.Proofs.YtjmeekceecpemaaGreatDoorW.PrintLast Go.Proofs.YtjmeekceecpemaaGreatDoorW.PrintMore

set_option linter.unusedVariables false
set_option linter.unusedSimpArgs false

/-! ### ean_digits: function 27 -/
def ean_digits.f (a0 : ByteArray) : Option (Bool) := (strings_Trim.f a0 (⟨#[48, 49, 50, 51, 52, 53, 54, 55, 56, 57]⟩ : ByteArray)).bind fun t101 => (some (t101.toList == ([] : List UInt8)))
set_option maxHeartbeats 8000000 in
set_option maxRecDepth 100000 in
theorem ean_digits.calls (a0 : ByteArray) (r : Bool) (w : World) (h : ean_digits.f a0 = some r) :
    Calls Tryz.prog 27 #[.string a0] w fun e w' => e = .returned (.bool r) ∧ Below w.heap.size w w' := by
 have HB := Aside0.mk (Below.refl w.heap.size w)
 have H := h
 clear h
 unfold ean_digits.f at H
 replace H := bd H
 obtain ⟨t101, A2, H⟩ := H
 obtain rfl := Option.some.inj H
 go_enter Tryz.func27, Tryz.ntmps27
 go_wp2_with (first | ((with_reducible refine gate_callee (f := 42) rfl ?_); refine goesL_ (some 4) rfl rfl Tryz.func42 kr rfl #[.string a0, .string (⟨#[48, 49, 50, 51, 52, 53, 54, 55, 56, 57]⟩ : ByteArray)] rfl ar ?_; (with_reducible refine (strings_Trim.calls a0 (⟨#[48, 49, 50, 51, 52, 53, 54, 55, 56, 57]⟩ : ByteArray) t101 _ A2.out).mono ?_); rintro e w3 ⟨rfl, hb⟩; refine ⟨_, rfl, ?_⟩; replace HB := Aside0.mk (below_step bw hb); clear hb))
 go_ret
 exact ⟨es, bw⟩

end Go.Proofs.YtjmeekceecpemaaGreatDoor.Q

namespace Go.Proofs.YtjmeekceecpemaaGreatDoor.Q
open Go.RowKit Go.Proofs.YtjmeekceecpemaaGreatDoorW.PrintWords Go.Proofs.YtjmeekceecpemaaGreatDoorW.PrintLast Go.Proofs.YtjmeekceecpemaaGreatDoorW.PrintMore

set_option linter.unusedVariables false
set_option linter.unusedSimpArgs false

/-! ### ean_length: function 47 -/
def ean_length.j0 : Nat → Int → Bool → Option (Int)
  | 0, _, _ => none
  | k + 1, x3, x6 => if x6 = true then (some 8) else (if x3 = 3 then (some 12) else (some 0))
def ean_length.f (k : Nat) (a0 : Int) : Option (Int) := if a0 = 1 then (some 13) else (if a0 = 2 then (ean_length.j0 k a0 (a0 == 2)) else (ean_length.j0 k a0 (a0 == 4)))
theorem ean_length.mono_l : ∀ k, (∀ y0 y1, LeO (ean_length.j0 k y0 y1) (ean_length.j0 (k + 1) y0 y1))
  | 0 => fun _ _ r h => by simp [ean_length.j0] at h
  | k + 1 => by
    have ih0 := ean_length.mono_l k
    · intro y0 y1
      unfold ean_length.j0
      repeat' with_reducible first | exact ih0 _ _ | exact LeO.refl _ | exact LeO.none _ | refine LeO.ite ?_ ?_ | refine LeO.bind ?_ (fun _ => ?_)
theorem ean_length.mono : ∀ a0 k, LeO (ean_length.f k a0) (ean_length.f (k + 1) a0) := by
  intro a0 k
  have ih0 := ean_length.mono_l k
  unfold ean_length.f
  repeat' with_reducible first | exact ih0 _ _ | exact LeO.refl _ | exact LeO.none _ | refine LeO.ite ?_ ?_ | refine LeO.bind ?_ (fun _ => ?_)
set_option maxHeartbeats 8000000 in
set_option maxRecDepth 100000 in
theorem ean_length.calls (k : Nat) (a0 : Int) (r : Int) (w : World) (h : ean_length.f k a0 = some r) :
    Calls Tryz.prog 47 #[.int .i64 a0] w fun e w' => e = .returned (.int .i64 r) ∧ Drawn0 w w' := by
 have H := h
 clear h
 unfold ean_length.f at H
 replace H := ifc H
 obtain ⟨c2, H⟩ | ⟨c2, H⟩ := H
 ·have c2b0 : (a0 == 1) = true := beq_iff_eq.mpr c2
  have c2b1 : (a0 != 1) = false := bne_eq_false_iff_eq.mpr c2
  clear c2
  obtain rfl := Option.some.inj H
  go_enter Tryz.func47, Tryz.ntmps47
  go_wp2
  go_ret
  exact ⟨rs, by repeat (first | exact Drawn0.refl _ | apply Drawn0.step)⟩
 have c2b0 : (a0 == 1) = false := beq_eq_false_iff_ne.mpr c2
 have c2b1 : (a0 != 1) = true := bne_iff_ne.mpr c2
 have HC3 := Aside0.mk H
 clear H
 go_enter Tryz.func47, Tryz.ntmps47
 go_upto_if 6 with (fail)
 go_cut [6] (fun v6 wc => ∃ (kq : Nat) (x6_2 : Bool), v6 = .bool x6_2 ∧ Aside0 (ean_length.j0 kq a0 x6_2 = some r) ∧ Aside0 (kq ≤ k) ∧ Drawn0 w wc)
 case first =>
  have H := HC3.out
  clear HC3
  replace H := ifc H
  obtain ⟨c4, H⟩ | ⟨c4, H⟩ := H
  rotate_left
  ·have c4b0 : (a0 == 2) = false := beq_eq_false_iff_ne.mpr c4
   have c4b1 : (a0 != 2) = true := bne_iff_ne.mpr c4
   (first | rw [c4b0] | (simp only [i64_w]; rw [c4b0]) | skip)
   have H' := Aside0.mk H
   clear H
   go_wp2
   go_meet
   case rel => exact ⟨_, ((a0 == 4)), rs, H', ⟨la⟩, by repeat (first | exact Drawn0.refl _ | apply Drawn0.step)⟩
  have c4b0 : (a0 == 2) = true := beq_iff_eq.mpr c4
  have c4b1 : (a0 != 2) = false := bne_eq_false_iff_eq.mpr c4
  clear c4
  (first | rw [c4b0] | (simp only [i64_w]; rw [c4b0]) | skip)
  have H' := Aside0.mk H
  clear H
  go_wp2
  go_meet
  case rel => exact ⟨_, ((a0 == 2)), rs, H', ⟨la⟩, by repeat (first | exact Drawn0.refl _ | apply Drawn0.step)⟩
 case rest =>
  clear HC3
  try clear c2
  try clear c2b0
  try clear c2b1
  try clear p2
  try clear c4
  try clear c4b0
  try clear c4b1
  obtain ⟨kq, x6_2, rfl, HA, HJ2, ⟨mc2, rfl⟩⟩ := hcut
  cases kq with
  | zero => exact absurd HA.out (by simp [ean_length.j0])
  | succ kj2 =>
   have H := HA.out
   clear HA
   simp only [ean_length.j0] at H
   by_cases c5 : x6_2 = true
   ·subst c5
    rw [if_pos rfl] at H
    obtain rfl := Option.some.inj H
    go_wp2
    go_ret
    exact ⟨rs, by repeat (first | exact Drawn0.refl _ | apply Drawn0.step)⟩
   replace c5 := Bool.eq_false_iff.mpr c5
   subst c5
   rw [if_neg (show ¬ (false = true) by decide)] at H
   replace H := ifc H
   obtain ⟨c6, H⟩ | ⟨c6, H⟩ := H
   rotate_left
   ·have c6b0 : (a0 == 3) = false := beq_eq_false_iff_ne.mpr c6
    have c6b1 : (a0 != 3) = true := bne_iff_ne.mpr c6
    obtain rfl := Option.some.inj H
    go_wp2
    go_ret
    exact ⟨rs, by repeat (first | exact Drawn0.refl _ | apply Drawn0.step)⟩
   have c6b0 : (a0 == 3) = true := beq_iff_eq.mpr c6
   have c6b1 : (a0 != 3) = false := bne_eq_false_iff_eq.mpr c6
   clear c6
   obtain rfl := Option.some.inj H
   go_wp2
   go_ret
   exact ⟨rs, by repeat (first | exact Drawn0.refl _ | apply Drawn0.step)⟩

end Go.Proofs.YtjmeekceecpemaaGreatDoor.Q

namespace Go.Proofs.YtjmeekceecpemaaGreatDoor.Q
open Go.RowKit Go.Proofs.YtjmeekceecpemaaGreatDoorW.PrintWords Go.Proofs.YtjmeekceecpemaaGreatDoorW.PrintLast Go.Proofs.YtjmeekceecpemaaGreatDoorW.PrintMore

set_option linter.unusedVariables false
set_option linter.unusedSimpArgs false

/-! ### ean_expanded: function 51 -/
def ean_expanded.f (a0 : ByteArray) : Option (ByteArray) := if 6 < (a0.size : Int) then (if (bt a0 6) ≤ 50 then (if 0 ≤ 3 then (if 3 ≤ (a0.size : Int) then (if 6 ≤ 7 then (if 7 ≤ (a0.size : Int) then (if (a0.extract 0 3).size + (a0.extract 6 7).size ≤ 9223372036854775807 then (if ((a0.extract 0 3) ++ (a0.extract 6 7)).size + 4 ≤ 9223372036854775807 then (if 3 ≤ 6 then (if 6 ≤ (a0.size : Int) then (if (((a0.extract 0 3) ++ (a0.extract 6 7)) ++ (⟨#[48, 48, 48, 48]⟩ : ByteArray)).size + (a0.extract 3 6).size ≤ 9223372036854775807 then (some ((((a0.extract 0 3) ++ (a0.extract 6 7)) ++ (⟨#[48, 48, 48, 48]⟩ : ByteArray)) ++ (a0.extract 3 6))) else (none)) else (none)) else (none)) else (none)) else (none)) else (none)) else (none)) else (none)) else (none)) else (if (bt a0 6) = 51 then (if 0 ≤ 4 then (if 4 ≤ (a0.size : Int) then (if (a0.extract 0 4).size + 5 ≤ 9223372036854775807 then (if 4 ≤ 6 then (if 6 ≤ (a0.size : Int) then (if ((a0.extract 0 4) ++ (⟨#[48, 48, 48, 48, 48]⟩ : ByteArray)).size + (a0.extract 4 6).size ≤ 9223372036854775807 then (some (((a0.extract 0 4) ++ (⟨#[48, 48, 48, 48, 48]⟩ : ByteArray)) ++ (a0.extract 4 6))) else (none)) else (none)) else (none)) else (none)) else (none)) else (none)) else (if (bt a0 6) = 52 then (if 0 ≤ 5 then (if 5 ≤ (a0.size : Int) then (if (a0.extract 0 5).size + 5 ≤ 9223372036854775807 then (if 5 ≤ 6 then (if 6 ≤ (a0.size : Int) then (if ((a0.extract 0 5) ++ (⟨#[48, 48, 48, 48, 48]⟩ : ByteArray)).size + (a0.extract 5 6).size ≤ 9223372036854775807 then (some (((a0.extract 0 5) ++ (⟨#[48, 48, 48, 48, 48]⟩ : ByteArray)) ++ (a0.extract 5 6))) else (none)) else (none)) else (none)) else (none)) else (none)) else (none)) else (if 0 ≤ 6 then (if 6 ≤ (a0.size : Int) then (if (a0.extract 0 6).size + 4 ≤ 9223372036854775807 then (if 6 ≤ 7 then (if 7 ≤ (a0.size : Int) then (if ((a0.extract 0 6) ++ (⟨#[48, 48, 48, 48]⟩ : ByteArray)).size + (a0.extract 6 7).size ≤ 9223372036854775807 then (some (((a0.extract 0 6) ++ (⟨#[48, 48, 48, 48]⟩ : ByteArray)) ++ (a0.extract 6 7))) else (none)) else (none)) else (none)) else (none)) else (none)) else (none))))) else (none)
set_option maxHeartbeats 8000000 in
set_option maxRecDepth 100000 in
theorem ean_expanded.calls (a0 : ByteArray) (r : ByteArray) (w : World) (h : ean_expanded.f a0 = some r) :
  Calls Tryz.prog 51 #[.string a0] w fun e w' => e = .returned (.string r) ∧ Drawn0 w w' := by
 have H := h
 clear h
 unfold ean_expanded.f at H
 replace H := ifc H
 obtain ⟨c2, H⟩ | ⟨c2, H⟩ := H
 rotate_left
 ·exact absurd H (by simp)
 have c2b0 : decide (6 < (a0.size : Int)) = true := decide_eq_true c2
 have c2b1 : decide (6 < a0.size) = true := decide_eq_true om
 clear c2
 replace H := ifc H
 obtain ⟨c4, H⟩ | ⟨c4, H⟩ := H
 ·have c4b0 : decide ((bt a0 6) ≤ 50) = true := decide_eq_true c4
  clear c4
  replace H := ifn H
  obtain ⟨c5, H⟩ := H
  have c5b0 := eq_true c5
  have c5b1 : decide (0 ≤ 3) = true := decide_eq_true c5
  clear c5
  by_cases c6 : 3 ≤ (a0.size : Int)
  rotate_left
  ·rw [if_neg c6] at H
   exact absurd H (by simp)
  rw [if_pos c6] at H
  have c6b0 := eq_true c6
  have c6b1 : decide (3 ≤ (a0.size : Int)) = true := decide_eq_true c6
  clear c6
  replace H := ifn H
  obtain ⟨c7, H⟩ := H
  have c7b0 := eq_true c7
  have c7b1 : decide (6 ≤ 7) = true := decide_eq_true c7
  clear c7
  by_cases c8 : 7 ≤ (a0.size : Int)
  rotate_left
  ·rw [if_neg c8] at H
   exact absurd H (by simp)
  rw [if_pos c8] at H
  have c8b0 := eq_true c8
  have c8b1 : decide (7 ≤ (a0.size : Int)) = true := decide_eq_true c8
  clear c8
  replace H := ifn H
  obtain ⟨c9, H⟩ := H
  have c9b0 := eq_true c9
  have c9b1 : decide ((a0.extract 0 3).size + (a0.extract 6 7).size ≤ 9223372036854775807) = true := decide_eq_true c9
  by_cases c10 : ((a0.extract 0 3) ++ (a0.extract 6 7)).size + 4 ≤ 9223372036854775807
  rotate_left
  ·rw [if_neg c10] at H
   exact absurd H (by simp)
  rw [if_pos c10] at H
  have c10b0 := eq_true c10
  have c10b1 : decide (((a0.extract 0 3) ++ (a0.extract 6 7)).size + 4 ≤ 9223372036854775807) = true := decide_eq_true c10
  replace H := ifn H
  obtain ⟨c11, H⟩ := H
  have c11b0 := eq_true c11
  have c11b1 : decide (3 ≤ 6) = true := decide_eq_true c11
  clear c11
  by_cases c12 : 6 ≤ (a0.size : Int)
  rotate_left
  ·rw [if_neg c12] at H
   exact absurd H (by simp)
  rw [if_pos c12] at H
  have c12b0 := eq_true c12
  have c12b1 : decide (6 ≤ (a0.size : Int)) = true := decide_eq_true c12
  clear c12
  replace H := ifn H
  obtain ⟨c13, H⟩ := H
  have c13b0 := eq_true c13
  have c13b1 : decide ((((a0.extract 0 3) ++ (a0.extract 6 7)) ++ (⟨#[48, 48, 48, 48]⟩ : ByteArray)).size + (a0.extract 3 6).size ≤ 9223372036854775807) = true := decide_eq_true c13
  obtain rfl := Option.some.inj H
  have p3 : 0 ≤ (6 : Int) := om
  have q3 : 6 < a0.size := (by have : (6 : Int) < (a0.size : Int) := of_decide_eq_true am; omega)
  have hx3 : ∀ h : 6 < a0.size, ((a0[6]'h).toNat : Int) = bt a0 6 := bt_at a0 6
  clear p3
  have qi3 : (6 < (a0.size : Int)) = True := eq_true (of_decide_eq_true am)
  replace q3 := eq_true q3
  go_enter Tryz.func51, Tryz.ntmps51
  go_wp2
  repeat (go_quiet (fail); try go_wp2)
  go_ret
  exact ⟨rs, by repeat (first | exact Drawn0.refl _ | apply Drawn0.step)⟩
 have c4b0 : decide ((bt a0 6) ≤ 50) = false := decide_eq_false c4
 clear c4
 replace H := ifc H
 obtain ⟨c14, H⟩ | ⟨c14, H⟩ := H
 ·have c14b0 : ((bt a0 6) == 51) = true := beq_iff_eq.mpr c14
  have c14b1 : ((bt a0 6) != 51) = false := bne_eq_false_iff_eq.mpr c14
  clear c14
  replace H := ifn H
  obtain ⟨c15, H⟩ := H
  have c15b0 := eq_true c15
  have c15b1 : decide (0 ≤ 4) = true := decide_eq_true c15
  clear c15
  by_cases c16 : 4 ≤ (a0.size : Int)
  rotate_left
  ·rw [if_neg c16] at H
   exact absurd H (by simp)
  rw [if_pos c16] at H
  have c16b0 := eq_true c16
  have c16b1 : decide (4 ≤ (a0.size : Int)) = true := decide_eq_true c16
  clear c16
  replace H := ifn H
  obtain ⟨c17, H⟩ := H
  have c17b0 := eq_true c17
  have c17b1 : decide ((a0.extract 0 4).size + 5 ≤ 9223372036854775807) = true := decide_eq_true c17
  by_cases c18 : 4 ≤ 6
  rotate_left
  ·rw [if_neg c18] at H
   exact absurd H (by simp)
  rw [if_pos c18] at H
  have c18b0 := eq_true c18
  have c18b1 : decide (4 ≤ 6) = true := decide_eq_true c18
  clear c18
  replace H := ifn H
  obtain ⟨c19, H⟩ := H
  have c19b0 := eq_true c19
  have c19b1 : decide (6 ≤ (a0.size : Int)) = true := decide_eq_true c19
  clear c19
  by_cases c20 : ((a0.extract 0 4) ++ (⟨#[48, 48, 48, 48, 48]⟩ : ByteArray)).size + (a0.extract 4 6).size ≤ 9223372036854775807
  rotate_left
  ·rw [if_neg c20] at H
   exact absurd H (by simp)
  rw [if_pos c20] at H
  have c20b0 := eq_true c20
  have c20b1 : decide (((a0.extract 0 4) ++ (⟨#[48, 48, 48, 48, 48]⟩ : ByteArray)).size + (a0.extract 4 6).size ≤ 9223372036854775807) = true := decide_eq_true c20
  obtain rfl := Option.some.inj H
  have p3 : 0 ≤ (6 : Int) := om
  have q3 : 6 < a0.size := (by have : (6 : Int) < (a0.size : Int) := of_decide_eq_true am; omega)
  have hx3 : ∀ h : 6 < a0.size, ((a0[6]'h).toNat : Int) = bt a0 6 := bt_at a0 6
  clear p3
  have qi3 : (6 < (a0.size : Int)) = True := eq_true (of_decide_eq_true am)
  replace q3 := eq_true q3
  go_enter Tryz.func51, Tryz.ntmps51
  go_wp2
  repeat (go_quiet (fail); try go_wp2)
  go_ret
  exact ⟨rs, by repeat (first | exact Drawn0.refl _ | apply Drawn0.step)⟩
 have c14b0 : ((bt a0 6) == 51) = false := beq_eq_false_iff_ne.mpr c14
 have c14b1 : ((bt a0 6) != 51) = true := bne_iff_ne.mpr c14
 replace H := ifc H
 obtain ⟨c21, H⟩ | ⟨c21, H⟩ := H
 rotate_left
 ·have c21b0 : ((bt a0 6) == 52) = false := beq_eq_false_iff_ne.mpr c21
  have c21b1 : ((bt a0 6) != 52) = true := bne_iff_ne.mpr c21
  replace H := ifn H
  obtain ⟨c28, H⟩ := H
  have c28b0 := eq_true c28
  have c28b1 : decide (0 ≤ 6) = true := decide_eq_true c28
  clear c28
  by_cases c29 : 6 ≤ (a0.size : Int)
  rotate_left
  ·rw [if_neg c29] at H
   exact absurd H (by simp)
  rw [if_pos c29] at H
  have c29b0 := eq_true c29
  have c29b1 : decide (6 ≤ (a0.size : Int)) = true := decide_eq_true c29
  clear c29
  replace H := ifn H
  obtain ⟨c30, H⟩ := H
  have c30b0 := eq_true c30
  have c30b1 : decide ((a0.extract 0 6).size + 4 ≤ 9223372036854775807) = true := decide_eq_true c30
  by_cases c31 : 6 ≤ 7
  rotate_left
  ·rw [if_neg c31] at H
   exact absurd H (by simp)
  rw [if_pos c31] at H
  have c31b0 := eq_true c31
  have c31b1 : decide (6 ≤ 7) = true := decide_eq_true c31
  clear c31
  replace H := ifn H
  obtain ⟨c32, H⟩ := H
  have c32b0 := eq_true c32
  have c32b1 : decide (7 ≤ (a0.size : Int)) = true := decide_eq_true c32
  clear c32
  by_cases c33 : ((a0.extract 0 6) ++ (⟨#[48, 48, 48, 48]⟩ : ByteArray)).size + (a0.extract 6 7).size ≤ 9223372036854775807
  rotate_left
  ·rw [if_neg c33] at H
   exact absurd H (by simp)
  rw [if_pos c33] at H
  have c33b0 := eq_true c33
  have c33b1 : decide (((a0.extract 0 6) ++ (⟨#[48, 48, 48, 48]⟩ : ByteArray)).size + (a0.extract 6 7).size ≤ 9223372036854775807) = true := decide_eq_true c33
  obtain rfl := Option.some.inj H
  have p3 : 0 ≤ (6 : Int) := om
  have q3 : 6 < a0.size := (by have : (6 : Int) < (a0.size : Int) := of_decide_eq_true am; omega)
  have hx3 : ∀ h : 6 < a0.size, ((a0[6]'h).toNat : Int) = bt a0 6 := bt_at a0 6
  clear p3
  have qi3 : (6 < (a0.size : Int)) = True := eq_true (of_decide_eq_true am)
  replace q3 := eq_true q3
  go_enter Tryz.func51, Tryz.ntmps51
  go_wp2
  repeat (go_quiet (fail); try go_wp2)
  go_ret
  exact ⟨rs, by repeat (first | exact Drawn0.refl _ | apply Drawn0.step)⟩
 have c21b0 : ((bt a0 6) == 52) = true := beq_iff_eq.mpr c21
 have c21b1 : ((bt a0 6) != 52) = false := bne_eq_false_iff_eq.mpr c21
 clear c21
 replace H := ifn H
 obtain ⟨c22, H⟩ := H
 have c22b0 := eq_true c22
 have c22b1 : decide (0 ≤ 5) = true := decide_eq_true c22
 clear c22
 by_cases c23 : 5 ≤ (a0.size : Int)
 rotate_left
 ·rw [if_neg c23] at H
  exact absurd H (by simp)
 rw [if_pos c23] at H
 have c23b0 := eq_true c23
 have c23b1 : decide (5 ≤ (a0.size : Int)) = true := decide_eq_true c23
 clear c23
 replace H := ifn H
 obtain ⟨c24, H⟩ := H
 have c24b0 := eq_true c24
 have c24b1 : decide ((a0.extract 0 5).size + 5 ≤ 9223372036854775807) = true := decide_eq_true c24
 by_cases c25 : 5 ≤ 6
 rotate_left
 ·rw [if_neg c25] at H
  exact absurd H (by simp)
 rw [if_pos c25] at H
 have c25b0 := eq_true c25
 have c25b1 : decide (5 ≤ 6) = true := decide_eq_true c25
 clear c25
 replace H := ifn H
 obtain ⟨c26, H⟩ := H
 have c26b0 := eq_true c26
 have c26b1 : decide (6 ≤ (a0.size : Int)) = true := decide_eq_true c26
 clear c26
 by_cases c27 : ((a0.extract 0 5) ++ (⟨#[48, 48, 48, 48, 48]⟩ : ByteArray)).size + (a0.extract 5 6).size ≤ 9223372036854775807
 rotate_left
 ·rw [if_neg c27] at H
  exact absurd H (by simp)
 rw [if_pos c27] at H
 have c27b0 := eq_true c27
 have c27b1 : decide (((a0.extract 0 5) ++ (⟨#[48, 48, 48, 48, 48]⟩ : ByteArray)).size + (a0.extract 5 6).size ≤ 9223372036854775807) = true := decide_eq_true c27
 obtain rfl := Option.some.inj H
 have p3 : 0 ≤ (6 : Int) := om
 have q3 : 6 < a0.size := (by have : (6 : Int) < (a0.size : Int) := of_decide_eq_true am; omega)
 have hx3 : ∀ h : 6 < a0.size, ((a0[6]'h).toNat : Int) = bt a0 6 := bt_at a0 6
 clear p3
 have qi3 : (6 < (a0.size : Int)) = True := eq_true (of_decide_eq_true am)
 replace q3 := eq_true q3
 go_enter Tryz.func51, Tryz.ntmps51
 go_wp2
 repeat (go_quiet (fail); try go_wp2)
 go_ret
 exact ⟨rs, by repeat (first | exact Drawn0.refl _ | apply Drawn0.step)⟩

end Go.Proofs.YtjmeekceecpemaaGreatDoor.Q

namespace Go.Proofs.YtjmeekceecpemaaGreatDoor.Q
open Go.RowKit Go.Proofs.YtjmeekceecpemaaGreatDoorW.PrintWords Go.Proofs.YtjmeekceecpemaaGreatDoorW.PrintLast Go.Proofs.YtjmeekceecpemaaGreatDoorW.PrintMore

set_option linter.unusedVariables false
set_option linter.unusedSimpArgs false

/-! ### checkdigit_within: function 113 -/
def checkdigit_within.l0 : Nat → ByteArray → ByteArray → Int → Int → Option (Bool)
  | 0, _, _, _, _ => none
  | k + 1, x0, x1, x7, x8 => if x8 < x7 then (if 0 ≤ x8 then (if x8 < (x0.size : Int) then ((strings_IndexByte.f x1 (bt x0 x8)).bind fun t102 => (if t102 < 0 then (some false) else (checkdigit_within.l0 k x0 x1 x7 (wrap64 (x8 + 1))))) else (none)) else (none)) else (some true)
def checkdigit_within.f (k : Nat) (a0 : ByteArray) (a1 : ByteArray) : Option (Bool) := checkdigit_within.l0 k a0 a1 (a0.size : Int) 0
theorem checkdigit_within.mono_l : ∀ k, (∀ y0 y1 y2 y3, LeO (checkdigit_within.l0 k y0 y1 y2 y3) (checkdigit_within.l0 (k + 1) y0 y1 y2 y3))
  | 0 => fun _ _ _ _ r h => by simp [checkdigit_within.l0] at h
  | k + 1 => by
    have ih0 := checkdigit_within.mono_l k
    · intro y0 y1 y2 y3
      unfold checkdigit_within.l0
      repeat' with_reducible first | exact ih0 _ _ _ _ | exact LeO.refl _ | exact LeO.none _ | refine LeO.ite ?_ ?_ | refine LeO.bind ?_ (fun _ => ?_)
theorem checkdigit_within.mono : ∀ a0 a1 k, LeO (checkdigit_within.f k a0 a1) (checkdigit_within.f (k + 1) a0 a1) := by
  intro a0 a1 k
  have ih0 := checkdigit_within.mono_l k
  unfold checkdigit_within.f
  repeat' with_reducible first | exact ih0 _ _ _ _ | exact LeO.refl _ | exact LeO.none _ | refine LeO.ite ?_ ?_ | refine LeO.bind ?_ (fun _ => ?_)
set_option maxHeartbeats 8000000 in
set_option maxRecDepth 100000 in
theorem checkdigit_within.calls (k : Nat) (a0 : ByteArray) (a1 : ByteArray) (r : Bool) (w : World) (h : checkdigit_within.f k a0 a1 = some r) :
    Calls Tryz.prog 113 #[.string a0, .string a1] w fun e w' => e = .returned (.bool r) ∧ Drawn0 w w' := by
 have H := h
 clear h
 unfold checkdigit_within.f at H
 have H' := Aside0.mk H
 clear H
 go_enter Tryz.func113, Tryz.ntmps113
 go_wp2
 go_loopg [8] k (fun kq v8 w' => ∃ (x8_1 : Int), v8 = .int .i64 x8_1 ∧ Aside0 (checkdigit_within.l0 kq a0 a1 (a0.size : Int) x8_1 = some r) ∧ Aside0 (kq ≤ k) ∧ Drawn0 w w')
 case atStart => exact ⟨(0), rs, H', ⟨Nat.le_refl _⟩, by repeat (first | exact Drawn0.refl _ | apply Drawn0.step)⟩
 case round =>
  clear H'
  try clear c1
  try clear p2
  obtain ⟨x8_1, rfl, HA, HK1, ⟨m1, rfl⟩⟩ := hrel
  cases gk with
  | zero => exact absurd HA.out (by simp [checkdigit_within.l0])
  | succ k1 =>
   have H := HA.out
   clear HA
   simp only [checkdigit_within.l0] at H
   replace H := ifc H
   obtain ⟨c3, H⟩ | ⟨c3, H⟩ := H
   rotate_left
   ·have c3b0 : decide (x8_1 < (a0.size : Int)) = false := decide_eq_false c3
    clear c3
    obtain rfl := Option.some.inj H
    go_wp2
    go_ret
    exact ⟨rs, by repeat (first | exact Drawn0.refl _ | apply Drawn0.step)⟩
   have c3b0 : decide (x8_1 < (a0.size : Int)) = true := decide_eq_true c3
   clear c3
   replace H := ifn H
   obtain ⟨c4, H⟩ := H
   have c4b0 : decide (0 ≤ x8_1) = true := decide_eq_true c4
   clear c4
   by_cases c5 : x8_1 < (a0.size : Int)
   rotate_left
   ·rw [if_neg c5] at H
    exact absurd H (by simp)
   rw [if_pos c5] at H
   have c5b0 : decide (x8_1 < (a0.size : Int)) = true := decide_eq_true c5
   clear c5
   replace H := bd H
   obtain ⟨t102, A7, H⟩ := H
   replace H := ifc H
   obtain ⟨c8, H⟩ | ⟨c8, H⟩ := H
   ·have c8b0 : decide (t102 < 0) = true := decide_eq_true c8
    clear c8
    obtain rfl := Option.some.inj H
    have p6 : 0 ≤ (x8_1 : Int) := of_decide_eq_true am
    have q6 : x8_1 < (a0.size : Int) := of_decide_eq_true am
    have hx6 := bt_at a0 x8_1
    replace p6 := eq_true p6
    replace q6 := eq_true q6
    try have q6s := s1 q6
    go_wp2_with (first | ((with_reducible refine gate_callee (f := 123) rfl ?_); refine goesL_ (some 15) rfl rfl Tryz.func123 kr rfl #[.string a1, .int .u8 (bt a0 x8_1)] rfl ar ?_; (with_reducible refine (strings_IndexByte.calls a1 (bt a0 x8_1) t102 _ A7.out).mono ?_); rintro e w' ⟨rfl, ⟨nd, rfl⟩⟩; refine ⟨_, rfl, ?_⟩))
    go_ret
    exact ⟨rs, by repeat (first | exact Drawn0.refl _ | apply Drawn0.step)⟩
   have c8b0 : decide (t102 < 0) = false := decide_eq_false c8
   clear c8
   have H' := Aside0.mk H
   clear H
   have p6 : 0 ≤ (x8_1 : Int) := of_decide_eq_true am
   have q6 : x8_1 < (a0.size : Int) := of_decide_eq_true am
   have hx6 := bt_at a0 x8_1
   replace p6 := eq_true p6
   replace q6 := eq_true q6
   try have q6s := s1 q6
   go_wp2_with (first | ((with_reducible refine gate_callee (f := 123) rfl ?_); refine goesL_ (some 15) rfl rfl Tryz.func123 kr rfl #[.string a1, .int .u8 (bt a0 x8_1)] rfl ar ?_; (with_reducible refine (strings_IndexByte.calls a1 (bt a0 x8_1) t102 _ A7.out).mono ?_); rintro e w' ⟨rfl, ⟨nd, rfl⟩⟩; refine ⟨_, rfl, ?_⟩))
   go_roundg k1
   case measure => have := HK1.out; omega
   case rel => exact ⟨(wrap64 (x8_1 + 1)), rs, H', ⟨by have := HK1.out; omega⟩, by repeat (first | exact Drawn0.refl _ | apply Drawn0.step)⟩

end Go.Proofs.YtjmeekceecpemaaGreatDoor.Q

namespace Go.Proofs.YtjmeekceecpemaaGreatDoor.Q
open Go.RowKit Go.Proofs.YtjmeekceecpemaaGreatDoorW.PrintWords Go.Proofs.YtjmeekceecpemaaGreatDoorW.PrintLast Go.Proofs.YtjmeekceecpemaaGreatDoorW.PrintMore

set_option linter.unusedVariables false
set_option linter.unusedSimpArgs false

/-! ### checkdigit_backward: function 176 -/
def checkdigit_backward.l0 : Nat → ByteArray → List Int → Int → Option (List Int)
  | 0, _, _, _ => none
  | k + 1, x0, x3, x4 => if x4 ≥ 0 then (if 0 ≤ x4 then (if x4 < (x0.size : Int) then (if x3.length < 17592186044416 then (checkdigit_backward.l0 k x0 (x3 ++ [((bt x0 x4) - 48) % 256]) (wrap64 (x4 - 1))) else (none)) else (none)) else (none)) else (some x3)
def checkdigit_backward.f (k : Nat) (a0 : ByteArray) : Option (List Int) := checkdigit_backward.l0 k a0 ([] : List Int) (wrap64 ((a0.size : Int) - 1))
theorem checkdigit_backward.mono_l : ∀ k, (∀ y0 y1 y2, LeO (checkdigit_backward.l0 k y0 y1 y2) (checkdigit_backward.l0 (k + 1) y0 y1 y2))
  | 0 => fun _ _ _ r h => by simp [checkdigit_backward.l0] at h
  | k + 1 => by
    have ih0 := checkdigit_backward.mono_l k
    · intro y0 y1 y2
      unfold checkdigit_backward.l0
      repeat' first
      | (with_reducible exact ih0 _ _ _)
      | (with_reducible exact LeO.refl _)
      | (with_reducible exact LeO.none _)
      | (with_reducible refine LeO.ite ?_ ?_)
      | (with_reducible refine LeO.bind ?_ (fun _ => ?_))
      | exact ih0 _ _ _
      | exact LeO.none _
      | refine LeO.ite ?_ ?_
      | refine LeO.bind ?_ (fun _ => ?_)
theorem checkdigit_backward.mono : ∀ a0 k, LeO (checkdigit_backward.f k a0) (checkdigit_backward.f (k + 1) a0) := by
  intro a0 k
  have ih0 := checkdigit_backward.mono_l k
  unfold checkdigit_backward.f
  repeat' first
      | (with_reducible exact ih0 _ _ _)
      | (with_reducible exact LeO.refl _)
      | (with_reducible exact LeO.none _)
      | (with_reducible refine LeO.ite ?_ ?_)
      | (with_reducible refine LeO.bind ?_ (fun _ => ?_))
      | exact ih0 _ _ _
      | exact LeO.none _
      | refine LeO.ite ?_ ?_
      | refine LeO.bind ?_ (fun _ => ?_)
set_option maxHeartbeats 8000000 in
set_option maxRecDepth 100000 in
theorem checkdigit_backward.calls (k : Nat) (a0 : ByteArray) (r : List Int) (w : World) (h : checkdigit_backward.f k a0 = some r) :
    Calls Tryz.prog 176 #[.string a0] w fun e w' => ∃ v0_ : Value, e = .returned (v0_) ∧ Kd.R (Kd.int .i64) 3 w' w.heap.size (fun _ => True) v0_ r ∧ Below w.heap.size w w' := by
  have HB := Aside0.mk (Below.refl w.heap.size w)
  have H : (checkdigit_backward.l0 k a0 ([] : List Int) (wrap64 ((a0.size : Int) - 1))) = some r := h
  clear h
  have H' := Aside0.mk H
  clear H
  go_enter Tryz.func176, Tryz.ntmps176
  go_wp2
  go_loopg [3, 4] k (fun kq v3 v4 w' => ∃ (x3_1 : List Int) (x4_1 : Int), v4 = .int .i64 x4_1 ∧ Aside0 (checkdigit_backward.l0 kq a0 x3_1 x4_1 = some r) ∧ Aside0 (kq ≤ k) ∧ Aside0 (Kd.R (Kd.int .i64) 3 w' w.heap.size (fun _ => True) v3 x3_1) ∧ Aside0 (Below w.heap.size w w'))
  case atStart => exact ⟨(([] : List Int)), (wrap64 ((a0.size : Int) - 1)), (by first | rfl | (simp; done) | (simp [*]; done)), H', ⟨Nat.le_refl _⟩, ⟨by first | exact Kd.R_nil _ _ _ _ _ | exact Kd.N_nil _ _ _ _ _ | exact Kd.V_nil _ _ _ _ _ | exact Kd.Q_nil _ _ _ _ _ | exact Kd.S_nil _ _ _ _ _⟩, ⟨by repeat (first | (with_reducible first | exact HB.out | apply below_alloc | apply pw_below_drewN | apply below_drew1) | exact HB.out)⟩⟩
  case round =>
    clear H'
    try clear c1
    obtain ⟨x3_1, x4_1, rfl, HA, HK1, HO_3, HB⟩ := hrel
    cases gk with
    | zero => exact absurd HA.out (by simp [checkdigit_backward.l0])
    | succ k1 =>
      have H := HA.out
      clear HA
      simp only [checkdigit_backward.l0] at H
      by_cases c2 : x4_1 ≥ 0
      · rw [if_pos c2] at H
        have c2b0 : decide (0 ≤ x4_1) = true := decide_eq_true c2
        clear c2
        by_cases c3 : 0 ≤ x4_1
        · rw [if_pos c3] at H
          have c3b0 : decide (0 ≤ x4_1) = true := decide_eq_true c3
          clear c3
          by_cases c4 : x4_1 < (a0.size : Int)
          · rw [if_pos c4] at H
            have c4b0 : decide (x4_1 < (a0.size : Int)) = true := decide_eq_true c4
            clear c4
            by_cases c6 : x3_1.length < 17592186044416
            · rw [if_pos c6] at H
              have LMc6 := Aside0.mk c6
              clear c6
              obtain ⟨y103, hy103⟩ : ∃ y_ : List Int, y_ = (x3_1 ++ [((bt a0 x4_1) - 48) % 256]) := ⟨_, rfl⟩
              replace H : (checkdigit_backward.l0 k1 a0 y103 (wrap64 (x4_1 - 1))) = some r := by first | (rw [hy103]; with_reducible exact H) | (have H2_ := (Option.bind_some _ _).symm.trans H; rw [hy103]; with_reducible exact H2_) | (have H2_ := (Option.bind_some _ _).symm.trans H; with_reducible exact H2_) | with_reducible exact H | (rw [hy103]; exact H) | exact H
              have Ny103 := Aside0.mk hy103
              clear hy103
              have H' := Aside0.mk H
              clear H
              have p5 : 0 ≤ (x4_1 : Int) := of_decide_eq_true (by first | (with_reducible assumption) | assumption)
              have q5 : x4_1 < (a0.size : Int) := of_decide_eq_true (by first | (with_reducible assumption) | assumption)
              have hx5 := bt_at a0 x4_1
              replace p5 := eq_true p5
              replace q5 := eq_true q5
              (try (have h_ := of_eq_true q5; simp only [ByteArray.size_append, ByteArray.size_extract, Nat.min_self, Int.toNat_natCast, Nat.sub_zero, Int.natCast_add, size_lit, List.length_cons, List.length_nil, Nat.zero_add, Nat.reduceAdd, Int.natCast_one, Int.cast_ofNat_Int] at h_; have q5s := eq_true h_; clear h_))
              go_wp2_with (first | ((with_reducible refine gate_builtin (b := .append) (xs := #[.tmp 12, .tmp 18]) rfl ?_); at_builtin; refine Kd.R_append (Kd.int .i64) (w0 := w) w.heap.size rfl (.tmp 12) (.tmp 18) 61 3 (.int .i64 0) 8 rfl Tryz.underlying61 info3 rfl (by decide) (by omega) u3 x3_1 (((bt a0 x4_1) - 48) % 256) [.int .i64 (((bt a0 x4_1) - 48) % 256)] (fun _ => True) (fun _ => False) rfl rfl ?aP (fun _ hk => hk.elim) ?aF ?aO ?aB ?aS ?aL ?_; (case aP => exact rfl); (case aB => exact (by repeat (first | (with_reducible first | exact HB.out | apply below_alloc | apply pw_below_drewN | apply below_drew1) | exact HB.out))); (case aF => exact (fun _ _ => trivial)); (case aO => exact (by (with_reducible repeat (first | apply Kd.R_alloc | apply Kd.R_drewN | apply Kd.R_drew)); exact HO_3.out)); (case aS => exact (below_size (by repeat (first | (with_reducible first | exact HB.out | apply below_alloc | apply pw_below_drewN | apply below_drew1) | exact HB.out)))); (case aL => have := LMc6.out; omega); intro v104 w7 ho hb hg hat; rw [← Ny103.out] at ho; have n0_ := Aside0.mk (hb); have n1_ := Aside0.mk (ho); clear HB; clear HO_3; have HB := n0_; have HO105 := n1_; clear n0_ n1_; clear ho hb hg hat))
              go_roundg k1
              case measure => have := HK1.out; omega
              case rel => exact ⟨(y103), (wrap64 (x4_1 - 1)), (by first | rfl | (simp; done) | (simp [*]; done)), H', ⟨by have := HK1.out; omega⟩, ⟨by (with_reducible repeat (first | apply Kd.R_alloc | apply Kd.R_drewN | apply Kd.R_drew)); exact HO105.out⟩, ⟨by repeat (first | (with_reducible first | exact HB.out | apply below_alloc | apply pw_below_drewN | apply below_drew1) | exact HB.out)⟩⟩
            · rw [if_neg c6] at H
              exact absurd H (by simp)
          · rw [if_neg c4] at H
            exact absurd H (by simp)
        · rw [if_neg c3] at H
          exact absurd H (by simp)
      · rw [if_neg c2] at H
        have c2b0 : decide (0 ≤ x4_1) = false := decide_eq_false c2
        clear c2
        obtain rfl := Option.some.inj H
        go_wp2
        go_ret
        exact ⟨_, by first | rfl | (simp [errW_none, errW_some] <;> rfl) | (simp [*, errW_none, errW_some] <;> rfl), by (with_reducible repeat (first | apply Kd.R_alloc | apply Kd.R_drewN | apply Kd.R_drew)); exact HO_3.out, by repeat (first | (with_reducible first | exact HB.out | apply below_alloc | apply pw_below_drewN | apply below_drew1) | exact HB.out)⟩

end Go.Proofs.YtjmeekceecpemaaGreatDoor.Q

namespace Go.Proofs.YtjmeekceecpemaaGreatDoor.Q
open Go.RowKit Go.Proofs.YtjmeekceecpemaaGreatDoorW.PrintWords Go.Proofs.YtjmeekceecpemaaGreatDoorW.PrintLast Go.Proofs.YtjmeekceecpemaaGreatDoorW.PrintMore

set_option linter.unusedVariables false
set_option linter.unusedSimpArgs false

/-! ### checkdigit_digit: function 177 -/
def checkdigit_digit.f (a0 : Int) : Option (ByteArray) := if a0 = 10 then (some (⟨#[88]⟩ : ByteArray)) else ((strconv_Itoa.f a0).bind fun t106 => (some t106))
set_option maxHeartbeats 8000000 in
set_option maxRecDepth 100000 in
theorem checkdigit_digit.calls (a0 : Int) (r : ByteArray) (w : World) (h : checkdigit_digit.f a0 = some r) :
    Calls Tryz.prog 177 #[.int .i64 a0] w fun e w' => e = .returned (.string r) ∧ Drawn0 w w' := by
  have H : (if a0 = 10 then (some (⟨#[88]⟩ : ByteArray)) else ((strconv_Itoa.f a0).bind fun t106 => (some t106))) = some r := h
  clear h
  by_cases c2 : a0 = 10
  · rw [if_pos c2] at H
    have c2b0 : (a0 == 10) = true := beq_iff_eq.mpr c2
    have c2b1 : (a0 != 10) = false := bne_eq_false_iff_eq.mpr c2
    clear c2
    obtain rfl := Option.some.inj H
    go_enter Tryz.func177, Tryz.ntmps177
    go_wp2
    go_ret
    exact ⟨by first | rfl | (simp; done) | (simp [*]; done), by repeat (first | exact Drawn0.refl _ | apply Drawn0.step)⟩
  · rw [if_neg c2] at H
    have c2b0 : (a0 == 10) = false := beq_eq_false_iff_ne.mpr c2
    have c2b1 : (a0 != 10) = true := bne_iff_ne.mpr c2
    replace H := Option.bind_eq_some_iff.mp H
    obtain ⟨t106, A30, H⟩ := H
    replace H : (some t106) = some r := H
    have A3 := Aside0.mk A30
    clear A30
    obtain rfl := Option.some.inj H
    go_enter Tryz.func177, Tryz.ntmps177
    go_wp2_with (first | ((with_reducible refine gate_callee (f := 178) rfl ?_); refine goesL_ (some 6) rfl rfl Tryz.func178 (by kernel_rfl) rfl #[.int .i64 a0] rfl (by (try simp only [List.map_toArray, List.map_cons, List.map_nil]); first | done | rfl | (simp only [List.length_drop, List.length_take]; rfl)) ?_; (with_reducible refine (strconv_Itoa.calls a0 t106 _ A3.out).mono ?_); rintro e w' ⟨rfl, ⟨nd, rfl⟩⟩; refine ⟨_, rfl, ?_⟩))
    go_ret
    exact ⟨by first | rfl | (simp; done) | (simp [*]; done), by repeat (first | exact Drawn0.refl _ | apply Drawn0.step)⟩

end Go.Proofs.YtjmeekceecpemaaGreatDoor.Q

/- checkdigit.Verify at CheckGS1: what it answers for every string. -/
namespace Go.Proofs.YtjmeekceecpemaaGreatDoor.Q
open Go.RowKit Go.Proofs.YtjmeekceecpemaaGreatDoorW.PrintWords Go.Proofs.YtjmeekceecpemaaGreatDoorW.PrintLast Go.Proofs.YtjmeekceecpemaaGreatDoorW.PrintMore
set_option linter.unusedVariables false
set_option linter.unusedSimpArgs false

abbrev gsys : Value := .iface 153 (.agg #[])
theorem sys_calls (w : World) : Calls Tryz.prog 112 #[.int .i64 1] w fun e w' => e = .returned gsys ∧ w = w' := by
  go_enter Tryz.func112, Tryz.ntmps112
  go_wp2
  go_ret
  exact ⟨rfl, rfl⟩
theorem alphabet_calls (w : World) : Calls Tryz.prog 172 #[.agg #[]] w fun e w' => e = .returned (.string ⟨#[48, 49, 50, 51, 52, 53, 54, 55, 56, 57]⟩) ∧ Below w.heap.size w w' := by
  go_enter Tryz.func172, Tryz.ntmps172
  go_wp2
  go_ret
  exact ⟨rfl, (Below.refl _ _).alloc (Nat.le_refl _) _⟩
theorem length_calls (w : World) : Calls Tryz.prog 174 #[.agg #[]] w fun e w' => e = .returned (.int .i64 0) ∧ Below w.heap.size w w' := by
  go_enter Tryz.func174, Tryz.ntmps174
  go_wp2
  go_ret
  exact ⟨rfl, (Below.refl _ _).alloc (Nat.le_refl _) _⟩
/-- The digits from the right, times 3, 1, 3, .. : the sum of the first k. -/
def gsumTo (l : List Int) : Nat → Int
  | 0 => 0
  | k + 1 => gsumTo l k + (3 - (k : Int) % 2 * 2) * rd l k
theorem gsumTo_bd (l : List Int) (hb : ∀ j, 0 ≤ rd l j ∧ rd l j ≤ 255) : ∀ k : Nat, 0 ≤ gsumTo l k ∧ gsumTo l k ≤ 765 * k
  | 0 => by simp [gsumTo]
  | k + 1 => by
    have ih := gsumTo_bd l hb k
    have h := hb k
    simp only [gsumTo]
    rcases (show (k : Int) % 2 = 0 ∨ (k : Int) % 2 = 1 by omega) with e | e <;> rw [e] <;> omega
theorem gsumTo_even (l : List Int) (k : Nat) (e : (k : Int) % 2 = 0) : gsumTo l (k + 1) = gsumTo l k + 3 * rd l k := by simp only [gsumTo, e]; omega
theorem gsumTo_odd (l : List Int) (k : Nat) (e : (k : Int) % 2 = 1) : gsumTo l (k + 1) = gsumTo l k + rd l k := by simp only [gsumTo, e]; omega
theorem ret_str (a b : ByteArray) (h : a = b) : Ending.returned (.string a) = .returned (.string b) := by rw [h]
set_option maxRecDepth 100000 in
set_option maxHeartbeats 1000000 in
theorem gcheck_calls (k : Nat) (s : ByteArray) (l : List Int) (r : ByteArray) (w : World) (hl : checkdigit_backward.f k s = some l) (hb : ∀ j, 0 ≤ rd l j ∧ rd l j ≤ 255) (hn : l.length ≤ 4096)
    (hr : checkdigit_digit.f (-(gsumTo l l.length % 10) % 10) = some r) :
    Calls Tryz.prog 175 #[.agg #[], .string s] w fun e w' => e = .returned (.string r) ∧ Below w.heap.size w w' := by
  have HL := Lib.hid hl
  have HB := Lib.hid hb
  have HR := Lib.hid hr
  clear hl hb hr
  go_enter Tryz.func175, Tryz.ntmps175
  go_wp2_with fail
  refine (checkdigit_backward.calls k s l _ HL.out).mono ?_
  rintro e w1 ⟨v0, rfl, ho, hbel⟩
  obtain ⟨A, c, rfl, hc, hC⟩ := Kd.R_reads ho
  have HC := Lib.hid hC
  have HBel := Aside0.mk ((Below.refl w.heap.size w).alloc (Nat.le_refl _) (.cells #[] 153) |>.trans ⟨hbel.os, hbel.tape, hbel.output, Nat.le_trans (by simp) hbel.size, fun i hi => hbel.block i (by simp; omega)⟩)
  clear hC ho hbel
  go_wp2_with fail
  go_loop [5, 11] (fun v5 v11 => ∃ k : Nat, k ≤ l.length ∧ v11 = .int .i64 k ∧ v5 = .int .i64 (gsumTo l k)) (fun _ v11 => l.length - (intOf v11).toNat)
  case atStart => exact ⟨0, Nat.zero_le _, rfl, rfl⟩
  case round =>
    obtain ⟨k, hk, rfl, rfl⟩ := hrel
    have bd := gsumTo_bd l HB.out k
    have bk := HB.out k
    have bn := gsumTo_bd l HB.out l.length
    by_cases hlt : k < l.length
    · obtain ⟨ad, hA, hcell⟩ := Kd.at_int HC.out (k : Int) (by omega) (by omega)
      cases hA
      rw [Int.toNat_natCast] at hcell
      rcases (show (k : Int) % 2 = 0 ∨ (k : Int) % 2 = 1 by omega) with e | e
      · have HS := Lib.hid (gsumTo_even l k e)
        go_wp2
        go_round
        case rel => exact ⟨k + 1, by omega, by go_num, by rw [HS.out]⟩
        case measure => simp [intOf]; omega
      · have HS := Lib.hid (gsumTo_odd l k e)
        go_wp2
        go_round
        case rel => exact ⟨k + 1, by omega, by go_num, by rw [HS.out]⟩
        case measure => simp [intOf]; omega
    · obtain rfl : k = l.length := by omega
      go_wp2_with fail
      refine (checkdigit_digit.calls _ r _ HR.out).mono ?_; rintro e w' ⟨rfl, ⟨nd, rfl⟩⟩
      go_wp2
      go_ret
      exact ⟨rfl, by first | exact HBel.out | exact pw_below_drewN HBel.out _⟩
/-- The check character of a text of digits, as Go makes it. -/
def backL (s : ByteArray) : List Int := (bs s).reverse.map fun c => ((c.toNat : Int) - 48) % 256
def gchk (s : ByteArray) : ByteArray := ⟨(Lib.decDigits (-(gsumTo (backL s) (backL s).length % 10) % 10).toNat).toArray⟩
theorem within_l (s c : ByteArray) (hs : s.size < 4611686018427387904) (d : Nat) : ∀ k i : Nat, i + d = (bs s).length → d < k → checkdigit_within.l0 k s c (s.size : Int) i = some (((bs s).drop i).all fun x => decide (x ∈ bs c)) := by
  have hl := bs_len s
  induction d with
  | zero =>
    intro k i h1 h2
    obtain ⟨k, rfl⟩ : ∃ m, k = m + 1 := ⟨k - 1, by omega⟩
    simp only [checkdigit_within.l0]
    rw [if_neg (by omega), List.drop_of_length_le (by omega)]
    rfl
  | succ d ih =>
    intro k i h1 h2
    obtain ⟨k, rfl⟩ : ∃ m, k = m + 1 := ⟨k - 1, by omega⟩
    have hlt : i < (bs s).length := by omega
    have hd : (bs s).drop i = (bs s)[i] :: (bs s).drop (i + 1) := List.drop_eq_getElem_cons hlt
    simp only [checkdigit_within.l0, strings_IndexByte.f, Option.bind_some]
    rw [if_pos (by omega), if_pos (by omega), if_pos (by omega), bt_nat s i hlt, u8_back, hd, List.all_cons]
    by_cases hm : (bs s)[i] ∈ bs c
    · rw [if_neg (fun h => (indexByte_iff _ _).1 h hm), wrap_up i (by omega), ih k (i + 1) (by omega) (by omega)]
      rw [decide_eq_true hm, Bool.true_and]
    · rw [if_pos ((indexByte_iff _ _).2 hm), decide_eq_false hm, Bool.false_and]
theorem within_ok (s c : ByteArray) (hs : s.size < 4611686018427387904) : checkdigit_within.f ((bs s).length + 1) s c = some ((bs s).all fun x => decide (x ∈ bs c)) := by
  have := within_l s c hs (bs s).length ((bs s).length + 1) 0 (by omega) (by omega)
  simpa [checkdigit_within.f] using this
theorem back_l (s : ByteArray) (hs : s.size < 17592186044416) (d : Nat) : ∀ (k : Nat) (acc : List Int), d ≤ (bs s).length → d < k → acc.length + d < 17592186044416 →
    checkdigit_backward.l0 k s acc ((d : Int) - 1) = some (acc ++ ((bs s).take d).reverse.map fun c => ((c.toNat : Int) - 48) % 256) := by
  have hl := bs_len s
  induction d with
  | zero =>
    intro k acc h1 h2 h3
    obtain ⟨k, rfl⟩ : ∃ m, k = m + 1 := ⟨k - 1, by omega⟩
    simp only [checkdigit_backward.l0]
    rw [if_neg (by omega)]
    simp
  | succ d ih =>
    intro k acc h1 h2 h3
    obtain ⟨k, rfl⟩ : ∃ m, k = m + 1 := ⟨k - 1, by omega⟩
    have hlt : d < (bs s).length := by omega
    rw [show (((d + 1 : Nat) : Int) - 1) = (d : Int) by omega]
    simp only [checkdigit_backward.l0]
    rw [if_pos (by omega), if_pos (by omega), if_pos (by omega), if_pos (by omega), bt_nat s d hlt, wrap_dn d (by omega), ih k _ (by omega) (by omega) (by simp; omega)]
    rw [List.take_succ_eq_append_getElem hlt, List.reverse_append, List.reverse_singleton, List.singleton_append, List.map_cons, List.append_assoc]
    rfl
theorem back_ok (s : ByteArray) (hs : s.size < 17592186044416) : checkdigit_backward.f ((bs s).length + 1) s = some (backL s) := by
  have hl := bs_len s
  unfold checkdigit_backward.f
  rw [← hl, wrap_id _ (by omega) (by omega), back_l s hs (bs s).length _ [] (by omega) (by omega) (by simp; omega)]
  rw [List.take_length]
  rfl
theorem backL_bd (s : ByteArray) (j : Int) : 0 ≤ rd (backL s) j ∧ rd (backL s) j ≤ 255 := by
  unfold rd
  rw [List.getD_eq_getElem?_getD]
  cases h : (backL s)[j.toNat]? with
  | none => simp
  | some x =>
    have hm := List.mem_of_getElem? h
    simp only [backL, List.mem_map] at hm
    obtain ⟨c, _, rfl⟩ := hm
    simp only [Option.getD_some]
    omega
theorem backL_len (s : ByteArray) : (backL s).length = s.size := by rw [← bs_len]; simp [backL]
theorem digit_ok (x : Int) : checkdigit_digit.f (-(x % 10) % 10) = some ⟨(Lib.decDigits (-(x % 10) % 10).toNat).toArray⟩ := by
  unfold checkdigit_digit.f strconv_Itoa.f
  rw [if_neg (by omega), if_pos (by omega), if_pos (by omega)]
  rfl
/-- The check of a text of digits: its check character. -/
theorem check_calls (s : ByteArray) (w : World) (hs : s.size ≤ 4096) : Calls Tryz.prog 175 #[.agg #[], .string s] w fun e w' => e = .returned (.string (gchk s)) ∧ Below w.heap.size w w' :=
  gcheck_calls _ s (backL s) _ w (back_ok s (by omega)) (backL_bd s) (by rw [backL_len]; exact hs) (digit_ok _)
end Go.Proofs.YtjmeekceecpemaaGreatDoor.Q

/- checkdigit.Compute at CheckGS1: what it answers for every string. -/
namespace Go.Proofs.YtjmeekceecpemaaGreatDoor.Q
open Go.RowKit Go.Proofs.YtjmeekceecpemaaGreatDoorW.PrintWords Go.Proofs.YtjmeekceecpemaaGreatDoorW.PrintLast Go.Proofs.YtjmeekceecpemaaGreatDoorW.PrintMore
set_option linter.unusedVariables false
set_option linter.unusedSimpArgs false
def checkdigit_Compute.f (a0 : Int) (a1 : ByteArray) : Option (ByteArray × Int) :=
  if a0 = 1 then some (if a1.size = 0 then (⟨#[]⟩, 5) else if 4096 < a1.size then (⟨#[]⟩, 4) else if allDig a1 = true then (gchk a1, 0) else (⟨#[]⟩, 6)) else none
theorem within_calls (s c : ByteArray) (hc : bs c = bs digitsS) (hs : s.size < 4611686018427387904) (W : World) : Calls Tryz.prog 113 #[.string s, .string c] W fun e w' => e = .returned (.bool (allDig s)) ∧ Drawn0 W w' :=
  checkdigit_within.calls _ s c (allDig s) W (by rw [within_ok s c hs, hc, allDig_eq])
set_option maxRecDepth 100000 in
theorem compute_empty (s : ByteArray) (w : World) (h1 : s.size = 0) :
    Calls Tryz.prog 86 #[.int .i64 1, .string s] w fun e w' => e = .returned (.tuple #[.string ⟨#[]⟩, .int .i64 5]) ∧ Below w.heap.size w w' := by
  have h2 : (s.toList == ([] : List UInt8)) = true := by rw [bs_toList]; exact beq_iff_eq.2 (List.length_eq_zero_iff.1 (by rw [bs_len]; exact h1))
  have h3 : s.toList.isEmpty = true := by rw [bs_toList]; exact List.isEmpty_iff.2 (List.length_eq_zero_iff.1 (by rw [bs_len]; exact h1))
  go_enter Tryz.func86, Tryz.ntmps86
  go_wp2_with (first | (go_at_call 112; refine (sys_calls _).mono ?_; rintro e w' ⟨rfl, rfl⟩))
  go_ret2
  exact ⟨rfl, Below.refl _ _⟩
theorem not_empty (s : ByteArray) (h1 : s.size ≠ 0) : s.toList.isEmpty = false := by
  rw [bs_toList]
  exact List.isEmpty_eq_false_iff.2 (fun h => h1 (by rw [← bs_len, h]; rfl))
set_option maxRecDepth 100000 in
theorem compute_long (s : ByteArray) (w : World) (h1 : 4096 < s.size) :
    Calls Tryz.prog 86 #[.int .i64 1, .string s] w fun e w' => e = .returned (.tuple #[.string ⟨#[]⟩, .int .i64 4]) ∧ Below w.heap.size w w' := by
  have h3 := not_empty s (by omega)
  have h2 : decide (4096 < (s.size : Int)) = true := decide_eq_true (by omega)
  go_enter Tryz.func86, Tryz.ntmps86
  go_wp2_with (first | (go_at_call 112; refine (sys_calls _).mono ?_; rintro e w' ⟨rfl, rfl⟩))
  go_ret2
  exact ⟨rfl, Below.refl _ _⟩
set_option maxRecDepth 100000 in
theorem compute_bad (s : ByteArray) (w : World) (h0 : s.size ≠ 0) (h1 : s.size ≤ 4096) (W1 : Hid (∀ W : World, Calls Tryz.prog 113 #[.string s, .string digitsS] W fun e w' => e = .returned (.bool false) ∧ Drawn0 W w')) :
    Calls Tryz.prog 86 #[.int .i64 1, .string s] w fun e w' => e = .returned (.tuple #[.string ⟨#[]⟩, .int .i64 6]) ∧ Below w.heap.size w w' := by
  have hm1 : ∀ w : World, (method 353 153 (.agg #[]) "barscan/checkdigit.alphabet").run Tryz.prog w = .ok (172, .agg #[]) w := fun _ => by kernel_rfl
  have hm3 : ∀ w : World, (method 353 153 (.agg #[]) "barscan/checkdigit.check").run Tryz.prog w = .ok (175, .agg #[]) w := fun _ => by kernel_rfl
  have hm4 : ∀ w : World, (method 353 153 (.agg #[]) "barscan/checkdigit.length").run Tryz.prog w = .ok (174, .agg #[]) w := fun _ => by kernel_rfl
  have h3 := not_empty s h0
  have h2 : decide (4096 < (s.size : Int)) = false := decide_eq_false (by omega)
  go_enter Tryz.func86, Tryz.ntmps86
  go_wp2_with (first | (go_at_call 112; refine (sys_calls _).mono ?_; rintro e w' ⟨rfl, rfl⟩) | (go_at_call 172; refine (alphabet_calls _).mono ?_; rintro e w2 ⟨rfl, hb⟩; have HB := Aside0.mk hb; clear hb) | (go_at_call 113; refine (W1.out _).mono ?_; rintro e w3 ⟨rfl, ⟨nd, rfl⟩⟩))
  go_ret2
  exact ⟨rfl, pw_below_drewN HB.out _⟩
set_option maxRecDepth 100000 in
theorem compute_ok (s : ByteArray) (w : World) (h0 : s.size ≠ 0) (h1 : s.size ≤ 4096) (g : ByteArray) (W1 : Hid (∀ W : World, Calls Tryz.prog 113 #[.string s, .string digitsS] W fun e w' => e = .returned (.bool true) ∧ Drawn0 W w'))
    (CK : Hid (∀ W : World, Calls Tryz.prog 175 #[.agg #[], .string s] W fun e w' => e = .returned (.string g) ∧ Below W.heap.size W w')) :
    Calls Tryz.prog 86 #[.int .i64 1, .string s] w fun e w' => e = .returned (.tuple #[.string g, .int .i64 0]) ∧ Below w.heap.size w w' := by
  have hm1 : ∀ w : World, (method 353 153 (.agg #[]) "barscan/checkdigit.alphabet").run Tryz.prog w = .ok (172, .agg #[]) w := fun _ => by kernel_rfl
  have hm3 : ∀ w : World, (method 353 153 (.agg #[]) "barscan/checkdigit.check").run Tryz.prog w = .ok (175, .agg #[]) w := fun _ => by kernel_rfl
  have hm4 : ∀ w : World, (method 353 153 (.agg #[]) "barscan/checkdigit.length").run Tryz.prog w = .ok (174, .agg #[]) w := fun _ => by kernel_rfl
  have h3 := not_empty s h0
  have h2 : decide (4096 < (s.size : Int)) = false := decide_eq_false (by omega)
  go_enter Tryz.func86, Tryz.ntmps86
  go_wp2_with (first | (go_at_call 112; refine (sys_calls _).mono ?_; rintro e w' ⟨rfl, rfl⟩) | (go_at_call 172; refine (alphabet_calls _).mono ?_; rintro e w2 ⟨rfl, hb⟩; have HB := Aside0.mk hb; clear hb) | (go_at_call 113; refine (W1.out _).mono ?_; rintro e w3 ⟨rfl, ⟨nd, rfl⟩⟩; replace HB := Aside0.mk (pw_below_drewN HB.out nd); generalize World.drewN _ _ = w3 at HB ⊢) | (go_at_call 174; refine (length_calls _).mono ?_; rintro e w4 ⟨rfl, hb⟩; replace HB := Aside0.mk (below_step HB.out hb); clear hb) | (go_at_call 175; refine (CK.out _).mono ?_; rintro e w5 ⟨rfl, hb⟩; replace HB := Aside0.mk (below_step HB.out hb); clear hb))
  go_ret2
  exact ⟨rfl, HB.out⟩
theorem checkdigit_Compute.calls (a0 : Int) (a1 r1 : ByteArray) (r2 : Int) (w : World) (h : checkdigit_Compute.f a0 a1 = some (r1, r2)) :
    Calls Tryz.prog 86 #[.int .i64 a0, .string a1] w fun e w' => e = .returned (.tuple #[.string r1, .int .i64 r2]) ∧ Below w.heap.size w w' := by
  unfold checkdigit_Compute.f at h
  by_cases h0 : a0 = 1
  rotate_left
  · rw [if_neg h0] at h; exact absurd h (by simp)
  subst h0
  rw [if_pos rfl] at h
  replace h := Option.some.inj h
  by_cases h1 : a1.size = 0
  · rw [if_pos h1] at h
    injection h with e1 e2
    subst e1 e2
    exact compute_empty a1 w h1
  rw [if_neg h1] at h
  by_cases h2 : 4096 < a1.size
  · rw [if_pos h2] at h
    injection h with e1 e2
    subst e1 e2
    exact compute_long a1 w h2
  rw [if_neg h2] at h
  have W1 := within_calls a1 digitsS rfl (by omega)
  by_cases h3 : allDig a1 = true
  · rw [if_pos h3] at h
    injection h with e1 e2
    subst e1 e2
    rw [h3] at W1
    exact compute_ok a1 w h1 (by omega) _ (Lib.hid W1) (Lib.hid fun W => check_calls a1 W (by omega))
  · rw [if_neg h3] at h
    injection h with e1 e2
    subst e1 e2
    have h4 : allDig a1 = false := by simpa using h3
    rw [h4] at W1
    exact compute_bad a1 w h1 (by omega) (Lib.hid W1)
end Go.Proofs.YtjmeekceecpemaaGreatDoor.Q

namespace Go.Proofs.YtjmeekceecpemaaGreatDoor.Q
open Go.RowKit Go.Proofs.YtjmeekceecpemaaGreatDoorW.PrintWords Go.Proofs.YtjmeekceecpemaaGreatDoorW.PrintLast Go.Proofs.YtjmeekceecpemaaGreatDoorW.PrintMore

set_option linter.unusedVariables false
set_option linter.unusedSimpArgs false

/-! ### ean_checkDigit: function 48 -/
def ean_checkDigit.f (a0 : Int) (a1 : ByteArray) : Option (ByteArray) := if a0 = 4 then ((ean_expanded.f a1).bind fun t107 => ((checkdigit_Compute.f 1 t107).bind fun bt108 => (some bt108.1))) else ((checkdigit_Compute.f 1 a1).bind fun bt110 => (some bt110.1))
set_option maxHeartbeats 8000000 in
set_option maxRecDepth 100000 in
theorem ean_checkDigit.calls (a0 : Int) (a1 : ByteArray) (r : ByteArray) (w : World) (h : ean_checkDigit.f a0 a1 = some r) :
    Calls Tryz.prog 48 #[.int .i64 a0, .string a1] w fun e w' => e = .returned (.string r) ∧ Below w.heap.size w w' := by
 have HB := Aside0.mk (Below.refl w.heap.size w)
 have H := h
 clear h
 unfold ean_checkDigit.f at H
 replace H := ifc H
 obtain ⟨c3, H⟩ | ⟨c3, H⟩ := H
 rotate_left
 ·have c3b0 : (a0 == 4) = false := beq_eq_false_iff_ne.mpr c3
  have c3b1 : (a0 != 4) = true := bne_iff_ne.mpr c3
  replace H := bd H
  obtain ⟨⟨t110, t111⟩, A7, H⟩ := H
  obtain rfl := Option.some.inj H
  go_enter Tryz.func48, Tryz.ntmps48
  go_wp2_with (first | ((with_reducible refine gate_callee (f := 86) rfl ?_); refine goesL_ (some 13) rfl rfl Tryz.func86 kr rfl #[.int .i64 1, .string a1] rfl ar ?_; (with_reducible refine (checkdigit_Compute.calls 1 a1 t110 t111 _ A7.out).mono ?_); rintro e w8 ⟨rfl, hb⟩; refine ⟨_, rfl, ?_⟩; replace HB := Aside0.mk (below_step bw hb); clear hb))
  go_ret
  exact ⟨es, bw⟩
 have c3b0 : (a0 == 4) = true := beq_iff_eq.mpr c3
 have c3b1 : (a0 != 4) = false := bne_eq_false_iff_eq.mpr c3
 clear c3
 replace H := bd H
 obtain ⟨t107, A4, H⟩ := H
 replace H := bd H
 obtain ⟨⟨t108, t109⟩, A5, H⟩ := H
 obtain rfl := Option.some.inj H
 go_enter Tryz.func48, Tryz.ntmps48
 go_wp2_with (first | ((with_reducible refine gate_callee (f := 51) rfl ?_); refine goesL_ (some 10) rfl rfl Tryz.func51 kr rfl #[.string a1] rfl ar ?_; (with_reducible refine (ean_expanded.calls a1 t107 _ A4.out).mono ?_); rintro e w' ⟨rfl, ⟨nd, rfl⟩⟩; refine ⟨_, rfl, ?_⟩) | ((with_reducible refine gate_callee (f := 86) rfl ?_); refine goesL_ (some 13) rfl rfl Tryz.func86 kr rfl #[.int .i64 1, .string t107] rfl ar ?_; (with_reducible refine (checkdigit_Compute.calls 1 t107 t108 t109 _ A5.out).mono ?_); rintro e w6 ⟨rfl, hb⟩; refine ⟨_, rfl, ?_⟩; replace HB := Aside0.mk (below_step bw hb); clear hb))
 go_ret
 exact ⟨es, bw⟩

end Go.Proofs.YtjmeekceecpemaaGreatDoor.Q

namespace Go.Proofs.YtjmeekceecpemaaGreatDoor.Q
open Go.RowKit Go.Proofs.YtjmeekceecpemaaGreatDoorW.PrintWords Go.Proofs.YtjmeekceecpemaaGreatDoorW.PrintLast Go.Proofs.YtjmeekceecpemaaGreatDoorW.PrintMore

set_option linter.unusedVariables false
set_option linter.unusedSimpArgs false

/-! ### ean_complete: function 26 -/
def ean_complete.j0 : Nat → Int → ByteArray → Int → Bool → Option (Int)
 | 0, _, _, _, _ => none
 | k + 1, x0, x1, x5, x20 => if x20 = true then (some 9) else (if 0 ≤ (wrap64 (x5 - 1)) then (if (wrap64 (x5 - 1)) ≤ (x1.size : Int) then ((ean_checkDigit.f x0 (x1.extract 0 ((wrap64 (x5 - 1)) : Int).toNat)).bind fun t114 => (if t114.toList = (x1.extract ((wrap64 (x5 - 1)) : Int).toNat x1.size).toList then (some 0) else (some 8))) else (none)) else (none))
def ean_complete.f (k : Nat) (a0 : Int) (a1 : ByteArray) : Option (Int) := (ean_length.f k a0).bind fun t112 => (if t112 = 0 then (some 1) else ((ean_digits.f a1).bind fun t113 => (if t113 = true then (if (a1.size : Int) = t112 then (if a0 = 4 then (if 0 < (a1.size : Int) then (ean_complete.j0 k a0 a1 t112 (decide ((bt a1 0) > 49))) else (none)) else (ean_complete.j0 k a0 a1 t112 false)) else (some 7)) else (some 6))))
theorem ean_complete.mono_l : ∀ k, (∀ y0 y1 y2 y3, LeO (ean_complete.j0 k y0 y1 y2 y3) (ean_complete.j0 (k + 1) y0 y1 y2 y3))
 | 0 => fun _ _ _ _ r h => by simp [ean_complete.j0] at h
 | k + 1 => by
  have ih0 := ean_complete.mono_l k
  ·intro y0 y1 y2 y3
   unfold ean_complete.j0
   repeat' with_reducible first | exact ih0 _ _ _ _ | exact ean_length.mono _ _ | exact LeO.refl _ | exact LeO.none _ | refine LeO.ite ?_ ?_ | refine LeO.bind ?_ (fun _ => ?_)
theorem ean_complete.mono : ∀ a0 a1 k, LeO (ean_complete.f k a0 a1) (ean_complete.f (k + 1) a0 a1) := by
 intro a0 a1 k
 have ih0 := ean_complete.mono_l k
 unfold ean_complete.f
 repeat' with_reducible first | exact ih0 _ _ _ _ | exact ean_length.mono _ _ | exact LeO.refl _ | exact LeO.none _ | refine LeO.ite ?_ ?_ | refine LeO.bind ?_ (fun _ => ?_)
def ean_complete.T10 : Bool × List (List Nat × List Nat) := (true, [([], []), ([], []), ([], []), ([2], [2]), ([1, 3], [1, 3]), ([0, 4], [0, 4]), ([], []), ([], []), ([7], [7]), ([6, 8], [6, 8]), ([5, 9], [5, 9]), ([10, 5], [10])])
def ean_complete.B10 : List Nat := [0, 0, 0, 4, 14, 31, 0, 0, 128, 448, 1023, 2047]
theorem ean_complete.tab10 : rtab .any (opsOf Tryz.f26 10) = ean_complete.T10 := kr
theorem ean_complete.bits10 : waitsOk ean_complete.T10.2 ean_complete.B10 = true := kr
set_option maxHeartbeats 8000000 in
set_option maxRecDepth 100000 in
theorem ean_complete.calls (k : Nat) (a0 : Int) (a1 : ByteArray) (r : Int) (w : World) (h : ean_complete.f k a0 a1 = some r) :
  Calls Tryz.prog 26 #[.int .i64 a0, .string a1] w fun e w' => e = .returned (.int .i64 r) ∧ Below w.heap.size w w' := by
 have HB := Aside0.mk (Below.refl w.heap.size w)
 have H := h
 clear h
 unfold ean_complete.f at H
 replace H := bd H
 obtain ⟨t112, A3, H⟩ := H
 replace H := ifc H
 obtain ⟨c4, H⟩ | ⟨c4, H⟩ := H
 ·have c4b0 : (t112 == 0) = true := beq_iff_eq.mpr c4
  have c4b1 : (t112 != 0) = false := bne_eq_false_iff_eq.mpr c4
  clear c4
  obtain rfl := Option.some.inj H
  go_enter Tryz.func26, Tryz.ntmps26
  go_wp2_with (first | ((with_reducible refine gate_callee (f := 47) rfl ?_); refine goesL_ (some 7) rfl rfl Tryz.func47 kr rfl #[.int .i64 a0] rfl ar ?_; (with_reducible refine (ean_length.calls k a0 t112 _ A3.out).mono ?_); rintro e w' ⟨rfl, ⟨nd, rfl⟩⟩; refine ⟨_, rfl, ?_⟩))
  go_ret
  exact ⟨es, bw⟩
 have c4b0 : (t112 == 0) = false := beq_eq_false_iff_ne.mpr c4
 have c4b1 : (t112 != 0) = true := bne_iff_ne.mpr c4
 replace H := bd H
 obtain ⟨t113, A5, H⟩ := H
 by_cases c6 : t113 = true
 rotate_left
 ·replace c6 := Bool.eq_false_iff.mpr c6
  subst c6
  rw [if_neg (show ¬ (false = true) by decide)] at H
  obtain rfl := Option.some.inj H
  go_enter Tryz.func26, Tryz.ntmps26
  go_wp2_with (first | ((with_reducible refine gate_callee (f := 47) rfl ?_); refine goesL_ (some 7) rfl rfl Tryz.func47 kr rfl #[.int .i64 a0] rfl ar ?_; (with_reducible refine (ean_length.calls k a0 t112 _ A3.out).mono ?_); rintro e w' ⟨rfl, ⟨nd, rfl⟩⟩; refine ⟨_, rfl, ?_⟩) | ((with_reducible refine gate_callee (f := 27) rfl ?_); refine goesL_ (some 13) rfl rfl Tryz.func27 kr rfl #[.string a1] rfl ar ?_; (with_reducible refine (ean_digits.calls a1 false _ A5.out).mono ?_); rintro e w26 ⟨rfl, hb⟩; refine ⟨_, rfl, ?_⟩; replace HB := Aside0.mk (below_step bw hb); clear hb))
  go_ret
  exact ⟨es, bw⟩
 subst c6
 rw [if_pos rfl] at H
 replace H := ifc H
 obtain ⟨c7, H⟩ | ⟨c7, H⟩ := H
 rotate_left
 ·have c7b0 : ((a1.size : Int) == t112) = false := beq_eq_false_iff_ne.mpr c7
  have c7b1 : ((a1.size : Int) != t112) = true := bne_iff_ne.mpr c7
  obtain rfl := Option.some.inj H
  go_enter Tryz.func26, Tryz.ntmps26
  go_wp2_with (first | ((with_reducible refine gate_callee (f := 47) rfl ?_); refine goesL_ (some 7) rfl rfl Tryz.func47 kr rfl #[.int .i64 a0] rfl ar ?_; (with_reducible refine (ean_length.calls k a0 t112 _ A3.out).mono ?_); rintro e w' ⟨rfl, ⟨nd, rfl⟩⟩; refine ⟨_, rfl, ?_⟩) | ((with_reducible refine gate_callee (f := 27) rfl ?_); refine goesL_ (some 13) rfl rfl Tryz.func27 kr rfl #[.string a1] rfl ar ?_; (with_reducible refine (ean_digits.calls a1 true _ A5.out).mono ?_); rintro e w25 ⟨rfl, hb⟩; refine ⟨_, rfl, ?_⟩; replace HB := Aside0.mk (below_step bw hb); clear hb))
  go_ret
  exact ⟨es, bw⟩
 have c7b0 : ((a1.size : Int) == t112) = true := beq_iff_eq.mpr c7
 have c7b1 : ((a1.size : Int) != t112) = false := bne_eq_false_iff_eq.mpr c7
 clear c7
 have HC8 := Aside0.mk H
 clear H
 go_enter Tryz.func26, Tryz.ntmps26
 go_upto_region 8 with (first | ((with_reducible refine gate_callee (f := 47) rfl ?_); refine goesL_ (some 7) rfl rfl Tryz.func47 kr rfl #[.int .i64 a0] rfl ar ?_; (with_reducible refine (ean_length.calls k a0 t112 _ A3.out).mono ?_); rintro e w' ⟨rfl, ⟨nd, rfl⟩⟩; refine ⟨_, rfl, ?_⟩) | ((with_reducible refine gate_callee (f := 27) rfl ?_); refine goesL_ (some 13) rfl rfl Tryz.func27 kr rfl #[.string a1] rfl ar ?_; (with_reducible refine (ean_digits.calls a1 true _ A5.out).mono ?_); rintro e w9 ⟨rfl, hb⟩; refine ⟨_, rfl, ?_⟩; replace HB := Aside0.mk (below_step bw hb); clear hb))
 (try simp only [Act.put, List.setIfInBounds_toArray, List.set_cons_zero, List.set_cons_succ])
 go_cut [20] (fun v20 wc => ∃ (kq : Nat) (x20_7 : Bool), v20 = .bool x20_7 ∧ Aside0 (ean_complete.j0 kq a0 a1 t112 x20_7 = some r) ∧ Aside0 (kq ≤ k) ∧ Aside0 (Below w.heap.size w wc))
 case first =>
  have H := HC8.out
  clear HC8
  replace H := ifc H
  obtain ⟨c10, H⟩ | ⟨c10, H⟩ := H
  rotate_left
  ·have c10b0 : (a0 == 4) = false := beq_eq_false_iff_ne.mpr c10
   have c10b1 : (a0 != 4) = true := bne_iff_ne.mpr c10
   (first | rw [c10b0] | (simp only [i64_w]; rw [c10b0]) | skip)
   have H' := Aside0.mk H
   clear H
   go_wp2
   go_meet
   case rel => exact ⟨_, (false), rs, H', ⟨la⟩, ⟨bw⟩⟩
  have c10b0 : (a0 == 4) = true := beq_iff_eq.mpr c10
  have c10b1 : (a0 != 4) = false := bne_eq_false_iff_eq.mpr c10
  clear c10
  (first | rw [c10b0] | (simp only [i64_w]; rw [c10b0]) | skip)
  replace H := ifn H
  obtain ⟨c11, H⟩ := H
  have c11b0 : decide (0 < (a1.size : Int)) = true := decide_eq_true c11
  have c11b1 : decide (0 < a1.size) = true := decide_eq_true om
  clear c11
  have H' := Aside0.mk H
  clear H
  have p12 : 0 ≤ (0 : Int) := om
  have q12 : 0 < a1.size := (by have : (0 : Int) < (a1.size : Int) := of_decide_eq_true am; omega)
  have hx12 : ∀ h : 0 < a1.size, ((a1[0]'h).toNat : Int) = bt a1 0 := bt_at a1 0
  clear p12
  have qi12 : (0 < (a1.size : Int)) = True := eq_true (of_decide_eq_true am)
  replace q12 := eq_true q12
  go_wp2
  go_meet
  case rel => exact ⟨_, (decide ((bt a1 0) > 49)), rs, H', ⟨la⟩, ⟨bw⟩⟩
 case rest =>
  clear HC8
  obtain ⟨kq, x20_7, rfl, HA, HJ7, HB⟩ := hcut
  cases kq with
  | zero => exact absurd HA.out (by simp [ean_complete.j0])
  | succ kj7 =>
   have H := HA.out
   clear HA
   simp only [ean_complete.j0] at H
   by_cases c13 : x20_7 = true
   ·subst c13
    rw [if_pos rfl] at H
    obtain rfl := Option.some.inj H
    go_wp2
    go_ret
    exact ⟨es, bw⟩
   replace c13 := Bool.eq_false_iff.mpr c13
   subst c13
   rw [if_neg (show ¬ (false = true) by decide)] at H
   obtain ⟨ji14, hji14⟩ : ∃ j_ : Int, (wrap64 (t112 - 1)) = j_ := ⟨_, rfl⟩
   replace H : (if 0 ≤ (ji14) then (if (ji14) ≤ (a1.size : Int) then ((ean_checkDigit.f a0 (a1.extract 0 ((ji14) : Int).toNat)).bind fun t114 => (if t114.toList = (a1.extract ((ji14) : Int).toNat a1.size).toList then (some 0) else (some 8))) else (none)) else (none)) = some r := by first | (rw [hji14] at H; exact H) | (simp only [hji14] at H ⊢; exact H)
   have hji14w : (IntKind.i64.wrap (t112 - 1)) = ji14 := (i64_w _).trans hji14
   replace H := ifn H
   obtain ⟨c15, H⟩ := H
   have c15b0 := eq_true c15
   have c15b1 : decide (0 ≤ (ji14)) = true := decide_eq_true c15
   clear c15
   by_cases c16 : (ji14) ≤ (a1.size : Int)
   rotate_left
   ·rw [if_neg c16] at H
    exact absurd H (by simp)
   rw [if_pos c16] at H
   have c16b0 := eq_true c16
   have c16b1 : decide ((ji14) ≤ (a1.size : Int)) = true := decide_eq_true c16
   clear c16
   replace H := bd H
   obtain ⟨t114, A17, H⟩ := H
   have c18b0 := eq_true (of_decide_eq_true am : 0 ≤ (ji14))
   have c19b0 := eq_true (of_decide_eq_true am : (ji14) ≤ (a1.size : Int))
   replace H := ifc H
   obtain ⟨c20, H⟩ | ⟨c20, H⟩ := H
   rotate_left
   ·have c20b0 : (t114.toList == (a1.extract ((ji14) : Int).toNat a1.size).toList) = false := beq_eq_false_iff_ne.mpr c20
    have c20b1 : (t114.toList != (a1.extract ((ji14) : Int).toNat a1.size).toList) = true := bne_iff_ne.mpr c20
    obtain rfl := Option.some.inj H
    try go_wp2
    have n0_ := Aside0.mk (below_drew1 HB.out)
    clear HB
    have HB := n0_
    clear n0_
    refine start_ (n := 12) (S := fun w' => True) (ds := []) #[false, false, false, false, false, false, false, false, false, false, false, false] kr rfl rfl trivial (fun hHeld => ?_); refine with_tabW ean_complete.tab10 ean_complete.bits10 (fun HT_ HW_ => ?_)
    generalize wc.drew = w23 at HB hHeld ⊢
    refine pu HT_ 0 29 (h := ?_)
    refine pu HT_ 1 30 (h := ?_)
    refine pu HT_ 2 31 (h := ?_)
    refine pu HT_ 3 32 (h := ?_)
    refine pu HT_ 4 33 (h := ?_)
    refine pu HT_ 6 35 (h := ?_)
    refine pu HT_ 7 36 (h := ?_)
    refine pu HT_ 8 37 (h := ?_)
    refine pu HT_ 9 38 (h := ?_)
    refine on HT_ 5 34 (h := fun K hK => ?_)
    refine goes_ Tryz.func48 kr rfl #[.int .i64 a0, .string (a1.extract 0 ((ji14) : Int).toNat)] (by rfl) rfl rfl (by (try simp only [List.map_toArray, List.map_cons, List.map_nil]); first | done | (simp only [hji14]; rfl) | rfl | (simp only [List.length_drop, List.length_take]; rfl)) ?_
    with_reducible refine (ean_checkDigit.calls a0 (a1.extract 0 ((ji14) : Int).toNat) t114 _ A17.out).mono ?_
    rintro e w24 ⟨rfl, hb⟩
    refine ⟨_, rfl, ?_⟩
    have n0_ := Aside0.mk (below_step bw hb)
    clear HB
    have HB := n0_
    clear n0_
    (try clear hb)
    (try clear hb2)
    (try clear hk)
    (try clear hi)
    refine hK.out _ _ trivial (fun hHeld => ?_)
    clear hK K
    refine nm (h := ?_)
    refine pu HT_ 10 39 (h := ?_)
    refine pu HT_ 11 28 (h := ?_)
    refine done_ (done_of HT_.out kr) ?_
    try go_wp2
    go_ret
    exact ⟨by first | rfl | (simp [errW_none, errW_some] <;> rfl) | (simp only [← hji14]; first | rfl | (simp [errW_none, errW_some] <;> rfl)) | (simp [*, errW_none, errW_some] <;> rfl), bw⟩
   have c20b0 : (t114.toList == (a1.extract ((ji14) : Int).toNat a1.size).toList) = true := beq_iff_eq.mpr c20
   have c20b1 : (t114.toList != (a1.extract ((ji14) : Int).toNat a1.size).toList) = false := bne_eq_false_iff_eq.mpr c20
   clear c20
   obtain rfl := Option.some.inj H
   try go_wp2
   have n0_ := Aside0.mk (below_drew1 HB.out)
   clear HB
   have HB := n0_
   clear n0_
   refine start_ (n := 12) (S := fun w' => True) (ds := []) #[false, false, false, false, false, false, false, false, false, false, false, false] kr rfl rfl trivial (fun hHeld => ?_); refine with_tabW ean_complete.tab10 ean_complete.bits10 (fun HT_ HW_ => ?_)
   generalize wc.drew = w21 at HB hHeld ⊢
   refine pu HT_ 0 29 (h := ?_)
   refine pu HT_ 1 30 (h := ?_)
   refine pu HT_ 2 31 (h := ?_)
   refine pu HT_ 3 32 (h := ?_)
   refine pu HT_ 4 33 (h := ?_)
   refine pu HT_ 6 35 (h := ?_)
   refine pu HT_ 7 36 (h := ?_)
   refine pu HT_ 8 37 (h := ?_)
   refine pu HT_ 9 38 (h := ?_)
   refine on HT_ 5 34 (h := fun K hK => ?_)
   refine goes_ Tryz.func48 kr rfl #[.int .i64 a0, .string (a1.extract 0 ((ji14) : Int).toNat)] (by rfl) rfl rfl (by (try simp only [List.map_toArray, List.map_cons, List.map_nil]); first | done | (simp only [hji14]; rfl) | rfl | (simp only [List.length_drop, List.length_take]; rfl)) ?_
   with_reducible refine (ean_checkDigit.calls a0 (a1.extract 0 ((ji14) : Int).toNat) t114 _ A17.out).mono ?_
   rintro e w22 ⟨rfl, hb⟩
   refine ⟨_, rfl, ?_⟩
   have n0_ := Aside0.mk (below_step bw hb)
   clear HB
   have HB := n0_
   clear n0_
   (try clear hb)
   (try clear hb2)
   (try clear hk)
   (try clear hi)
   refine hK.out _ _ trivial (fun hHeld => ?_)
   clear hK K
   refine nm (h := ?_)
   refine pu HT_ 10 39 (h := ?_)
   refine pu HT_ 11 28 (h := ?_)
   refine done_ (done_of HT_.out kr) ?_
   try go_wp2
   go_ret
   exact ⟨by first | rfl | (simp [errW_none, errW_some] <;> rfl) | (simp only [← hji14]; first | rfl | (simp [errW_none, errW_some] <;> rfl)) | (simp [*, errW_none, errW_some] <;> rfl), bw⟩

end Go.Proofs.YtjmeekceecpemaaGreatDoor.Q

namespace Go.Proofs.YtjmeekceecpemaaGreatDoor.Q
open Go.RowKit Go.Proofs.YtjmeekceecpemaaGreatDoorW.PrintWords Go.Proofs.YtjmeekceecpemaaGreatDoorW.PrintLast Go.Proofs.YtjmeekceecpemaaGreatDoorW.PrintMore

set_option linter.unusedVariables false
set_option linter.unusedSimpArgs false

/-! ### ean_margins: function 28 -/
def ean_margins.f (a0 : Int) : Option (Int × Int) := if a0 = 1 then (some (11, 7)) else (if a0 = 2 then (some (7, 7)) else (if a0 = 3 then (some (9, 9)) else (some (9, 7))))
set_option maxHeartbeats 8000000 in
set_option maxRecDepth 100000 in
theorem ean_margins.calls (a0 : Int) (r1 : Int) (r2 : Int) (w : World) (h : ean_margins.f a0 = some (r1, r2)) :
    Calls Tryz.prog 28 #[.int .i64 a0] w fun e w' => e = .returned (.tuple #[.int .i64 r1, .int .i64 r2]) ∧ Drawn0 w w' := by
 have H := h
 clear h
 unfold ean_margins.f at H
 replace H := ifc H
 obtain ⟨c2, H⟩ | ⟨c2, H⟩ := H
 ·have c2b0 : (a0 == 1) = true := beq_iff_eq.mpr c2
  have c2b1 : (a0 != 1) = false := bne_eq_false_iff_eq.mpr c2
  clear c2
  simp only [Option.some.injEq, Prod.mk.injEq] at H
  obtain ⟨rfl, rfl⟩ := H
  go_enter Tryz.func28, Tryz.ntmps28
  go_wp2
  go_ret2
  exact ⟨rs, by repeat (first | exact Drawn0.refl _ | apply Drawn0.step)⟩
 have c2b0 : (a0 == 1) = false := beq_eq_false_iff_ne.mpr c2
 have c2b1 : (a0 != 1) = true := bne_iff_ne.mpr c2
 replace H := ifc H
 obtain ⟨c3, H⟩ | ⟨c3, H⟩ := H
 ·have c3b0 : (a0 == 2) = true := beq_iff_eq.mpr c3
  have c3b1 : (a0 != 2) = false := bne_eq_false_iff_eq.mpr c3
  clear c3
  simp only [Option.some.injEq, Prod.mk.injEq] at H
  obtain ⟨rfl, rfl⟩ := H
  go_enter Tryz.func28, Tryz.ntmps28
  go_wp2
  go_ret2
  exact ⟨rs, by repeat (first | exact Drawn0.refl _ | apply Drawn0.step)⟩
 have c3b0 : (a0 == 2) = false := beq_eq_false_iff_ne.mpr c3
 have c3b1 : (a0 != 2) = true := bne_iff_ne.mpr c3
 replace H := ifc H
 obtain ⟨c4, H⟩ | ⟨c4, H⟩ := H
 rotate_left
 ·have c4b0 : (a0 == 3) = false := beq_eq_false_iff_ne.mpr c4
  have c4b1 : (a0 != 3) = true := bne_iff_ne.mpr c4
  simp only [Option.some.injEq, Prod.mk.injEq] at H
  obtain ⟨rfl, rfl⟩ := H
  go_enter Tryz.func28, Tryz.ntmps28
  go_wp2
  go_ret2
  exact ⟨rs, by repeat (first | exact Drawn0.refl _ | apply Drawn0.step)⟩
 have c4b0 : (a0 == 3) = true := beq_iff_eq.mpr c4
 have c4b1 : (a0 != 3) = false := bne_eq_false_iff_eq.mpr c4
 clear c4
 simp only [Option.some.injEq, Prod.mk.injEq] at H
 obtain ⟨rfl, rfl⟩ := H
 go_enter Tryz.func28, Tryz.ntmps28
 go_wp2
 go_ret2
 exact ⟨rs, by repeat (first | exact Drawn0.refl _ | apply Drawn0.step)⟩

end Go.Proofs.YtjmeekceecpemaaGreatDoor.Q

/- What ean.flipped answers. -/
namespace Go.Proofs.YtjmeekceecpemaaGreatDoor.Q
open Go.RowKit Go.Proofs.YtjmeekceecpemaaGreatDoorW.PrintWords Go.Proofs.YtjmeekceecpemaaGreatDoorW.PrintLast Go.Proofs.YtjmeekceecpemaaGreatDoorW.PrintMore
def swapB (x y c : UInt8) : UInt8 := if c = x then y else if c = y then x else c
def ean_flipped.f (a0 a1 a2 : ByteArray) : Option ByteArray :=
  match bs a1, bs a2 with
  | [x], [y] => if a0.size ≤ 1048576 then some ⟨((bs a0).map (swapB x y)).toArray⟩ else none
  | _, _ => none
end Go.Proofs.YtjmeekceecpemaaGreatDoor.Q

/- sync.Once's parts: the lock, the store of 'done', entered as deferred calls. (Lines of the kit's worked proof of toys/lazy, turned to this translation's numbers.) -/
namespace Go.Proofs.YtjmeekceecpemaaGreatDoor.Once
open Go.RowKit
theorem disable (w : World) : (callFunc 140 #[]).run Tryz.prog w = .ok (.value (.tuple #[])) w := run_call_mark0 Tryz.func140 (by kernel_rfl) (by kernel_rfl) (by kernel_rfl) .disable (by kernel_rfl) w
theorem enable (w : World) : (callFunc 142 #[]).run Tryz.prog w = .ok (.value (.tuple #[])) w := run_call_mark0 Tryz.func142 (by kernel_rfl) (by kernel_rfl) (by kernel_rfl) .enable (by kernel_rfl) w
theorem acquire (a : Addr) (w : World) : (callFunc 143 #[.pointer (some a)]).run Tryz.prog w = .ok (.value (.tuple #[])) w := run_call_marked Tryz.func143 (by kernel_rfl) (by kernel_rfl) (by kernel_rfl) .acquire (by kernel_rfl) a w
theorem releaseMerge (a : Addr) (w : World) : (callFunc 145 #[.pointer (some a)]).run Tryz.prog w = .ok (.value (.tuple #[])) w := run_call_marked Tryz.func145 (by kernel_rfl) (by kernel_rfl) (by kernel_rfl) .releaseMerge (by kernel_rfl) a w

set_option maxRecDepth 100000 in
set_option maxHeartbeats 1600000 in
/-- '(*sync/atomic.Bool).Store(true)', ENTERED AS A DEFERRED CALL: the cell holds 1. -/
theorem store_deferred (a : Addr) (x : Value) (u : FrameMode) (w : World) (hc : w.cell? a = some x) (hz : w.frozen? a = false) :
    CallsD Tryz.prog 131 #[.pointer (some a), .bool true] u w fun e u' w' => u' = u ∧ (e = .returned (.tuple #[]) ∧ w' = w.drew.setCell a (.int .u32 1)) := by
  have hc' : w.drew.cell? a = some x := by go_simp
  have hz' : w.drew.frozen? a = false := by go_simp
  have hst := run_call_store (P := Tryz.prog) Tryz.func136 (by kernel_rfl) (by kernel_rfl) (by kernel_rfl) (by kernel_rfl) (k := .u32) (y := 1) hc' hz'
  go_enter_d Tryz.func131, Tryz.ntmps131
  go_wp2
  go_region_calls
  all_goals (go_end0; exact ⟨rfl, rfl⟩)

set_option maxRecDepth 100000 in
set_option maxHeartbeats 1600000 in
/-- '(*sync.Mutex).Unlock', ENTERED AS A DEFERRED CALL, the lock held and nobody waiting (state 1): state 0. -/
theorem unlock_deferred (a : Addr) (u : FrameMode) (w : World) (hc : w.cell? a = some (.int .i32 1)) (hz : w.frozen? a = false) :
    CallsD Tryz.prog 130 #[.pointer (some a)] u w fun e u' w' => u' = u ∧ (e = .returned (.tuple #[]) ∧ w' = w.setCell a (.int .i32 0)) := by
  have hd := disable
  have he := enable
  have hr := releaseMerge
  have hadd := run_call_add (P := Tryz.prog) Tryz.func146 (by kernel_rfl) (by kernel_rfl) (by kernel_rfl) .i32 (by kernel_rfl) (y := -1) (s := 0) hc hz (by simp [go_sem]; rfl)
  have hcv := run_convert_to_unsafe (P := Tryz.prog) (src := 198) (dst := 130) Tryz.underlying198 Tryz.underlying130 (by kernel_rfl) hc
  go_enter_d Tryz.func130, Tryz.ntmps130
  go_wp2
  go_end0
  go_wp2
  go_end0
  exact ⟨rfl, rfl⟩

set_option maxRecDepth 100000 in
set_option maxHeartbeats 1600000 in
/-- '(*sync.Mutex).Lock', the lock free (state 0): state 1. A CONTRACT, to be met at the call ('go_at_call 9'). -/
theorem lock_free (a : Addr) (w : World) (hc : w.cell? a = some (.int .i32 0)) (hz : w.frozen? a = false) :
    Calls Tryz.prog 129 #[.pointer (some a)] w fun e w' => e = .returned (.tuple #[]) ∧ w' = w.setCell a (.int .i32 1) := by
  have hd := disable
  have he := enable
  have ha := acquire
  have hcas := run_call_cas_hit (P := Tryz.prog) Tryz.func141 (by kernel_rfl) (by kernel_rfl) (by kernel_rfl) .i32 (by kernel_rfl) (y := 1) hc hz
  have hc' : (w.setCell a (.int .i32 1)).cell? a = some (.int .i32 1) := World.cell?_setCell_same w a _ hc
  have hcv := run_convert_to_unsafe (P := Tryz.prog) (src := 198) (dst := 130) Tryz.underlying198 Tryz.underlying130 (by kernel_rfl) hc'
  go_enter Tryz.func129, Tryz.ntmps129
  go_wp2
  first | go_end0 | (simp only [Exit.inBlock, Exit.then]; refine bodyPost_ret (results_none rfl _ _ _) rfl ?_) | refine bodyPost_ret (results_none rfl _ _ _) rfl ?_
  go_wp2
  go_end0
  exact ⟨rfl, rfl⟩
end Go.Proofs.YtjmeekceecpemaaGreatDoor.Once

/- sync.Once.Do, not yet done and the lock free, over a contract of what is done. (After the kit's worked proof of toys/lazy.) -/
namespace Go.Proofs.YtjmeekceecpemaaGreatDoor.Once
open Go.RowKit
abbrev doing (g : Nat) : Value := .func (.func 117) #[.pointer (some ⟨g, 0, none⟩)] #[]
theorem load_calls (a : Addr) (w : World) (h : w.cell? a = some (.int .u32 0)) : Calls Tryz.prog 124 #[.pointer (some a)] w fun e w' => e = .returned (.bool false) ∧ w' = w := by
  have hl := run_call_load (P := Tryz.prog) Tryz.func128 (by kernel_rfl) (by kernel_rfl) (by kernel_rfl) .u32 (by kernel_rfl) h
  go_enter Tryz.func124, Tryz.ntmps124
  go_wp2
  go_ret
  exact ⟨rfl, rfl⟩
set_option maxRecDepth 100000 in
set_option maxHeartbeats 1600000 in
theorem slow (g : Nat) (R : World → Prop) (w : World) (h0 : w.cell? ⟨g, 0, none⟩ = some (.int .u32 0)) (h1 : w.cell? ⟨g, 1, none⟩ = some (.int .i32 0)) (f1 : w.frozen? ⟨g, 1, none⟩ = false)
    (CB : Calls Tryz.prog 117 #[.pointer (some ⟨g, 0, none⟩)] (w.setCell ⟨g, 1, none⟩ (.int .i32 1)) fun e w' => e = .returned (.tuple #[]) ∧ R w')
    (hR : ∀ w', R w' → w'.cell? ⟨g, 0, none⟩ = some (.int .u32 0) ∧ w'.cell? ⟨g, 1, none⟩ = some (.int .i32 1) ∧ w'.frozen? ⟨g, 0, none⟩ = false ∧ w'.frozen? ⟨g, 1, none⟩ = false) :
    Calls Tryz.prog 125 #[.pointer (some ⟨g, 0, none⟩), doing g] w fun e w' => e = .returned (.tuple #[]) ∧ ∃ w2, R w2 ∧ w' = (w2.drew.setCell ⟨g, 0, none⟩ (.int .u32 1)).setCell ⟨g, 1, none⟩ (.int .i32 0) := by
  have hl0 : (w.setCell ⟨g, 1, none⟩ (.int .i32 1)).cell? ⟨g, 0, none⟩ = some (.int .u32 0) := ((World.cell?_setCell_other _ ⟨g, 1, none⟩ ⟨g, 0, none⟩ _ (by simp)).trans h0)
  have hnot : ∀ (x : Bool) (w : World), (Op.unary .not (.bool x)).run Tryz.prog w = .ok (.bool (!x)) w := fun _ _ => rfl
  go_enter_defers Tryz.func125, Tryz.ntmps125
  go_wp2_with (first | (go_at_call 129; refine (lock_free ⟨g, 1, none⟩ _ (by go_simp) (by go_simp)).mono ?_; rintro e w' ⟨rfl, rfl⟩) | (go_at_call 124; refine (load_calls ⟨g, 0, none⟩ _ hl0).mono ?_; rintro e w' ⟨rfl, rfl⟩) | (go_at_call 117; refine CB.mono ?_; rintro e w2 ⟨rfl, hr⟩))
  obtain ⟨r0, r1, r2, r3⟩ := hR w2 hr
  refine leaves_cons (f := 131) (args := #[.pointer (some ⟨g, 0, none⟩), .bool true]) (by simp) (by simp [go_sem]) ?_
  refine (store_deferred ⟨g, 0, none⟩ (.int .u32 0) .returning _ r0 r2).mono ?_
  rintro e u' w'' ⟨rfl, rfl, rfl⟩
  refine leaves_cons (f := 130) (args := #[.pointer (some ⟨g, 1, none⟩)]) (by simp [settle]) (by simp [go_sem]) ?_
  refine (unlock_deferred ⟨g, 1, none⟩ _ _ ?_ ?_).mono ?_
  · refine (World.cell?_setCell_other _ ⟨g, 0, none⟩ ⟨g, 1, none⟩ _ (by simp)).trans ?_
    rw [World.cell?_drew]
    exact r1
  · simp [r3]
  rintro e u' w'' ⟨rfl, rfl, rfl⟩
  simp [Leaves, settle, results, Tryz.results125]
  exact ⟨w2, hr, rfl⟩
set_option maxRecDepth 100000 in
set_option maxHeartbeats 1600000 in
theorem once_do (g : Nat) (R : World → Prop) (w : World) (h0 : w.cell? ⟨g, 0, none⟩ = some (.int .u32 0)) (h1 : w.cell? ⟨g, 1, none⟩ = some (.int .i32 0)) (f1 : w.frozen? ⟨g, 1, none⟩ = false)
    (CB : Calls Tryz.prog 117 #[.pointer (some ⟨g, 0, none⟩)] (w.setCell ⟨g, 1, none⟩ (.int .i32 1)) fun e w' => e = .returned (.tuple #[]) ∧ R w')
    (hR : ∀ w', R w' → w'.cell? ⟨g, 0, none⟩ = some (.int .u32 0) ∧ w'.cell? ⟨g, 1, none⟩ = some (.int .i32 1) ∧ w'.frozen? ⟨g, 0, none⟩ = false ∧ w'.frozen? ⟨g, 1, none⟩ = false) :
    Calls Tryz.prog 116 #[.pointer (some ⟨g, 0, none⟩), doing g] w fun e w' => e = .returned (.tuple #[]) ∧ ∃ w2, R w2 ∧ w' = (w2.drew.setCell ⟨g, 0, none⟩ (.int .u32 1)).setCell ⟨g, 1, none⟩ (.int .i32 0) := by
  have hnot : ∀ (x : Bool) (w : World), (Op.unary .not (.bool x)).run Tryz.prog w = .ok (.bool (!x)) w := fun _ _ => rfl
  go_enter Tryz.func116, Tryz.ntmps116
  go_wp2_with (first | (go_at_call 124; refine (load_calls ⟨g, 0, none⟩ _ h0).mono ?_; rintro e w' ⟨rfl, rfl⟩) | (go_at_call 125; refine (slow g R _ h0 h1 f1 CB hR).mono ?_; rintro e w3 ⟨rfl, hw⟩))
  go_end0
  exact ⟨rfl, hw⟩
end Go.Proofs.YtjmeekceecpemaaGreatDoor.Once

/- (*strings.Replacer).build at two bytes exchanged: the table of 256 bytes. -/
namespace Go.Proofs.YtjmeekceecpemaaGreatDoor.Once
open Go.RowKit Go.Proofs.YtjmeekceecpemaaGreatDoorW.PrintWords Go.Proofs.YtjmeekceecpemaaGreatDoorW.PrintLast Go.Proofs.YtjmeekceecpemaaGreatDoorW.PrintMore
set_option linter.unusedVariables false
/-- What the byte i becomes. -/
def swapN (x y : UInt8) (i : Nat) : Int := if i = x.toNat then (y.toNat : Int) else if i = y.toNat then (x.toNat : Int) else (i : Int)
/-- The table at block G. -/
def TabAt (W : World) (G : Nat) (T : Nat → Int) : Prop := ∃ cur : Array Value, W.heap[G]? = some (.cells cur 178 (0, 0)) ∧ ∀ i : Nat, i < 256 → cur[i]? = some (.int .u8 (T i))
theorem TabAt.cell {W : World} {G : Nat} {T : Nat → Int} (h : TabAt W G T) (i : Nat) (hi : i < 256) : W.cell? ⟨G, i, none⟩ = some (.int .u8 (T i)) := by
  obtain ⟨cur, h1, h2⟩ := h
  rw [Lib.cell_of_heap h1 i]
  exact h2 i hi
theorem TabAt.thaw {W : World} {G : Nat} {T : Nat → Int} (h : TabAt W G T) (i : Nat) : W.frozen? ⟨G, i, none⟩ = false := by
  obtain ⟨cur, h1, h2⟩ := h
  unfold World.frozen?
  simp only [h1]
  simp
theorem TabAt.set {W : World} {G : Nat} {T : Nat → Int} (h : TabAt W G T) (i : Nat) (hi : i < 256) (v : Int) : TabAt (W.setCell ⟨G, i, none⟩ (.int .u8 v)) G (fun k => if k = i then v else T k) := by
  obtain ⟨cur, h1, h2⟩ := h
  refine ⟨cur.setIfInBounds i (.int .u8 v), ?_, fun k hk => ?_⟩
  · unfold World.setCell
    simp only [Option.isSome_none, Bool.false_eq_true, if_false]
    rw [Array.getElem?_modify, if_pos rfl, h1]
    rfl
  · rw [Array.getElem?_setIfInBounds]
    have hs := (Array.getElem?_eq_some_iff.1 (h2 i hi)).1
    by_cases e : i = k
    · subst e
      rw [if_pos rfl, if_pos hs]
      simp
    · rw [if_neg e, h2 k hk]
      simp [Ne.symm e]
theorem TabAt.congr {W : World} {G : Nat} {T T' : Nat → Int} (h : TabAt W G T) (e : ∀ i, i < 256 → T i = T' i) : TabAt W G T' := by
  obtain ⟨cur, h1, h2⟩ := h
  exact ⟨cur, h1, fun i hi => by rw [h2 i hi, e i hi]⟩
theorem TabAt.drewN {W : World} {G : Nat} {T : Nat → Int} (h : TabAt W G T) (n : Nat) : TabAt (W.drewN n) G T := h
theorem TabAt.lt {W : World} {G : Nat} {T : Nat → Int} (h : TabAt W G T) : G < W.heap.size := by
  obtain ⟨cur, h1, _⟩ := h
  exact (Array.getElem?_eq_some_iff.1 h1).1
theorem zero_cells (W : World) : TabAt (W.alloc (.cells Tryz.zeroCells178 178)) W.heap.size (fun _ => 0) := by
  refine ⟨Tryz.zeroCells178, ?_, fun i hi => ?_⟩
  · show (W.heap.push _)[W.heap.size]? = _
    simp
  · have e : Tryz.zeroCells178 = Array.replicate 256 (.int .u8 0) := by kernel_rfl
    rw [e]
    simp [hi]
theorem zero_store (W : World) : Sem.run Tryz.prog (storeCells ⟨W.heap.size, 0, none⟩ Tryz.zeroCells178.toList) (W.alloc (.cells Tryz.zeroCells178 178)) = .ok () (W.alloc (.cells Tryz.zeroCells178 178)) :=
  run_storeCells_new W _ _ _ (by kernel_rfl) rfl (by kernel_rfl)
theorem len1 (x : UInt8) : (⟨#[x]⟩ : ByteArray).size = 1 := rfl
set_option maxRecDepth 100000 in
set_option maxHeartbeats 1600000 in
theorem build_calls (g h cap : Nat) (x y : UInt8) (w : World) (h4 : w.cell? ⟨g, 4, none⟩ = some (.slice (some ⟨h, 0, none⟩) 4 cap))
    (e0 : w.cell? ⟨h, 0, none⟩ = some (.string ⟨#[x]⟩)) (e1 : w.cell? ⟨h, 1, none⟩ = some (.string ⟨#[y]⟩)) (e2 : w.cell? ⟨h, 2, none⟩ = some (.string ⟨#[y]⟩)) (e3 : w.cell? ⟨h, 3, none⟩ = some (.string ⟨#[x]⟩)) :
    Calls Tryz.prog 126 #[.pointer (some ⟨g, 0, none⟩)] w fun e w' => e = .returned (.iface 179 (.pointer (some ⟨w.heap.size, 0, none⟩))) ∧ Below w.heap.size w w' ∧ ∀ i : Nat, i < 256 → w'.cell? ⟨w.heap.size, i, none⟩ = some (.int .u8 (swapN x y i)) := by
  have hx := len1 x
  have hy := len1 y
  go_enter Tryz.func126, Tryz.ntmps126
  go_wp2
  go_loopg [4, 5] 5 (fun kq v4 v5 w' => ∃ i : Nat, v4 = .bool true ∧ v5 = .int .i64 i ∧ Aside0 (i = 0 ∧ 3 ≤ kq ∨ i = 2 ∧ 2 ≤ kq ∨ i = 4 ∧ 1 ≤ kq) ∧ w' = w)
  case atStart => exact ⟨0, rfl, rfl, ⟨Or.inl ⟨rfl, by omega⟩⟩, rfl⟩
  case round =>
    obtain ⟨i, rfl, rfl, HI, hwe⟩ := hrel
    subst hwe
    rcases HI.out with ⟨rfl, hk⟩ | ⟨rfl, hk⟩ | ⟨rfl, hk⟩
    · obtain ⟨k1, rfl⟩ : ∃ m, gk = m + 1 := ⟨gk - 1, by omega⟩
      go_wp2
      go_roundg k1
      case measure => omega
      case rel => exact ⟨2, rfl, rfl, ⟨Or.inr (Or.inl ⟨rfl, by omega⟩)⟩, rfl⟩
    · obtain ⟨k1, rfl⟩ : ∃ m, gk = m + 1 := ⟨gk - 1, by omega⟩
      go_wp2
      go_roundg k1
      case measure => omega
      case rel => exact ⟨4, rfl, rfl, ⟨Or.inr (Or.inr ⟨rfl, by omega⟩)⟩, rfl⟩
    · obtain ⟨w1, hw1⟩ : ∃ w1 : World, w1 = wr := ⟨_, rfl⟩
      subst hw1
      have hst := zero_store w1
      have HT := Aside0.mk (zero_cells w1)
      have HB := Aside0.mk ((Below.refl w1.heap.size w1).alloc (Nat.le_refl _) (.cells Tryz.zeroCells178 178))
      go_wp2
      go_loopg [61] 258 (fun kq v61 w2 => ∃ j : Nat, v61 = .int .i64 j ∧ Aside0 (j ≤ 256 ∧ 257 ≤ kq + j) ∧ Aside0 (Below w1.heap.size w1 w2) ∧ Aside0 (TabAt w2 w1.heap.size (fun i => if i < j then (i : Int) else 0)))
      case atStart => exact ⟨0, rfl, ⟨by omega⟩, HB, ⟨HT.out.congr (fun i hi => by simp)⟩⟩
      case round =>
        clear HB HT hst
        obtain ⟨j, rfl, HJ, HB, HT⟩ := hrel
        by_cases hj : j < 256
        · have j0 : decide ((j : Int) < 256) = true := decide_eq_true (by omega)
          have j1 : ((j : Int) < 256) = True := eq_true (by omega)
          have j2 : (j < 256) = True := eq_true hj
          have j3 : (j : Int) % 256 = j := by omega
          have hc := HT.out.cell j hj
          have hz := HT.out.thaw j
          have HT2 := Aside0.mk (HT.out.set j hj (j : Int))
          have HB2 := Aside0.mk (below_set (j := j) (v := .int .u8 (j : Int)) HB.out (Nat.le_refl _))
          obtain ⟨k1, rfl⟩ : ∃ m, gk = m + 1 := ⟨gk - 1, by have := HJ.out; omega⟩
          go_wp2
          go_roundg k1
          case measure => have := HJ.out; omega
          case rel =>
            refine ⟨j + 1, by simp, ⟨by have := HJ.out; omega⟩, HB2, ⟨HT2.out.congr (fun i hi => ?_)⟩⟩
            by_cases e : i = j
            · subst e; simp
            · by_cases e2 : i < j
              · rw [if_neg e, if_pos e2, if_pos (by omega)]
              · rw [if_neg e, if_neg e2, if_neg (by omega)]
        · have hj2 : j = 256 := by have := HJ.out; omega
          subst hj2
          have j0 : decide (((256 : Nat) : Int) < 256) = false := by decide
          have f0 := (HB.out.cell (World.block_lt_of_cell? w1 _ e0)).trans e0
          have f1 := (HB.out.cell (World.block_lt_of_cell? w1 _ e1)).trans e1
          have f2 := (HB.out.cell (World.block_lt_of_cell? w1 _ e2)).trans e2
          have f3 := (HB.out.cell (World.block_lt_of_cell? w1 _ e3)).trans e3
          go_wp2
          have HT' := Aside0.mk (HT.out.congr (T' := fun i => (i : Int)) (fun i hi => if_pos hi))
          have bx0 : ∀ hh : 0 < (⟨#[x]⟩ : ByteArray).size, ((⟨#[x]⟩ : ByteArray)[0]'hh) = x := fun _ => rfl
          have by0 : ∀ hh : 0 < (⟨#[y]⟩ : ByteArray).size, ((⟨#[y]⟩ : ByteArray)[0]'hh) = y := fun _ => rfl
          have bx1 : ((x.toNat : Int) < 256) = True := eq_true (by have := x.toNat_lt; omega)
          have by1 : ((y.toNat : Int) < 256) = True := eq_true (by have := y.toNat_lt; omega)
          have bx2 : (x.toNat < 256) = True := eq_true x.toNat_lt
          have by2 : (y.toNat < 256) = True := eq_true y.toNat_lt
          clear HT HJ hj j0 f0 f1 f2 f3
          go_loopg [8] 3 (fun kq v8 w2 => ∃ i : Int, v8 = .int .i64 i ∧ Aside0 ((i = 2 ∧ 3 ≤ kq ∧ TabAt w2 w1.heap.size (fun k => (k : Int))) ∨ (i = 0 ∧ 2 ≤ kq ∧ TabAt w2 w1.heap.size (fun k => if k = y.toNat then (x.toNat : Int) else (k : Int))) ∨ (i = -2 ∧ 1 ≤ kq ∧ TabAt w2 w1.heap.size (swapN x y))) ∧ Aside0 (Below w1.heap.size w1 w2))
          case atStart => exact ⟨2, rfl, ⟨Or.inl ⟨rfl, Nat.le_refl _, HT'.out⟩⟩, HB⟩
          case round =>
          clear HB HT'
          obtain ⟨i, rfl, HI, HB⟩ := hrel
          rcases HI.out with ⟨rfl, hk, HT⟩ | ⟨rfl, hk, HT⟩ | ⟨rfl, hk, HT⟩
          · obtain ⟨k1, rfl⟩ : ∃ m, gk = m + 1 := ⟨gk - 1, by omega⟩
            have f0 := (HB.out.cell (World.block_lt_of_cell? w1 _ e0)).trans e0
            have f1 := (HB.out.cell (World.block_lt_of_cell? w1 _ e1)).trans e1
            have f2 := (HB.out.cell (World.block_lt_of_cell? w1 _ e2)).trans e2
            have f3 := (HB.out.cell (World.block_lt_of_cell? w1 _ e3)).trans e3
            have hc := HT.cell y.toNat y.toNat_lt
            have hz := HT.thaw y.toNat
            have HT2 := Aside0.mk (HT.set y.toNat y.toNat_lt (x.toNat : Int))
            have HB2 := Aside0.mk (below_set (j := y.toNat) (v := .int .u8 (x.toNat : Int)) HB.out (Nat.le_refl _))
            clear HT
            go_wp2
            go_roundg k1
            case measure => omega
            case rel => exact ⟨0, rfl, ⟨Or.inr (Or.inl ⟨rfl, by omega, HT2.out⟩)⟩, HB2⟩
          · obtain ⟨k1, rfl⟩ : ∃ m, gk = m + 1 := ⟨gk - 1, by omega⟩
            have f0 := (HB.out.cell (World.block_lt_of_cell? w1 _ e0)).trans e0
            have f1 := (HB.out.cell (World.block_lt_of_cell? w1 _ e1)).trans e1
            have f2 := (HB.out.cell (World.block_lt_of_cell? w1 _ e2)).trans e2
            have f3 := (HB.out.cell (World.block_lt_of_cell? w1 _ e3)).trans e3
            have hc := HT.cell x.toNat x.toNat_lt
            have hz := HT.thaw x.toNat
            have HT2 := Aside0.mk (HT.set x.toNat x.toNat_lt (y.toNat : Int))
            have HB2 := Aside0.mk (below_set (j := x.toNat) (v := .int .u8 (y.toNat : Int)) HB.out (Nat.le_refl _))
            clear HT
            go_wp2
            go_roundg k1
            case measure => omega
            case rel => exact ⟨-2, rfl, ⟨Or.inr (Or.inr ⟨rfl, by omega, HT2.out.congr (fun i hi => rfl)⟩)⟩, HB2⟩
          · go_wp2
            go_ret
            exact ⟨rfl, HB.out, fun i hi => HT.cell i hi⟩
end Go.Proofs.YtjmeekceecpemaaGreatDoor.Once

/- strings.Replacer at two bytes exchanged: buildOnce, Replace, NewReplacer; ean.flipped. -/
namespace Go.Proofs.YtjmeekceecpemaaGreatDoor.Once
open Go.RowKit Go.Proofs.YtjmeekceecpemaaGreatDoorW.PrintWords Go.Proofs.YtjmeekceecpemaaGreatDoorW.PrintLast Go.Proofs.YtjmeekceecpemaaGreatDoorW.PrintMore
set_option linter.unusedVariables false
abbrev tbl (G : Nat) : Value := .iface 179 (.pointer (some ⟨G, 0, none⟩))
set_option maxRecDepth 100000 in
set_option maxHeartbeats 1600000 in
theorem buildOnce_calls (g h cap : Nat) (x y : UInt8) (w : World) (v3 : Value) (c3 : w.cell? ⟨g, 3, none⟩ = some v3) (z3 : w.frozen? ⟨g, 3, none⟩ = false) (z4 : w.frozen? ⟨g, 4, none⟩ = false) (h4 : w.cell? ⟨g, 4, none⟩ = some (.slice (some ⟨h, 0, none⟩) 4 cap))
    (e0 : w.cell? ⟨h, 0, none⟩ = some (.string ⟨#[x]⟩)) (e1 : w.cell? ⟨h, 1, none⟩ = some (.string ⟨#[y]⟩)) (e2 : w.cell? ⟨h, 2, none⟩ = some (.string ⟨#[y]⟩)) (e3 : w.cell? ⟨h, 3, none⟩ = some (.string ⟨#[x]⟩)) :
    Calls Tryz.prog 117 #[.pointer (some ⟨g, 0, none⟩)] w fun e w' => e = .returned (.tuple #[]) ∧ ∃ w2, Below w.heap.size w w2 ∧ (∀ i : Nat, i < 256 → w2.cell? ⟨w.heap.size, i, none⟩ = some (.int .u8 (swapN x y i))) ∧ w' = (w2.setCell ⟨g, 3, none⟩ (tbl w.heap.size)).setCell ⟨g, 4, none⟩ (.slice none 0 0) := by
  go_enter Tryz.func117, Tryz.ntmps117
  go_wp2_with (first | (go_at_call 126; refine (build_calls g h cap x y _ h4 e0 e1 e2 e3).mono ?_; rintro e w2 ⟨rfl, hb, ht⟩; have HB := Aside0.mk hb; have HT := Aside0.mk ht; have k3 := (hb.cell (World.block_lt_of_cell? w _ c3)).trans c3; have k4 := (hb.cell (World.block_lt_of_cell? w _ h4)).trans h4; have y3 : w2.frozen? ⟨g, 3, none⟩ = false := (hb.frozen (World.block_lt_of_cell? w _ c3)).trans z3; have y4 : w2.frozen? ⟨g, 4, none⟩ = false := (hb.frozen (World.block_lt_of_cell? w _ h4)).trans z4; clear hb ht c3 z3 z4 h4 e0 e1 e2 e3))
  go_end0
  exact ⟨rfl, w2, HB.out, HT.out, rfl⟩
end Go.Proofs.YtjmeekceecpemaaGreatDoor.Once

/- (*strings.byteReplacer).Replace over a table. -/
namespace Go.Proofs.YtjmeekceecpemaaGreatDoor.Once
open Go.RowKit Go.Proofs.YtjmeekceecpemaaGreatDoorW.PrintWords Go.Proofs.YtjmeekceecpemaaGreatDoorW.PrintLast Go.Proofs.YtjmeekceecpemaaGreatDoorW.PrintMore
open Q (bs bs_len bt_nat)
set_option linter.unusedVariables false
/-- The byte k of s, exchanged where it stands before place j. -/
def part (x y : UInt8) (s : ByteArray) (j k : Nat) : Int := if k < j then swapN x y ((bs s).getD k 0).toNat else ((bs s).getD k 0).toNat
/-- The buffer: none yet (nothing is exchanged so far), or a row of its own. -/
def BufAt (B : Nat) (x y : UInt8) (s : ByteArray) (W : World) (v : Value) (j : Nat) : Prop :=
  (v = .slice none 0 0 ∧ ∀ k, k < j → part x y s j k = part x y s 0 k) ∨
  (∃ h c, v = .slice (some ⟨h, 0, none⟩) s.size c ∧ B ≤ h ∧ s.size ≠ 0 ∧ ∀ k, k < s.size → W.cell? ⟨h, k, none⟩ = some (.int .u8 (part x y s j k)) ∧ W.frozen? ⟨h, k, none⟩ = false)
theorem part_ne (x y : UInt8) (s : ByteArray) (j k : Nat) (h : k ≠ j) : part x y s (j + 1) k = part x y s j k := by
  unfold part
  by_cases h1 : k < j
  · rw [if_pos h1, if_pos (by omega)]
  · rw [if_neg h1, if_neg (by omega)]
theorem part_at (x y : UInt8) (s : ByteArray) (j : Nat) : part x y s (j + 1) j = swapN x y ((bs s).getD j 0).toNat ∧ part x y s j j = ((bs s).getD j 0).toNat := by
  unfold part
  rw [if_pos (by omega), if_neg (by omega)]
  exact ⟨rfl, rfl⟩
/-- A place where the byte stays. -/
theorem BufAt.stay {B : Nat} {x y : UInt8} {s : ByteArray} {W : World} {v : Value} {j : Nat} (h : BufAt B x y s W v j) (e : swapN x y ((bs s).getD j 0).toNat = ((bs s).getD j 0).toNat) : BufAt B x y s W v (j + 1) := by
  have e2 : ∀ k, part x y s (j + 1) k = part x y s j k := by
    intro k
    by_cases h1 : k = j
    · subst h1; rw [(part_at x y s k).1, (part_at x y s k).2, e]
    · exact part_ne x y s j k h1
  rcases h with ⟨h1, h2⟩ | ⟨h1, c, h3, h4, h5, h6⟩
  · refine Or.inl ⟨h1, fun k hk => ?_⟩
    rw [e2]
    by_cases h7 : k < j
    · exact h2 k h7
    · unfold part; rw [if_neg h7, if_neg (by omega)]
  · exact Or.inr ⟨h1, c, h3, h4, h5, fun k hk => by rw [e2]; exact h6 k hk⟩
theorem row_set {W : World} {h : Nat} {s : ByteArray} {x y : UInt8} {j : Nat} (hj : j < s.size) (hr : ∀ k, k < s.size → W.cell? ⟨h, k, none⟩ = some (.int .u8 (part x y s j k)) ∧ W.frozen? ⟨h, k, none⟩ = false) :
    ∀ k, k < s.size → (W.setCell ⟨h, j, none⟩ (.int .u8 (swapN x y ((bs s).getD j 0).toNat))).cell? ⟨h, k, none⟩ = some (.int .u8 (part x y s (j + 1) k)) ∧ (W.setCell ⟨h, j, none⟩ (.int .u8 (swapN x y ((bs s).getD j 0).toNat))).frozen? ⟨h, k, none⟩ = false := by
  intro k hk
  refine ⟨?_, by have := (hr k hk).2; simpa using this⟩
  by_cases e : j = k
  · subst e
    rw [World.cell?_setCell_same _ _ _ (hr j hk).1, (part_at x y s j).1]
  · rw [World.cell?_setCell_other _ _ _ _ (fun h2 => e (by injection h2)), (hr k hk).1, part_ne x y s j k (fun h2 => e h2.symm)]
theorem bytes_row (W : World) (s : ByteArray) (x y : UInt8) (j : Nat) (hp : ∀ k, k < j → part x y s j k = part x y s 0 k) :
    ∀ k, k < s.size → (Lib.bytesWorld W 5 s).cell? ⟨W.heap.size, k, none⟩ = some (.int .u8 (part x y s j k)) ∧ (Lib.bytesWorld W 5 s).frozen? ⟨W.heap.size, k, none⟩ = false := by
  intro k hk
  have e : part x y s j k = ((bs s).getD k 0).toNat := by
    by_cases h1 : k < j
    · rw [hp k h1]; unfold part; rw [if_neg (by omega)]
    · unfold part; rw [if_neg h1]
  refine ⟨by rw [Lib.bytesWorld_cell W 5 s k hk, e]; rfl, ?_⟩
  have h := Lib.bytesWorld_at_new W 5 s
  have h2 : s.size ≤ (Lib.bytesCells W 5 s).size := by
    unfold Lib.bytesCells
    rw [Array.size_append, Array.size_map]
    exact Nat.le_add_right _ _
  unfold World.frozen?
  simp only [h]
  rw [Bool.and_eq_false_iff]
  left
  exact decide_eq_false (by show ¬ (Lib.bytesCells W 5 s).size ≤ k; omega)
theorem not_nil (h n c : Nat) (w : World) : Sem.run Tryz.prog (binOp .eql 40 (.slice (some ⟨h, 0, none⟩) n c) (.slice none 0 0)) w = .ok (.bool false) w := Lib.run_eql_slice_nil w 40 5 _ n c 0 0 Tryz.underlying40
theorem is_nil (w : World) : Sem.run Tryz.prog (binOp .eql 40 (.slice none 0 0) (.slice none 0 0)) w = .ok (.bool true) w := Lib.run_eql_slice_nil w 40 5 none 0 0 0 0 Tryz.underlying40
/-- As the printed words have it. -/
theorem string_of_reads_ {P : Program} {w : World} {src dst e : TypeId} {A : Option Addr} {n c : Nat} {xs : List Int} (hs : P.underlying src = some (.slice e)) (he : P.underlying e = some (.int .u8)) (hd : P.underlying dst = some .string)
    (h : xs.length = n ∧ n ≤ 9223372036854775807 ∧ (0 < n → ∃ ad, A = some ad ∧ ∀ j, j < n → w.cell? (ad.add j) = some (.int .u8 (xs.getD j 0)))) : (convert src dst (.slice A n c)).run P w = .ok (.string (strOfNums xs)) w := by
  have hn : xs.length = n := h.1
  rcases A with _ | ad
  · have h0 : n = 0 := by
      rcases Nat.eq_zero_or_pos n with h0 | h0
      · exact h0
      · obtain ⟨ad, h', _⟩ := h.2.2 h0
        cases h'
    subst h0
    obtain rfl : xs = [] := List.eq_nil_of_length_eq_zero hn
    exact run_convert_bytes_nil w src e hs he 0 c dst hd
  · have hl : (loadCells ad n).run P w = .ok (xs.map (Value.int .u8)).toArray w := by
      have := run_loadCells_list (P := P) w ad (xs.map (Value.int .u8)) (fun j v hj => by
        have hjl : j < xs.length := by
          rcases Nat.lt_or_ge j xs.length with h' | h'
          · exact h'
          · rw [List.getElem?_eq_none (by rw [List.length_map]; exact h')] at hj
            cases hj
        obtain ⟨ad', he', hc⟩ := h.2.2 (by omega)
        injection he' with he'
        subst he'
        rw [hc j (by omega)]
        rw [List.getElem?_map, List.getElem?_eq_getElem hjl] at hj
        simp at hj
        subst hj
        simp [List.getD_eq_getElem?_getD, List.getElem?_eq_getElem hjl])
      simpa [hn] using this
    rw [run_convert_bytes_string w src dst e _ n c hs he hd, run_bytesToString w ad n c xs hl, foldl_push_bytes]
    simp [strOfNums, ByteArray.empty, ByteArray.emptyWithCapacity]
    rfl
theorem swap_part (x y : UInt8) (s : ByteArray) (k : Nat) (hk : k < s.size) : UInt8.ofNat (part x y s s.size k).toNat = Q.swapB x y ((bs s).getD k 0) := by
  unfold part
  rw [if_pos hk]
  generalize (bs s).getD k 0 = b
  unfold swapN Q.swapB
  by_cases h1 : b = x
  · subst h1; simp
  · rw [if_neg (fun h => h1 (UInt8.toNat_inj.1 h)), if_neg h1]
    by_cases h2 : b = y
    · subst h2; simp
    · rw [if_neg (fun h => h2 (UInt8.toNat_inj.1 h)), if_neg h2]; simp
theorem all_same (x y : UInt8) (s : ByteArray) (h : ∀ k, k < s.size → part x y s s.size k = part x y s 0 k) : s = ⟨((bs s).map (Q.swapB x y)).toArray⟩ := by
  apply Q.bs_inj
  show bs s = (bs s).map (Q.swapB x y)
  apply List.ext_getElem?
  intro k
  rw [List.getElem?_map]
  by_cases hk : k < s.size
  · have hl : k < (bs s).length := by rw [bs_len]; exact hk
    have h1 := swap_part x y s k hk
    rw [h k hk] at h1
    unfold part at h1
    rw [if_neg (by omega), List.getD_eq_getElem?_getD, List.getElem?_eq_getElem hl] at h1
    rw [List.getElem?_eq_getElem hl]
    simp at h1 ⊢
    exact h1
  · rw [List.getElem?_eq_none (by rw [bs_len]; omega)]; rfl
theorem parts_map (x y : UInt8) (s : ByteArray) : (((List.range s.size).map (fun k => part x y s s.size k)).map fun n => UInt8.ofNat n.toNat) = (bs s).map (Q.swapB x y) := by
  rw [List.map_map]
  apply List.ext_getElem?
  intro k
  rw [List.getElem?_map, List.getElem?_map]
  by_cases hk : k < s.size
  · have hl : k < (bs s).length := by rw [bs_len]; exact hk
    rw [List.getElem?_range hk, List.getElem?_eq_getElem hl]
    show some (UInt8.ofNat (part x y s s.size k).toNat) = some _
    rw [swap_part x y s k hk, List.getD_eq_getElem?_getD, List.getElem?_eq_getElem hl]
    rfl
  · rw [List.getElem?_eq_none (by rw [List.length_range]; omega), List.getElem?_eq_none (by rw [bs_len]; omega)]; rfl
theorem buf_string (x y : UInt8) (s : ByteArray) {W : World} {h c : Nat} (hs : s.size ≤ 9223372036854775807) (hr : ∀ k, k < s.size → W.cell? ⟨h, k, none⟩ = some (.int .u8 (part x y s s.size k)) ∧ W.frozen? ⟨h, k, none⟩ = false) :
    Sem.run Tryz.prog (convert 40 9 (.slice (some ⟨h, 0, none⟩) s.size c)) W = .ok (.string ⟨((bs s).map (Q.swapB x y)).toArray⟩) W := by
  have h2 := string_of_reads_ (P := Tryz.prog) (w := W) (src := 40) (dst := 9) (e := 5) (A := some ⟨h, 0, none⟩) (n := s.size) (c := c) (xs := (List.range s.size).map (fun k => part x y s s.size k)) Tryz.underlying40 Tryz.underlying5 Tryz.underlying9
    ⟨by simp, hs, fun _ => ⟨_, rfl, fun j hj => ?_⟩⟩
  · have e : strOfNums ((List.range s.size).map (fun k => part x y s s.size k)) = ⟨((bs s).map (Q.swapB x y)).toArray⟩ := by
      apply Q.bs_inj
      show (((List.range s.size).map (fun k => part x y s s.size k)).map fun n => UInt8.ofNat n.toNat) = (bs s).map (Q.swapB x y)
      exact parts_map x y s
    rw [h2, e]
  · have e : (Addr.add ⟨h, 0, none⟩ j) = ⟨h, j, none⟩ := by rw [Addr.add]; split <;> simp_all
    rw [e, (hr j hj).1, List.getD_eq_getElem?_getD, List.getElem?_map, List.getElem?_range hj]
    rfl
theorem get_bs (s : ByteArray) (j : Nat) (h : j < s.size) : s[j]'h = (bs s).getD j 0 := by
  have hl : j < s.data.toList.length := by rw [Array.length_toList]; exact h
  show s.data[j]'h = s.data.toList.getD j 0
  rw [List.getD_eq_getElem?_getD, List.getElem?_eq_getElem hl]
  simp
set_option maxRecDepth 100000 in
set_option maxHeartbeats 1600000 in
theorem byteRep_calls (G : Nat) (x y : UInt8) (s : ByteArray) (hs : s.size ≤ 1048576) (w : World) (ht : ∀ i : Nat, i < 256 → w.cell? ⟨G, i, none⟩ = some (.int .u8 (swapN x y i))) :
    Calls Tryz.prog 212 #[.pointer (some ⟨G, 0, none⟩), .string s] w fun e w' => e = .returned (.string ⟨((bs s).map (Q.swapB x y)).toArray⟩) ∧ Below w.heap.size w w' := by
  have HT := Aside0.mk ht
  clear ht
  go_enter Tryz.func212, Tryz.ntmps212
  go_wp2
  go_loopg [5, 6] (s.size + 1) (fun kq v5 v6 w2 => ∃ j : Nat, v6 = .int .i64 j ∧ Aside0 (j ≤ s.size ∧ s.size + 1 ≤ kq + j) ∧ Aside0 (Below w.heap.size w w2) ∧ Aside0 (BufAt w.heap.size x y s w2 v5 j))
  case atStart => exact ⟨0, rfl, ⟨by omega⟩, ⟨Below.refl _ _⟩, ⟨Or.inl ⟨rfl, fun k hk => by omega⟩⟩⟩
  case round =>
    obtain ⟨j, rfl, HJ, HB, HU⟩ := hrel
    by_cases hj : j < s.size
    · obtain ⟨k1, rfl⟩ : ∃ m, gk = m + 1 := ⟨gk - 1, by have := HJ.out; omega⟩
      have hjl : j < (bs s).length := by rw [bs_len]; exact hj
      obtain ⟨b, hb⟩ : ∃ b, (bs s).getD j 0 = b := ⟨_, rfl⟩
      have hbt : bt s (j : Int) = (b.toNat : Int) := by
        rw [bt_nat s j hjl, ← hb, List.getD_eq_getElem?_getD, List.getElem?_eq_getElem hjl]; rfl
      have p0 : (0 ≤ (j : Int)) = True := eq_true (by omega)
      have q0 : ((j : Int) < (s.size : Int)) = True := eq_true (by omega)
      have q1 : (j < s.size) = True := eq_true hj
      have q2 : decide ((j : Int) < (s.size : Int)) = true := decide_eq_true (by omega)
      have hx : ∀ h : j < s.size, s[j]'h = b := fun h => (get_bs s j h).trans hb
      have t0 : ((b.toNat : Int) < 256) = True := eq_true (by have := b.toNat_lt; omega)
      have t1 : (b.toNat < 256) = True := eq_true b.toNat_lt
      have hcell : wr.cell? ⟨G, b.toNat, none⟩ = some (.int .u8 (swapN x y b.toNat)) := (HB.out.cell (World.block_lt_of_cell? w _ (HT.out b.toNat b.toNat_lt))).trans (HT.out b.toNat b.toNat_lt)
      by_cases he : swapN x y b.toNat = (b.toNat : Int)
      · have he1 : (swapN x y b.toNat != (b.toNat : Int)) = false := bne_eq_false_iff_eq.2 he
        have HU2 := Aside0.mk (HU.out.stay (by rw [hb]; exact he))
        clear HU he
        go_wp2
        go_roundg k1
        case measure => have := HJ.out; omega
        case rel => exact ⟨j + 1, by simp, ⟨by have := HJ.out; omega⟩, HB, HU2⟩
      · have he1 : (swapN x y b.toNat != (b.toNat : Int)) = true := bne_iff_ne.2 he
        rcases HU.out with ⟨rfl, h2⟩ | ⟨h1, c, rfl, h4, h5, h6⟩
        · have hcv : Sem.run Tryz.prog (convert 9 40 (.string s)) wr = _ := Lib.run_convert_string_bytes wr 9 40 5 s Tryz.underlying9 Tryz.underlying40 Tryz.underlying5
          have BR := Aside0.mk (bytes_row wr s x y j h2)
          have bc := (BR.out j hj).1
          have bz := (BR.out j hj).2
          have RS := Aside0.mk (row_set hj BR.out)
          rw [hb] at RS
          have bG : (Lib.bytesWorld wr 5 s).cell? ⟨G, b.toNat, none⟩ = some (.int .u8 (swapN x y b.toNat)) := (Lib.bytesWorld_old wr 5 s _ (World.block_lt_of_cell? wr _ hcell)).trans hcell
          have hpos : s.size ≠ 0 := by omega
          have HB2 := Aside0.mk (below_set (j := j) (v := .int .u8 (swapN x y b.toNat)) (below_step HB.out (Lib.bytesWorld_below wr 5 s)) (below_size HB.out))
          clear BR HU h2 he
          have hnil := is_nil
          go_wp2
          go_roundg k1
          case measure => have := HJ.out; omega
          case rel => exact ⟨j + 1, by simp, ⟨by have := HJ.out; omega⟩, HB2, ⟨Or.inr ⟨_, _, rfl, below_size HB.out, hpos, RS.out⟩⟩⟩
        · have bc := (h6 j hj).1
          have bz := (h6 j hj).2
          have RS := Aside0.mk (row_set hj h6)
          rw [hb] at RS
          have HB2 := Aside0.mk (below_set (j := j) (v := .int .u8 (swapN x y b.toNat)) HB.out h4)
          have H5 := Aside0.mk h5
          have H4 := Aside0.mk h4
          clear HU h6 he h4 h5
          have hnil := not_nil h1 s.size c
          go_wp2
          go_roundg k1
          case measure => have := HJ.out; omega
          case rel => exact ⟨j + 1, by simp, ⟨by have := HJ.out; omega⟩, HB2, ⟨Or.inr ⟨_, _, rfl, H4.out, H5.out, RS.out⟩⟩⟩
    · have hj2 : j = s.size := by have := HJ.out; omega
      subst hj2
      have q2 : decide ((s.size : Int) < (s.size : Int)) = false := decide_eq_false (by omega)
      rcases HU.out with ⟨rfl, h2⟩ | ⟨h1, c, rfl, h4, h5, h6⟩
      · have hnil := is_nil
        have he := Aside0.mk (all_same x y s h2)
        clear HU h2
        go_wp2
        go_ret
        exact ⟨congrArg (fun z => Ending.returned (.string z)) he.out, HB.out⟩
      · have hnil := not_nil h1 s.size c
        have hcv : Sem.run Tryz.prog (convert 40 9 (.slice (some ⟨h1, 0, none⟩) s.size c)) wr = _ := buf_string x y s (by omega) h6
        clear HU
        go_wp2
        go_ret
        exact ⟨rfl, HB.out⟩
end Go.Proofs.YtjmeekceecpemaaGreatDoor.Once

/- (*strings.Replacer).Replace at two bytes exchanged. -/
namespace Go.Proofs.YtjmeekceecpemaaGreatDoor.Once
open Go.RowKit Go.Proofs.YtjmeekceecpemaaGreatDoorW.PrintWords Go.Proofs.YtjmeekceecpemaaGreatDoorW.PrintLast Go.Proofs.YtjmeekceecpemaaGreatDoorW.PrintMore
open Q (bs bs_len bt_nat)
set_option linter.unusedVariables false
/-- A Replacer at block g, not yet built. -/
structure Fresh (g h cap : Nat) (x y : UInt8) (w : World) : Prop where
  c0 : w.cell? ⟨g, 0, none⟩ = some (.int .u32 0)
  c1 : w.cell? ⟨g, 1, none⟩ = some (.int .i32 0)
  c3 : w.cell? ⟨g, 3, none⟩ = some .nilIface
  c4 : w.cell? ⟨g, 4, none⟩ = some (.slice (some ⟨h, 0, none⟩) 4 cap)
  z : ∀ j : Nat, w.frozen? ⟨g, j, none⟩ = false
  e0 : w.cell? ⟨h, 0, none⟩ = some (.string ⟨#[x]⟩)
  e1 : w.cell? ⟨h, 1, none⟩ = some (.string ⟨#[y]⟩)
  e2 : w.cell? ⟨h, 2, none⟩ = some (.string ⟨#[y]⟩)
  e3 : w.cell? ⟨h, 3, none⟩ = some (.string ⟨#[x]⟩)
  ne : h ≠ g
/-- What the building leaves behind. -/
def Built (g : Nat) (x y : UInt8) (w1 w' : World) : Prop := ∃ w2, Below w1.heap.size w1 w2 ∧ (∀ i : Nat, i < 256 → w2.cell? ⟨w1.heap.size, i, none⟩ = some (.int .u8 (swapN x y i))) ∧ w' = (w2.setCell ⟨g, 3, none⟩ (tbl w1.heap.size)).setCell ⟨g, 4, none⟩ (.slice none 0 0)
theorem far (w : World) (g j b k : Nat) (v : Value) (h : g ≠ b ∨ j ≠ k) : (w.setCell ⟨g, j, none⟩ v).cell? ⟨b, k, none⟩ = w.cell? ⟨b, k, none⟩ :=
  World.cell?_setCell_other _ _ _ _ (fun e => by injection e with e1 e2; exact h.elim (fun h => h e1) (fun h => h e2))
theorem build_at {g h cap : Nat} {x y : UInt8} {w : World} (F : Fresh g h cap x y w) :
    Calls Tryz.prog 117 #[.pointer (some ⟨g, 0, none⟩)] (w.setCell ⟨g, 1, none⟩ (.int .i32 1)) fun e w' => e = .returned (.tuple #[]) ∧ Built g x y (w.setCell ⟨g, 1, none⟩ (.int .i32 1)) w' := by
  have hz : ∀ j : Nat, (w.setCell ⟨g, 1, none⟩ (.int .i32 1)).frozen? ⟨g, j, none⟩ = false := fun j => by have := F.z j; simpa using this
  exact buildOnce_calls g h cap x y _ .nilIface ((far _ _ _ _ _ _ (by omega)).trans F.c3) (hz 3) (hz 4) ((far _ _ _ _ _ _ (by omega)).trans F.c4)
    ((far _ _ _ _ _ _ (Or.inl F.ne.symm)).trans F.e0) ((far _ _ _ _ _ _ (Or.inl F.ne.symm)).trans F.e1) ((far _ _ _ _ _ _ (Or.inl F.ne.symm)).trans F.e2) ((far _ _ _ _ _ _ (Or.inl F.ne.symm)).trans F.e3)
theorem built_keeps {g h cap : Nat} {x y : UInt8} {w : World} (F : Fresh g h cap x y w) (w' : World) (hB : Built g x y (w.setCell ⟨g, 1, none⟩ (.int .i32 1)) w') :
    w'.cell? ⟨g, 0, none⟩ = some (.int .u32 0) ∧ w'.cell? ⟨g, 1, none⟩ = some (.int .i32 1) ∧ w'.frozen? ⟨g, 0, none⟩ = false ∧ w'.frozen? ⟨g, 1, none⟩ = false := by
  obtain ⟨w2, hb, ht, rfl⟩ := hB
  have d0 : (w.setCell ⟨g, 1, none⟩ (.int .i32 1)).cell? ⟨g, 0, none⟩ = some (.int .u32 0) := (far _ _ _ _ _ _ (by omega)).trans F.c0
  have d1 : (w.setCell ⟨g, 1, none⟩ (.int .i32 1)).cell? ⟨g, 1, none⟩ = some (.int .i32 1) := World.cell?_setCell_same _ _ _ F.c1
  have lt := World.block_lt_of_cell? _ _ d0
  have lt1 := World.block_lt_of_cell? _ _ d1
  have z0 : w2.frozen? ⟨g, 0, none⟩ = false := (hb.frozen lt).trans (by have := F.z 0; simpa using this)
  have z1 : w2.frozen? ⟨g, 1, none⟩ = false := (hb.frozen lt1).trans (by have := F.z 1; simpa using this)
  refine ⟨?_, ?_, by simpa using z0, by simpa using z1⟩
  · rw [far _ _ _ _ _ _ (by omega), far _ _ _ _ _ _ (by omega)]
    exact (hb.cell lt).trans d0
  · rw [far _ _ _ _ _ _ (by omega), far _ _ _ _ _ _ (by omega)]
    exact (hb.cell lt1).trans d1
theorem after_do {B g h cap : Nat} {x y : UInt8} {w w3 : World} (F : Fresh g h cap x y w) (hB : B ≤ g) (hw : ∃ w2, Built g x y (w.setCell ⟨g, 1, none⟩ (.int .i32 1)) w2 ∧ w3 = (w2.drew.setCell ⟨g, 0, none⟩ (.int .u32 1)).setCell ⟨g, 1, none⟩ (.int .i32 0)) :
    w3.cell? ⟨g, 3, none⟩ = some (tbl w.heap.size) ∧ (∀ i : Nat, i < 256 → w3.cell? ⟨w.heap.size, i, none⟩ = some (.int .u8 (swapN x y i))) ∧ Below B w w3 := by
  obtain ⟨w2', ⟨w2, hb, ht, rfl⟩, rfl⟩ := hw
  have hsz : (w.setCell ⟨g, 1, none⟩ (.int .i32 1)).heap.size = w.heap.size := by simp
  rw [hsz] at hb ht ⊢
  have lt : g < w.heap.size := World.block_lt_of_cell? w _ F.c3
  have d3 : (w.setCell ⟨g, 1, none⟩ (.int .i32 1)).cell? ⟨g, 3, none⟩ = some .nilIface := (far _ _ _ _ _ _ (by omega)).trans F.c3
  have k3 : w2.cell? ⟨g, 3, none⟩ = some .nilIface := (hb.cell lt).trans d3
  refine ⟨?_, fun i hi => ?_, ?_⟩
  · rw [far _ _ _ _ _ _ (by omega), far _ _ _ _ _ _ (by omega), World.cell?_drew, far _ _ _ _ _ _ (by omega)]
    exact World.cell?_setCell_same _ _ _ k3
  · rw [far _ _ _ _ _ _ (by omega), far _ _ _ _ _ _ (by omega), World.cell?_drew, far _ _ _ _ _ _ (by omega), far _ _ _ _ _ _ (by omega)]
    exact ht i hi
  · have b1 : Below B w (w.setCell ⟨g, 1, none⟩ (.int .i32 1)) := (Below.refl B w).setCell hB _
    have b2 : Below B w w2 := b1.trans (hb.mono (by omega))
    exact (((b2.setCell (p := ⟨g, 3, none⟩) hB _).setCell (p := ⟨g, 4, none⟩) hB _).drew.setCell (p := ⟨g, 0, none⟩) hB _).setCell (p := ⟨g, 1, none⟩) hB _
set_option maxRecDepth 100000 in
set_option maxHeartbeats 1600000 in
theorem replace_calls (B g h cap : Nat) (x y : UInt8) (s : ByteArray) (hs : s.size ≤ 1048576) (w : World) (F : Fresh g h cap x y w) (hB : B ≤ g) :
    Calls Tryz.prog 96 #[.pointer (some ⟨g, 0, none⟩), .string s] w fun e w' => e = .returned (.string ⟨((bs s).map (Q.swapB x y)).toArray⟩) ∧ Below B w w' := by
  have FF := Aside0.mk F
  have c3 := F.c3
  have hmf : ∀ (fn : Fn) (first cap : Array Value) (w : World), (Instr.makeFunc fn first cap).run Tryz.prog w = .ok (.func fn first cap) w := fun _ _ _ _ => rfl
  have hm : ∀ (G : Nat) (w : World), (method 353 179 (.pointer (some ⟨G, 0, none⟩)) "Replace").run Tryz.prog w = .ok (212, .pointer (some ⟨G, 0, none⟩)) w := fun _ _ => by kernel_rfl
  clear F
  go_enter Tryz.func96, Tryz.ntmps96
  go_wp2_with (first | (go_at_call 116; refine (once_do g (Built g x y (w.setCell ⟨g, 1, none⟩ (.int .i32 1))) w FF.out.c0 FF.out.c1 (FF.out.z 1) (build_at FF.out) (built_keeps FF.out)).mono ?_; rintro e w3 ⟨rfl, hw⟩; have HA := Aside0.mk (after_do FF.out hB hw); have k3 := HA.out.1; clear hw c3) | (go_at_call 212; refine (byteRep_calls w.heap.size x y s hs w3 HA.out.2.1).mono ?_; rintro e w4 ⟨rfl, hb⟩))
  go_ret
  exact ⟨rfl, HA.out.2.2.trans (hb.mono (Nat.le_trans hB (Nat.le_trans (Nat.le_of_lt (World.block_lt_of_cell? w _ FF.out.c3)) HA.out.2.2.size)))⟩
end Go.Proofs.YtjmeekceecpemaaGreatDoor.Once

/- ean.flipped: the contract: two bytes exchanged throughout a string. -/
namespace Go.Proofs.YtjmeekceecpemaaGreatDoor.Once
open Go.RowKit Go.Proofs.YtjmeekceecpemaaGreatDoorW.PrintWords Go.Proofs.YtjmeekceecpemaaGreatDoorW.PrintLast Go.Proofs.YtjmeekceecpemaaGreatDoorW.PrintMore
open Q (bs bs_len bt_nat)
set_option linter.unusedVariables false
theorem box_heap (w : World) (cs : Array Value) (T : Nat) : (w.alloc (Obj.cells cs T)).heap[w.heap.size]? = some (Obj.cells cs T (0, 0)) := by show (w.heap.push _)[w.heap.size]? = _; simp
theorem fresh_new (w : World) (Z : Array Value) (T cap : Nat) (x y : UInt8) :
    Fresh (w.heap.size + 1) w.heap.size cap x y (((w.alloc (.cells (#[.string ⟨#[x]⟩, .string ⟨#[y]⟩, .string ⟨#[y]⟩, .string ⟨#[x]⟩] ++ Z) 9)).alloc (.cells #[.int .u32 0, .int .i32 0, .int .u32 0, .nilIface, .slice (some ⟨w.heap.size, 0, none⟩) 4 cap] T)).drew) := by
  have s1 : (w.alloc (.cells (#[.string ⟨#[x]⟩, .string ⟨#[y]⟩, .string ⟨#[y]⟩, .string ⟨#[x]⟩] ++ Z) 9)).heap.size = w.heap.size + 1 := by simp
  have hg : ∀ i, (((w.alloc (.cells (#[.string ⟨#[x]⟩, .string ⟨#[y]⟩, .string ⟨#[y]⟩, .string ⟨#[x]⟩] ++ Z) 9)).alloc (.cells #[.int .u32 0, .int .i32 0, .int .u32 0, .nilIface, .slice (some ⟨w.heap.size, 0, none⟩) 4 cap] T)).drew).cell? ⟨w.heap.size + 1, i, none⟩ = (#[Value.int .u32 0, .int .i32 0, .int .u32 0, .nilIface, .slice (some ⟨w.heap.size, 0, none⟩) 4 cap] : Array Value)[i]? := by
    intro i
    rw [World.cell?_drew, ← s1]
    exact Lib.cell_of_heap (box_heap _ _ _) i
  have hh : ∀ i, i < 4 → (((w.alloc (.cells (#[.string ⟨#[x]⟩, .string ⟨#[y]⟩, .string ⟨#[y]⟩, .string ⟨#[x]⟩] ++ Z) 9)).alloc (.cells #[.int .u32 0, .int .i32 0, .int .u32 0, .nilIface, .slice (some ⟨w.heap.size, 0, none⟩) 4 cap] T)).drew).cell? ⟨w.heap.size, i, none⟩ = (#[Value.string ⟨#[x]⟩, .string ⟨#[y]⟩, .string ⟨#[y]⟩, .string ⟨#[x]⟩] : Array Value)[i]? := by
    intro i hi
    rw [World.cell?_drew, World.cell?_alloc_past _ _ _ (by simp)]
    have h2 : (w.alloc (.cells (#[.string ⟨#[x]⟩, .string ⟨#[y]⟩, .string ⟨#[y]⟩, .string ⟨#[x]⟩] ++ Z) 9)).cell? ⟨w.heap.size, i, none⟩ = (#[Value.string ⟨#[x]⟩, .string ⟨#[y]⟩, .string ⟨#[y]⟩, .string ⟨#[x]⟩] ++ Z : Array Value)[i]? :=
      Lib.cell_of_heap (box_heap _ _ _) i
    rw [h2, Array.getElem?_append_left (by simpa using hi)]
  refine ⟨hg 0, hg 1, hg 3, hg 4, fun j => ?_, hh 0 (by omega), hh 1 (by omega), hh 2 (by omega), hh 3 (by omega), by omega⟩
  simp
set_option maxRecDepth 100000 in
set_option maxHeartbeats 1600000 in
theorem new_calls (hh : Nat) (x y : UInt8) (w : World) (hB : hh < w.heap.size)
    (e0 : w.cell? ⟨hh, 0, none⟩ = some (.string ⟨#[x]⟩)) (e1 : w.cell? ⟨hh, 1, none⟩ = some (.string ⟨#[y]⟩)) (e2 : w.cell? ⟨hh, 2, none⟩ = some (.string ⟨#[y]⟩)) (e3 : w.cell? ⟨hh, 3, none⟩ = some (.string ⟨#[x]⟩)) :
    Calls Tryz.prog 95 #[.slice (some ⟨hh, 0, none⟩) 4 4] w fun e w' => ∃ g h cap, e = .returned (.pointer (some ⟨g, 0, none⟩)) ∧ w.heap.size ≤ g ∧ Fresh g h cap x y w' ∧ Below w.heap.size w w' := by
  have hcap : (281474976710656 < Builtin.nextslicecap 4 0 * Tryz.t9.bytes) = False := eq_false (by decide +kernel)
  go_enter Tryz.func95, Tryz.ntmps95
  go_wp2
  go_ret
  refine ⟨w.heap.size + 1, w.heap.size, (Question.appendCap 4 0 9).cut (w.tape w.drawn (Question.appendCap 4 0 9)), rfl, by omega, fresh_new w _ _ _ x y, ?_⟩
  exact (((Below.refl w.heap.size w).alloc (Nat.le_refl _) _).alloc (by simp) _).drew
end Go.Proofs.YtjmeekceecpemaaGreatDoor.Once
namespace Go.Proofs.YtjmeekceecpemaaGreatDoor.Q
open Go.RowKit Go.Proofs.YtjmeekceecpemaaGreatDoorW.PrintWords Go.Proofs.YtjmeekceecpemaaGreatDoorW.PrintLast Go.Proofs.YtjmeekceecpemaaGreatDoorW.PrintMore
set_option linter.unusedVariables false
set_option maxRecDepth 100000 in
set_option maxHeartbeats 1600000 in
theorem flipped_one (a0 : ByteArray) (x y : UInt8) (hs : a0.size ≤ 1048576) (w : World) :
    Calls Tryz.prog 62 #[.string a0, .string ⟨#[x]⟩, .string ⟨#[y]⟩] w fun e w' => e = .returned (.string ⟨((bs a0).map (swapB x y)).toArray⟩) ∧ Below w.heap.size w w' := by
  have L0 : (w.alloc (.cells #[.string ⟨#[x]⟩, .string ⟨#[y]⟩, .string ⟨#[y]⟩, .string ⟨#[x]⟩] 9)).heap[w.heap.size]? = some (.cells #[.string ⟨#[x]⟩, .string ⟨#[y]⟩, .string ⟨#[y]⟩, .string ⟨#[x]⟩] 9 (0, 0)) := by show (Array.push _ _)[_]? = _; simp
  have L1 := Aside0.mk (fun i => Lib.cell_of_heap L0 i)
  clear L0
  go_enter Tryz.func62, Tryz.ntmps62
  go_wp2_with (first | (go_at_call 95; refine (Once.new_calls w.heap.size x y _ (by simp) (L1.out 0) (L1.out 1) (L1.out 2) (L1.out 3)).mono ?_; rintro e w2 ⟨g, h, cap, rfl, hg, hF, hb⟩; have HG := Aside0.mk hg; have HF := Aside0.mk hF; have HB := Aside0.mk hb; clear hg hF hb) | (go_at_call 96; refine (Once.replace_calls w.heap.size g h cap x y a0 hs _ HF.out (by have := HG.out; simp at this; omega)).mono ?_; rintro e w3 ⟨rfl, hb⟩))
  go_ret
  exact ⟨rfl, (((Below.refl w.heap.size w).alloc (Nat.le_refl _) _).trans (HB.out.mono (by simp))).trans hb⟩
theorem ean_flipped.calls (a0 a1 a2 r : ByteArray) (w : World) (h : ean_flipped.f a0 a1 a2 = some r) :
    Calls Tryz.prog 62 #[.string a0, .string a1, .string a2] w fun e w' => e = .returned (.string r) ∧ Below w.heap.size w w' := by
  unfold ean_flipped.f at h
  split at h
  · rename_i x y h1 h2
    obtain rfl := one_byte h1
    obtain rfl := one_byte h2
    by_cases hs : a0.size ≤ 1048576
    · rw [if_pos hs] at h
      obtain rfl := Option.some.inj h
      exact flipped_one a0 x y hs w
    · rw [if_neg hs] at h; exact absurd h (by simp)
  · exact absurd h (by simp)
end Go.Proofs.YtjmeekceecpemaaGreatDoor.Q

/-
  DERIVED: THE SHELF's CONTRACTS AT THIS DUMP, IN PLAIN WORDS (tools/lay-plain.mjs out of 'TryzRevSrc.lean', which tools/lay-shelf.mjs wrote): THE SAME DECLARATIONS UNDER THE SAME NAMES: 'import', 'namespace', 'open', 'def', 'theorem' AND NOTHING ELSE: no command of the shelf's: FOR A HAND-IN. Each laying: the table of numbers ('.._ren') and one theorem, a field a fact of the dump's own or the kernel's comparison; each contract: ONE APPLICATION.
-/
namespace Go.Proofs
open Go.Shelf
def Tryz.laysSlE35_ren : Go.Shelf.Ren := ⟨fun | 35 => 89 | n => n, fun | 22 => 40 | 23 => 5 | 3 => 3 | 4 => 4 | 0 => 0 | n => n, fun | n => n⟩
theorem Tryz.laysSlE35 : Go.Proofs.SlLaysE.n35 Tryz.prog Tryz.laysSlE35_ren := {
  mixed := by kernel_rfl
  f35 := ⟨Tryz.f89.name, by decide, Tryz.func89.trans (congrArg some (by kernel_rfl))⟩
  t0 := Tryz.underlying0
  a0 := Tryz.isAgg0
  z0 := Tryz.sizeOf0
  v0 := Tryz.zeroValue0
  t3 := Tryz.underlying3
  a3 := Tryz.isAgg3
  z3 := Tryz.sizeOf3
  v3 := Tryz.zeroValue3
  t4 := Tryz.underlying4
  a4 := Tryz.isAgg4
  z4 := Tryz.sizeOf4
  v4 := Tryz.zeroValue4
  t22 := Tryz.underlying40
  a22 := Tryz.isAgg40
  z22 := Tryz.sizeOf40
  v22 := Tryz.zeroValue40
  a23 := Tryz.isAgg5
  z23 := Tryz.sizeOf5 }
open Go.RowKit Go.Lib Go.Sort in
theorem Tryz.slices_Reverse {α : Type} [Inhabited α] (enc : α → Value) (h1 : OneCell enc) (blk off cap : Nat) (zs : List α) (w : World) (hH : Holds enc w blk off zs.toArray) (hsz : zs.length ≤ 9223372036854775807) :
    Calls Tryz.prog 89 #[.slice (some ⟨blk, off, none⟩) zs.length cap] w fun e w' => e = .returned (.tuple #[]) ∧ ∃ n, w' = putRow enc (Sort.ahead w n) blk off zs.reverse.toArray := AnyE.slices_Reverse Tryz.laysSlE35 enc h1 blk off cap zs w hH hsz
end Go.Proofs

/- ean.pattern: the contract. -/
namespace Go.Proofs.YtjmeekceecpemaaGreatDoor.Q
open Go.RowKit Go.Proofs.YtjmeekceecpemaaGreatDoorW.PrintWords Go.Proofs.YtjmeekceecpemaaGreatDoorW.PrintLast Go.Proofs.YtjmeekceecpemaaGreatDoorW.PrintMore
set_option linter.unusedVariables false
/-- The modules of the digits in set A. -/
def leftL : List (List UInt8) := [[48, 48, 48, 49, 49, 48, 49], [48, 48, 49, 49, 48, 48, 49], [48, 48, 49, 48, 48, 49, 49], [48, 49, 49, 49, 49, 48, 49], [48, 49, 48, 48, 48, 49, 49], [48, 49, 49, 48, 48, 48, 49], [48, 49, 48, 49, 49, 49, 49], [48, 49, 49, 49, 48, 49, 49], [48, 49, 49, 48, 49, 49, 49], [48, 48, 48, 49, 48, 49, 49]]
def patL (n : Nat) (set : Int) : List UInt8 :=
  if set = 65 then leftL.getD n [] else if set = 66 then ((leftL.getD n []).map (swapB 48 49)).reverse else (leftL.getD n []).map (swapB 48 49)
def ean_pattern.f (a0 a1 : Int) : Option ByteArray := if 48 ≤ a0 ∧ a0 ≤ 57 then some ⟨(patL (a0 - 48).toNat a1).toArray⟩ else none
def leftV : Array Value := #[.string ⟨#[48, 48, 48, 49, 49, 48, 49]⟩, .string ⟨#[48, 48, 49, 49, 48, 48, 49]⟩, .string ⟨#[48, 48, 49, 48, 48, 49, 49]⟩, .string ⟨#[48, 49, 49, 49, 49, 48, 49]⟩, .string ⟨#[48, 49, 48, 48, 48, 49, 49]⟩, .string ⟨#[48, 49, 49, 48, 48, 48, 49]⟩, .string ⟨#[48, 49, 48, 49, 49, 49, 49]⟩, .string ⟨#[48, 49, 49, 49, 48, 49, 49]⟩, .string ⟨#[48, 49, 49, 48, 49, 49, 49]⟩, .string ⟨#[48, 48, 48, 49, 48, 49, 49]⟩]
set_option maxRecDepth 100000 in
theorem left_calls (w : World) : Calls Tryz.prog 88 #[] w fun e w' => e = .returned (.agg leftV) ∧ Below w.heap.size w w' := by
  go_enter Tryz.func88, Tryz.ntmps88
  go_wp2
  refine bodyPost_ret (v := .agg leftV) (by simp only [results, Tryz.results88]; go_simp; first | done | rfl) rfl ⟨rfl, (Below.refl _ _).alloc (Nat.le_refl _) _⟩
theorem idx (n : Nat) (hn : n < 10) (W : World) : Sem.run Tryz.prog (Instr.index 102 (.agg #[.string ⟨#[48, 48, 48, 49, 49, 48, 49]⟩, .string ⟨#[48, 48, 49, 49, 48, 48, 49]⟩, .string ⟨#[48, 48, 49, 48, 48, 49, 49]⟩, .string ⟨#[48, 49, 49, 49, 49, 48, 49]⟩, .string ⟨#[48, 49, 48, 48, 48, 49, 49]⟩, .string ⟨#[48, 49, 49, 48, 48, 48, 49]⟩, .string ⟨#[48, 49, 48, 49, 49, 49, 49]⟩, .string ⟨#[48, 49, 49, 49, 48, 49, 49]⟩, .string ⟨#[48, 49, 49, 48, 49, 49, 49]⟩, .string ⟨#[48, 48, 48, 49, 48, 49, 49]⟩]) (.int .u8 (n : Int))) W = .ok (leftV.getD n undef) W := by
  rcases (show n = 0 ∨ n = 1 ∨ n = 2 ∨ n = 3 ∨ n = 4 ∨ n = 5 ∨ n = 6 ∨ n = 7 ∨ n = 8 ∨ n = 9 by omega) with rfl | rfl | rfl | rfl | rfl | rfl | rfl | rfl | rfl | rfl
  all_goals kernel_rfl
theorem left_val (n : Nat) (hn : n < 10) : leftV.getD n undef = .string ⟨(leftL.getD n []).toArray⟩ := by
  rcases (show n = 0 ∨ n = 1 ∨ n = 2 ∨ n = 3 ∨ n = 4 ∨ n = 5 ∨ n = 6 ∨ n = 7 ∨ n = 8 ∨ n = 9 by omega) with rfl | rfl | rfl | rfl | rfl | rfl | rfl | rfl | rfl | rfl <;> rfl
theorem left_len (n : Nat) (hn : n < 10) : (leftL.getD n []).length = 7 := by
  rcases (show n = 0 ∨ n = 1 ∨ n = 2 ∨ n = 3 ∨ n = 4 ∨ n = 5 ∨ n = 6 ∨ n = 7 ∨ n = 8 ∨ n = 9 by omega) with rfl | rfl | rfl | rfl | rfl | rfl | rfl | rfl | rfl | rfl <;> rfl
set_option maxRecDepth 100000 in
set_option maxHeartbeats 1600000 in
theorem pat_A (n : Nat) (hn : n < 10) (s : ByteArray) (hs : leftV.getD n undef = .string s) (w : World) : Calls Tryz.prog 53 #[.int .u8 (48 + (n : Int)), .int .u8 65] w fun e w' => e = .returned (.string s) ∧ Below w.heap.size w w' := by
  have hix := idx n hn
  rw [hs] at hix
  have hm : (48 + (n : Int) - 48) = (n : Int) := by omega
  clear hs
  go_enter Tryz.func53, Tryz.ntmps53
  go_wp2_with (first | (go_at_call 88; refine (left_calls _).mono ?_; rintro e w2 ⟨rfl, hb⟩; unfold leftV))
  go_ret
  exact ⟨rfl, hb⟩
set_option maxRecDepth 100000 in
set_option maxHeartbeats 1600000 in
theorem pat_C (n : Nat) (hn : n < 10) (a1 : Int) (h1 : a1 ≠ 65) (h2 : a1 ≠ 66) (s : ByteArray) (hz : s.size ≤ 1048576) (hs : leftV.getD n undef = .string s) (w : World) : Calls Tryz.prog 53 #[.int .u8 (48 + (n : Int)), .int .u8 a1] w fun e w' => e = .returned (.string ⟨((bs s).map (swapB 48 49)).toArray⟩) ∧ Below w.heap.size w w' := by
  have hix := idx n hn
  rw [hs] at hix
  have hm : (48 + (n : Int) - 48) = (n : Int) := by omega
  have b1 : (a1 == 65) = false := beq_eq_false_iff_ne.2 h1
  have b2 : (a1 == 66) = false := beq_eq_false_iff_ne.2 h2
  clear hs
  go_enter Tryz.func53, Tryz.ntmps53
  go_wp2_with (first | (go_at_call 88; refine (left_calls _).mono ?_; rintro e w2 ⟨rfl, hb⟩; have HB := Aside0.mk hb; clear hb; unfold leftV) | (go_at_call 62; refine (flipped_one s 48 49 hz _).mono ?_; rintro e w3 ⟨rfl, hb⟩; replace HB := Aside0.mk (below_step HB.out hb); clear hb))
  go_ret
  exact ⟨rfl, HB.out⟩
theorem byte_one : OneCell (fun n : Int => Value.int .u8 n) := fun _ => rfl
theorem bytes_hold (W : World) (s : ByteArray) : Go.Sort.Holds (fun n : Int => Value.int .u8 n) (Lib.bytesWorld W 5 s) W.heap.size 0 ((bs s).map fun b => (b.toNat : Int)).toArray := by
  intro j hj
  have hj2 : j < s.size := by simpa [bs_len] using hj
  have hl : j < (bs s).length := by rw [bs_len]; exact hj2
  have h := Once.bytes_row W s 0 0 0 (fun k hk => by omega) j hj2
  rw [Nat.zero_add]
  refine ⟨?_, h.2⟩
  rw [h.1]
  unfold Once.part
  rw [if_neg (by omega), List.getD_eq_getElem?_getD, List.getElem?_eq_getElem hl]
  simp [hl]
theorem held_string (W : World) (h c : Nat) (l : List UInt8) (hs : l.length ≤ 9223372036854775807) (hH : Go.Sort.Holds (fun n : Int => Value.int .u8 n) W h 0 (l.map fun b => (b.toNat : Int)).toArray) :
    Sem.run Tryz.prog (convert 40 9 (.slice (some ⟨h, 0, none⟩) l.length c)) W = .ok (.string ⟨l.toArray⟩) W := by
  have h2 := Once.string_of_reads_ (P := Tryz.prog) (w := W) (src := 40) (dst := 9) (e := 5) (A := some ⟨h, 0, none⟩) (n := l.length) (c := c) (xs := l.map fun b => (b.toNat : Int)) Tryz.underlying40 Tryz.underlying5 Tryz.underlying9
    ⟨by simp, hs, fun _ => ⟨_, rfl, fun j hj => ?_⟩⟩
  · have e : strOfNums (l.map fun b => (b.toNat : Int)) = ⟨l.toArray⟩ := by
      apply bs_inj
      show ((l.map fun b => (b.toNat : Int)).map fun n => UInt8.ofNat n.toNat) = l
      rw [List.map_map]
      conv => rhs; rw [← List.map_id l]
      apply List.map_congr_left
      intro b _
      simp
    rw [h2, e]
  · have h3 := (hH j (by simpa using hj)).1
    have e : (Addr.add ⟨h, 0, none⟩ j) = ⟨h, j, none⟩ := by rw [Addr.add]; split <;> simp_all
    rw [Nat.zero_add] at h3
    rw [e, h3]
    simp [hj]
theorem rev_calls (W : World) (l : List UInt8) (hl : l.length ≤ 1048576) (c : Nat) :
    Calls Tryz.prog 89 #[.slice (some ⟨W.heap.size, 0, none⟩) l.length c] (Lib.bytesWorld W 5 ⟨l.toArray⟩) fun e w' => e = .returned (.tuple #[]) ∧ Below W.heap.size W w' ∧ Go.Sort.Holds (fun n : Int => Value.int .u8 n) w' W.heap.size 0 (l.reverse.map fun b => (b.toNat : Int)).toArray := by
  have H := bytes_hold W ⟨l.toArray⟩
  have h := Tryz.slices_Reverse (fun n : Int => Value.int .u8 n) byte_one W.heap.size 0 c ((bs ⟨l.toArray⟩).map fun b => (b.toNat : Int)) (Lib.bytesWorld W 5 ⟨l.toArray⟩) H (by rw [List.length_map]; show l.length ≤ _; omega)
  have e0 : (bs ⟨l.toArray⟩) = l := rfl
  rw [e0] at h H
  rw [List.length_map] at h
  refine h.mono fun e w' ⟨he, n, hw⟩ => ⟨he, ?_, ?_⟩
  · subst hw
    exact Go.Lib.below_putRow (Lib.bytesWorld_below W 5 ⟨l.toArray⟩) (Nat.le_refl _)
  · subst hw
    rw [← List.map_reverse]
    exact Go.Sort.holds_putRow _ _ _ _ _ _ (Go.Sort.holds_ahead _ _ n _ _ _ H) (by simp)
set_option maxRecDepth 100000 in
set_option maxHeartbeats 1600000 in
theorem pat_B (n : Nat) (hn : n < 10) (s : ByteArray) (hz : s.size ≤ 1048576) (hs : leftV.getD n undef = .string s) (w : World) : Calls Tryz.prog 53 #[.int .u8 (48 + (n : Int)), .int .u8 66] w fun e w' => e = .returned (.string ⟨((bs s).map (swapB 48 49)).reverse.toArray⟩) ∧ Below w.heap.size w w' := by
  have hix := idx n hn
  rw [hs] at hix
  have hm : (48 + (n : Int) - 48) = (n : Int) := by omega
  clear hs
  obtain ⟨l, hl⟩ : ∃ l, (bs s).map (swapB 48 49) = l := ⟨_, rfl⟩
  have hll : l.length ≤ 1048576 := by rw [← hl, List.length_map, bs_len]; exact hz
  have FL : ∀ W, Calls Tryz.prog 62 #[.string s, .string ⟨#[48]⟩, .string ⟨#[49]⟩] W fun e w' => e = .returned (.string ⟨l.toArray⟩) ∧ Below W.heap.size W w' := fun W => by rw [← hl]; exact flipped_one s 48 49 hz W
  have FH := Lib.hid FL
  rw [hl]
  clear hl FL
  have hcv : ∀ W : World, Sem.run Tryz.prog (convert 9 40 (.string ⟨l.toArray⟩)) W = _ := fun W => Lib.run_convert_string_bytes W 9 40 5 _ Tryz.underlying9 Tryz.underlying40 Tryz.underlying5
  have hsz : (⟨l.toArray⟩ : ByteArray).size = l.length := by rw [← bs_len]; rfl
  rw [hsz] at hcv
  go_enter Tryz.func53, Tryz.ntmps53
  go_wp2_with (first | (go_at_call 88; refine (left_calls _).mono ?_; rintro e w2 ⟨rfl, hb⟩; have HB := Aside0.mk hb; clear hb; unfold leftV) | (go_at_call 62; refine (FH.out _).mono ?_; rintro e w3 ⟨rfl, hb⟩; replace HB := Aside0.mk (below_step HB.out hb); clear hb) | (go_at_call 89; refine (rev_calls w3 l hll _).mono ?_; rintro e w4 ⟨rfl, hb, hh⟩; have hcv3 := held_string w4 w3.heap.size (grownCap w3 l.length 0 5) l.reverse (by rw [List.length_reverse]; omega) hh; rw [List.length_reverse] at hcv3; replace HB := Aside0.mk (below_step HB.out hb); clear hb hh))
  go_ret
  exact ⟨rfl, HB.out⟩
theorem ean_pattern.calls (a0 a1 : Int) (r : ByteArray) (w : World) (h : ean_pattern.f a0 a1 = some r) :
    Calls Tryz.prog 53 #[.int .u8 a0, .int .u8 a1] w fun e w' => e = .returned (.string r) ∧ Below w.heap.size w w' := by
  unfold ean_pattern.f at h
  by_cases hc : 48 ≤ a0 ∧ a0 ≤ 57
  rotate_left
  · rw [if_neg hc] at h; exact absurd h (by simp)
  rw [if_pos hc] at h
  obtain rfl := Option.some.inj h
  obtain ⟨n, hn⟩ : ∃ n : Nat, a0 = 48 + (n : Int) := ⟨(a0 - 48).toNat, by omega⟩
  subst hn
  have hn : n < 10 := by omega
  have e : (48 + (n : Int) - 48).toNat = n := by omega
  rw [e]
  have hv := left_val n hn
  have hl := left_len n hn
  have hz : (⟨(leftL.getD n []).toArray⟩ : ByteArray).size ≤ 1048576 := by rw [← bs_len]; show (leftL.getD n []).length ≤ _; omega
  unfold patL
  by_cases h1 : a1 = 65
  · subst h1
    rw [if_pos rfl]
    exact pat_A n hn _ hv w
  · rw [if_neg h1]
    by_cases h2 : a1 = 66
    · subst h2
      rw [if_pos rfl]
      exact pat_B n hn _ hz hv w
    · rw [if_neg h2]
      exact pat_C n hn a1 h1 h2 _ hz hv w
end Go.Proofs.YtjmeekceecpemaaGreatDoor.Q

namespace Go.Proofs.YtjmeekceecpemaaGreatDoor.Q
open Go.RowKit Go.Proofs.YtjmeekceecpemaaGreatDoorW.PrintWords Go.Proofs.YtjmeekceecpemaaGreatDoorW.PrintLast Go.Proofs.YtjmeekceecpemaaGreatDoorW.PrintMore

set_option linter.unusedVariables false
set_option linter.unusedSimpArgs false

/-! ### ean_drawn: function 31 -/
def ean_drawn.l0 : Nat → ByteArray → ByteArray → ByteArray → List ByteArray → Int → Int → Option (ByteArray)
 | 0, _, _, _, _, _, _ => none
 | k + 1, x0, x1, x2, x7, x10, x11 => if x11 < x10 then (if 0 ≤ x11 then (if x11 < (x0.size : Int) then (if x11 < (x1.size : Int) then ((ean_pattern.f (bt x0 x11) (bt x1 x11)).bind fun t115 => (if x7.length < 8796093022208 then (ean_drawn.l0 k x0 x1 x2 (x7 ++ [t115]) x10 (wrap64 (x11 + 1))) else (none))) else (none)) else (none)) else (none)) else ((strings_Join.f x7 x2).bind fun t119 => (some t119))
def ean_drawn.f (k : Nat) (a0 : ByteArray) (a1 : ByteArray) (a2 : ByteArray) : Option (ByteArray) := ean_drawn.l0 k a0 a1 a2 ([] : List ByteArray) (a0.size : Int) 0
theorem ean_drawn.mono_l : ∀ k, (∀ y0 y1 y2 y3 y4 y5, LeO (ean_drawn.l0 k y0 y1 y2 y3 y4 y5) (ean_drawn.l0 (k + 1) y0 y1 y2 y3 y4 y5))
 | 0 => fun _ _ _ _ _ _ r h => by simp [ean_drawn.l0] at h
 | k + 1 => by
  have ih0 := ean_drawn.mono_l k
  ·intro y0 y1 y2 y3 y4 y5
   unfold ean_drawn.l0
   repeat' with_reducible first | exact ih0 _ _ _ _ _ _ | exact LeO.refl _ | exact LeO.none _ | refine LeO.ite ?_ ?_ | refine LeO.bind ?_ (fun _ => ?_)
theorem ean_drawn.mono : ∀ a0 a1 a2 k, LeO (ean_drawn.f k a0 a1 a2) (ean_drawn.f (k + 1) a0 a1 a2) := by
 intro a0 a1 a2 k
 have ih0 := ean_drawn.mono_l k
 unfold ean_drawn.f
 repeat' with_reducible first | exact ih0 _ _ _ _ _ _ | exact LeO.refl _ | exact LeO.none _ | refine LeO.ite ?_ ?_ | refine LeO.bind ?_ (fun _ => ?_)
def ean_drawn.T5 : Bool × List (List Nat × List Nat) := (true, [([], []), ([], []), ([], []), ([1, 2], [1, 2]), ([], []), ([], []), ([4, 5], [4, 5]), ([3, 6], [3, 6]), ([7], [7]), ([0, 8, 7], [0, 8]), ([9, 9, 0, 1, 2, 3, 4, 5, 6, 7, 8, 9], [0, 9])])
def ean_drawn.B5 : List Nat := [0, 0, 0, 6, 0, 0, 48, 126, 254, 511, 1023]
theorem ean_drawn.tab5 : rtab .any (opsOf Tryz.f31 5) = ean_drawn.T5 := kr
theorem ean_drawn.bits5 : waitsOk ean_drawn.T5.2 ean_drawn.B5 = true := kr
set_option maxHeartbeats 8000000 in
set_option maxRecDepth 100000 in
theorem ean_drawn.calls (k : Nat) (a0 : ByteArray) (a1 : ByteArray) (a2 : ByteArray) (r : ByteArray) (w : World) (h : ean_drawn.f k a0 a1 a2 = some r) :
  Calls Tryz.prog 31 #[.string a0, .string a1, .string a2] w fun e w' => e = .returned (.string r) ∧ Below w.heap.size w w' := by
 have HB := Aside0.mk (Below.refl w.heap.size w)
 have H := h
 clear h
 unfold ean_drawn.f at H
 have H' := Aside0.mk H
 clear H
 go_enter Tryz.func31, Tryz.ntmps31
 go_wp2
 go_loopg [7, 11] k (fun kq v7 v11 w' => ∃ (x7_1 : List ByteArray) (x11_1 : Int), v11 = .int .i64 x11_1 ∧ Aside0 (ean_drawn.l0 kq a0 a1 a2 x7_1 (a0.size : Int) x11_1 = some r) ∧ Aside0 (kq ≤ k) ∧ Aside0 (Kd.R Kd.string 9 w' w.heap.size (fun _ => True) v7 x7_1) ∧ Aside0 (Below w.heap.size w w'))
 case atStart => exact ⟨(([] : List ByteArray)), (0), rs, H', ⟨Nat.le_refl _⟩, ⟨by first | exact Kd.R_nil _ _ _ _ _ | exact Kd.N_nil _ _ _ _ _ | exact Kd.V_nil _ _ _ _ _ | exact Kd.Q_nil _ _ _ _ _ | exact Kd.S_nil _ _ _ _ _⟩, ⟨bw⟩⟩
 case round =>
  clear H'
  obtain ⟨x7_1, x11_1, rfl, HA, HK1, HO_7, HB⟩ := hrel
  cases gk with
  | zero => exact absurd HA.out (by simp [ean_drawn.l0])
  | succ k1 =>
   have H := HA.out
   clear HA
   simp only [ean_drawn.l0] at H
   replace H := ifc H
   obtain ⟨c4, H⟩ | ⟨c4, H⟩ := H
   rotate_left
   ·have c4b0 : decide (x11_1 < (a0.size : Int)) = false := decide_eq_false c4
    clear c4
    replace H := bd H
    obtain ⟨t119, A15, H⟩ := H
    obtain rfl := Option.some.inj H
    obtain ⟨Ao16, co16, eo16⟩ := Kd.R_slice HO_7.out
    subst eo16
    go_wp2_with (first | ((with_reducible refine gate_callee (f := 64) rfl ?_); refine goesL_ (some 27) rfl rfl Tryz.func64 kr rfl #[.slice Ao16 x7_1.length co16, .string a2] rfl ar ?_; (with_reducible refine (strings_Join.calls _ _ x7_1 a2 t119 _ ?side1 ?side2 A15.out).mono ?_); (case side1 => repeat (first | exact (Kd.R_reads' HO_7.out).2.2 | (with_reducible refine Kd.C_alloc ?_ _) | (with_reducible refine Kd.C_drewN ?_ _) | (with_reducible refine Kd.C_drew ?_))); (case side2 => exact (Kd.R_reads' HO_7.out).2.1); rintro e w17 ⟨rfl, hb⟩; refine ⟨_, rfl, ?_⟩; replace HO_7 := Aside0.mk (Kd.R_below (kd HO_7) hb); replace HB := Aside0.mk (below_step bw hb); clear hb))
    go_ret
    exact ⟨es, bw⟩
   have c4b0 : decide (x11_1 < (a0.size : Int)) = true := decide_eq_true c4
   clear c4
   replace H := ifn H
   obtain ⟨c5, H⟩ := H
   have c5b0 : decide (0 ≤ x11_1) = true := decide_eq_true c5
   clear c5
   by_cases c6 : x11_1 < (a0.size : Int)
   rotate_left
   ·rw [if_neg c6] at H
    exact absurd H (by simp)
   rw [if_pos c6] at H
   have c6b0 : decide (x11_1 < (a0.size : Int)) = true := decide_eq_true c6
   clear c6
   replace H := ifn H
   obtain ⟨c8, H⟩ := H
   have c8b0 : decide (x11_1 < (a1.size : Int)) = true := decide_eq_true c8
   clear c8
   replace H := bd H
   obtain ⟨t115, A10, H⟩ := H
   by_cases c11 : x7_1.length < 8796093022208
   rotate_left
   ·rw [if_neg c11] at H
    exact absurd H (by simp)
   rw [if_pos c11] at H
   have LMc11 := Aside0.mk c11
   clear c11
   obtain ⟨y116, hy116⟩ : ∃ y_ : List ByteArray, y_ = (x7_1 ++ [t115]) := ⟨_, rfl⟩
   replace H : (ean_drawn.l0 k1 a0 a1 a2 y116 (a0.size : Int) (wrap64 (x11_1 + 1))) = some r := by first | (rw [hy116]; with_reducible exact H) | (have H2_ := (Option.bind_some _ _).symm.trans H; rw [hy116]; with_reducible exact H2_) | (have H2_ := (Option.bind_some _ _).symm.trans H; with_reducible exact H2_) | with_reducible exact H | (rw [hy116]; exact H) | exact H
   have Ny116 := Aside0.mk hy116
   clear hy116
   have H' := Aside0.mk H
   clear H
   try go_wp2
   have n0_ := Aside0.mk (Kd.R_drew HO_7.out)
   have n1_ := Aside0.mk (below_drew1 HB.out)
   clear HO_7
   clear HB
   have HO_7 := n0_
   have HB := n1_
   clear n0_ n1_
   have p7 : 0 ≤ (x11_1 : Int) := of_decide_eq_true am
   have q7 : x11_1 < (a0.size : Int) := of_decide_eq_true am
   have hx7 := bt_at a0 x11_1
   replace p7 := eq_true p7
   replace q7 := eq_true q7
   have p9 : 0 ≤ (x11_1 : Int) := of_decide_eq_true am
   have q9 : x11_1 < (a1.size : Int) := of_decide_eq_true am
   have hx9 := bt_at a1 x11_1
   replace p9 := eq_true p9
   replace q9 := eq_true q9
   refine start_ (n := 11) (S := fun w' => True) (ds := []) #[false, false, false, false, false, false, false, false, false, false, false] kr rfl rfl trivial (fun hHeld => ?_); refine with_tabW ean_drawn.tab5 ean_drawn.bits5 (fun HT_ HW_ => ?_)
   generalize wr.drew = w12 at HO_7 HB hHeld ⊢
   refine pu HT_ 0 14 (h := ?_)
   refine pu HT_ 1 15 (h := ?_)
   refine pu HT_ 2 16 (h := ?_)
   refine pu HT_ 4 18 (h := ?_)
   refine pu HT_ 5 19 (h := ?_)
   refine tk HT_ HW_ hHeld 3 17 (h := ?_)
   refine tk HT_ HW_ hHeld 6 20 (h := ?_)
   refine on HT_ 7 21 (h := fun K hK => ?_)
   refine goes_ Tryz.func53 kr rfl #[.int .u8 (bt a0 x11_1), .int .u8 (bt a1 x11_1)] (by rfl) rfl rfl ar ?_
   with_reducible refine (ean_pattern.calls (bt a0 x11_1) (bt a1 x11_1) t115 _ A10.out).mono ?_
   rintro e w13 ⟨rfl, hb⟩
   refine ⟨_, rfl, ?_⟩
   have n0_ := Aside0.mk (Kd.R_below (kd HO_7) hb)
   have n1_ := Aside0.mk (below_step bw hb)
   clear HO_7
   clear HB
   have HO_7 := n0_
   have HB := n1_
   clear n0_ n1_
   (try clear hb)
   (try clear hb2)
   (try clear hk)
   (try clear hi)
   refine hK.out _ _ trivial (fun hHeld => ?_)
   clear hK K
   refine nm (h := ?_)
   refine on HT_ 8 22 (h := fun K hK => ?_)
   refine value_ (w1 := ?_) (v := ?_) (by rfl) rfl ?_ ?_
   rotate_left 2
   ·go_simp
    constructor
    rotate_left
    ·rfl
    rfl
   refine hK.out _ _ trivial (fun hHeld => ?_)
   clear hK K
   refine nm (h := ?_)
   refine on HT_ 9 23 (h := fun K hK => ?_)
   refine Kd.R_append_step Kd.string (w0 := w) w.heap.size (by rfl) (.tmp 14) (.tmp 22) 67 9 (.string ⟨#[]⟩) 16 rfl Tryz.underlying67 info9 rfl (by decide) om u7 x7_1 t115 [.string t115] (fun _ => True) (fun _ => False) rfl rfl ?aP (fun _ hk => hk.elim) ?aF ?aO ?aB ?aS ?aL ?_
   (case aP => exact rfl)
   (case aB => exact bw)
   (case aF => exact (fun _ _ => trivial))
   (case aO => exact (kd HO_7))
   (case aS => exact (below_size bw))
   (case aL => have := LMc11.out; omega)
   intro v117 w14 ho hb hg hat
   rw [← Ny116.out] at ho
   have n0_ := Aside0.mk (hb)
   have n1_ := Aside0.mk (ho)
   clear HB
   clear HO_7
   have HB := n0_
   have HO118 := n1_
   clear n0_ n1_
   clear ho hb hg hat
   refine hK.out _ _ trivial (fun hHeld => ?_)
   clear hK K
   refine nm (h := ?_)
   refine pu HT_ 10 7 (h := ?_)
   refine done_ (done_of HT_.out kr) ?_
   try go_wp2
   go_roundg k1
   case measure => have := HK1.out; omega
   case rel => exact ⟨(y116), (wrap64 (x11_1 + 1)), rs, H', ⟨by have := HK1.out; omega⟩, ⟨kd HO118⟩, ⟨bw⟩⟩

end Go.Proofs.YtjmeekceecpemaaGreatDoor.Q
