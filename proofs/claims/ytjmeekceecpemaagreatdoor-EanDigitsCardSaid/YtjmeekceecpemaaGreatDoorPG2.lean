/- Joined by a program of this work (pack.py) out of the texts GFlip, ShelfRev, GPat, Qeandrawn, QeanparityE, Qeanparity13, Qeansymbol, Qeanparity2, Qeanparity5 of this seat, in build order. -/
import Derived.Test.YtjmeekceecpemaaGreatDoorPG1
import Derived.Ground.SlgnProg
import Derived.Shelf.SlicesE.Reverse
import Derived.Test.YtjmeekceecpemaaGreatDoorProg
import Derived.Lib.OwnBridge
/- ean.flipped: the contract: two bytes exchanged throughout a string. -/
namespace Go.Proofs.YtjmeekceecpemaaGreatDoor.Once
open Go.RowKit Go.Proofs.YtjmeekceecpemaaGreatDoorW.PrintWords Go.Proofs.YtjmeekceecpemaaGreatDoorW.PrintLast Go.Proofs.YtjmeekceecpemaaGreatDoorW.PrintMore
open Q (bs bs_len bt_nat)
set_option linter.unusedVariables false
theorem box_heap (w : World) (cs : Array Value) (T : Nat) : (w.alloc (Obj.cells cs T)).heap[w.heap.size]? = some (Obj.cells cs T (0, 0)) := by show (w.heap.push _)[w.heap.size]? = _; simp
theorem fresh_new (w : World) (Z : Array Value) (T cap : Nat) (x y : UInt8) :
    Fresh (w.heap.size + 1) w.heap.size cap x y (((w.alloc (.cells (#[.string ⟨#[x]⟩, .string ⟨#[y]⟩, .string ⟨#[y]⟩, .string ⟨#[x]⟩] ++ Z) 9)).alloc (.cells #[.int .u32 0, .int .i32 0, .int .u32 0, .nilIface, .slice (some ⟨w.heap.size, 0, none⟩) 4 cap] T)).drew) := by
  have s1 : (w.alloc (.cells (#[.string ⟨#[x]⟩, .string ⟨#[y]⟩, .string ⟨#[y]⟩, .string ⟨#[x]⟩] ++ Z) 9)).heap.size = w.heap.size + 1 := by simp
  have hg : ∀ i, (((w.alloc (.cells (#[.string ⟨#[x]⟩, .string ⟨#[y]⟩, .string ⟨#[y]⟩, .string ⟨#[x]⟩] ++ Z) 9)).alloc (.cells #[.int .u32 0, .int .i32 0, .int .u32 0, .nilIface, .slice (some ⟨w.heap.size, 0, none⟩) 4 cap] T)).drew).cell? ⟨w.heap.size + 1, i, none⟩ = (#[Value.int .u32 0, .int .i32 0, .int .u32 0, .nilIface, .slice (some ⟨w.heap.size, 0, none⟩) 4 cap] : Array Value)[i]? := by
    intro i
    rw [World.cell?_drew, ← s1]
    exact Lib.cell_of_heap (box_heap _ _ _) i
  have hh : ∀ i, i < 4 → (((w.alloc (.cells (#[.string ⟨#[x]⟩, .string ⟨#[y]⟩, .string ⟨#[y]⟩, .string ⟨#[x]⟩] ++ Z) 9)).alloc (.cells #[.int .u32 0, .int .i32 0, .int .u32 0, .nilIface, .slice (some ⟨w.heap.size, 0, none⟩) 4 cap] T)).drew).cell? ⟨w.heap.size, i, none⟩ = (#[Value.string ⟨#[x]⟩, .string ⟨#[y]⟩, .string ⟨#[y]⟩, .string ⟨#[x]⟩] : Array Value)[i]? := by
    intro i hi
    rw [World.cell?_drew, World.cell?_alloc_past _ _ _ (by simp)]
    have h2 : (w.alloc (.cells (#[.string ⟨#[x]⟩, .string ⟨#[y]⟩, .string ⟨#[y]⟩, .string ⟨#[x]⟩] ++ Z) 9)).cell? ⟨w.heap.size, i, none⟩ = (#[Value.string ⟨#[x]⟩, .string ⟨#[y]⟩, .string ⟨#[y]⟩, .string ⟨#[x]⟩] ++ Z : Array Value)[i]? :=
      Lib.cell_of_heap (box_heap _ _ _) i
    rw [h2, Array.getElem?_append_left (by simpa using hi)]
  refine ⟨hg 0, hg 1, hg 3, hg 4, fun j => ?_, hh 0 (by omega), hh 1 (by omega), hh 2 (by omega), hh 3 (by omega), by omega⟩
  simp
set_option maxRecDepth 100000 in
set_option maxHeartbeats 1600000 in
theorem new_calls (hh : Nat) (x y : UInt8) (w : World) (hB : hh < w.heap.size)
    (e0 : w.cell? ⟨hh, 0, none⟩ = some (.string ⟨#[x]⟩)) (e1 : w.cell? ⟨hh, 1, none⟩ = some (.string ⟨#[y]⟩)) (e2 : w.cell? ⟨hh, 2, none⟩ = some (.string ⟨#[y]⟩)) (e3 : w.cell? ⟨hh, 3, none⟩ = some (.string ⟨#[x]⟩)) :
    Calls Tryz.prog 95 #[.slice (some ⟨hh, 0, none⟩) 4 4] w fun e w' => ∃ g h cap, e = .returned (.pointer (some ⟨g, 0, none⟩)) ∧ w.heap.size ≤ g ∧ Fresh g h cap x y w' ∧ Below w.heap.size w w' := by
  have hcap : (281474976710656 < Builtin.nextslicecap 4 0 * Tryz.t9.bytes) = False := eq_false (by decide +kernel)
  go_enter Tryz.func95, Tryz.ntmps95
  go_wp2
  go_ret
  refine ⟨w.heap.size + 1, w.heap.size, (Question.appendCap 4 0 9).cut (w.tape w.drawn (Question.appendCap 4 0 9)), rfl, by omega, fresh_new w _ _ _ x y, ?_⟩
  exact (((Below.refl w.heap.size w).alloc (Nat.le_refl _) _).alloc (by simp) _).drew
end Go.Proofs.YtjmeekceecpemaaGreatDoor.Once
namespace Go.Proofs.YtjmeekceecpemaaGreatDoor.Q
open Go.RowKit Go.Proofs.YtjmeekceecpemaaGreatDoorW.PrintWords Go.Proofs.YtjmeekceecpemaaGreatDoorW.PrintLast Go.Proofs.YtjmeekceecpemaaGreatDoorW.PrintMore
set_option linter.unusedVariables false
set_option maxRecDepth 100000 in
set_option maxHeartbeats 1600000 in
theorem flipped_one (a0 : ByteArray) (x y : UInt8) (hs : a0.size ≤ 1048576) (w : World) :
    Calls Tryz.prog 62 #[.string a0, .string ⟨#[x]⟩, .string ⟨#[y]⟩] w fun e w' => e = .returned (.string ⟨((bs a0).map (swapB x y)).toArray⟩) ∧ Below w.heap.size w w' := by
  have L0 : (w.alloc (.cells #[.string ⟨#[x]⟩, .string ⟨#[y]⟩, .string ⟨#[y]⟩, .string ⟨#[x]⟩] 9)).heap[w.heap.size]? = some (.cells #[.string ⟨#[x]⟩, .string ⟨#[y]⟩, .string ⟨#[y]⟩, .string ⟨#[x]⟩] 9 (0, 0)) := by show (Array.push _ _)[_]? = _; simp
  have L1 := Aside0.mk (fun i => Lib.cell_of_heap L0 i)
  clear L0
  go_enter Tryz.func62, Tryz.ntmps62
  go_wp2_with (first | (go_at_call 95; refine (Once.new_calls w.heap.size x y _ (by simp) (L1.out 0) (L1.out 1) (L1.out 2) (L1.out 3)).mono ?_; rintro e w2 ⟨g, h, cap, rfl, hg, hF, hb⟩; have HG := Aside0.mk hg; have HF := Aside0.mk hF; have HB := Aside0.mk hb; clear hg hF hb) | (go_at_call 96; refine (Once.replace_calls w.heap.size g h cap x y a0 hs _ HF.out (by have := HG.out; simp at this; omega)).mono ?_; rintro e w3 ⟨rfl, hb⟩))
  go_ret
  exact ⟨rfl, (((Below.refl w.heap.size w).alloc (Nat.le_refl _) _).trans (HB.out.mono (by simp))).trans hb⟩
theorem ean_flipped.calls (a0 a1 a2 r : ByteArray) (w : World) (h : ean_flipped.f a0 a1 a2 = some r) :
    Calls Tryz.prog 62 #[.string a0, .string a1, .string a2] w fun e w' => e = .returned (.string r) ∧ Below w.heap.size w w' := by
  unfold ean_flipped.f at h
  split at h
  · rename_i x y h1 h2
    obtain rfl := one_byte h1
    obtain rfl := one_byte h2
    by_cases hs : a0.size ≤ 1048576
    · rw [if_pos hs] at h
      obtain rfl := Option.some.inj h
      exact flipped_one a0 x y hs w
    · rw [if_neg hs] at h; exact absurd h (by simp)
  · exact absurd h (by simp)
end Go.Proofs.YtjmeekceecpemaaGreatDoor.Q

/-
  DERIVED: THE SHELF's CONTRACTS AT THIS DUMP, IN PLAIN WORDS (tools/lay-plain.mjs out of 'TryzRevSrc.lean', which tools/lay-shelf.mjs wrote): THE SAME DECLARATIONS UNDER THE SAME NAMES: 'import', 'namespace', 'open', 'def', 'theorem' AND NOTHING ELSE: no command of the shelf's: FOR A HAND-IN. Each laying: the table of numbers ('.._ren') and one theorem, a field a fact of the dump's own or the kernel's comparison; each contract: ONE APPLICATION.
-/
namespace Go.Proofs
open Go.Shelf
def Tryz.laysSlE35_ren : Go.Shelf.Ren := ⟨fun | 35 => 89 | n => n, fun | 22 => 40 | 23 => 5 | 3 => 3 | 4 => 4 | 0 => 0 | n => n, fun | n => n⟩
theorem Tryz.laysSlE35 : Go.Proofs.SlLaysE.n35 Tryz.prog Tryz.laysSlE35_ren := {
  mixed := by kernel_rfl
  f35 := ⟨Tryz.f89.name, by decide, Tryz.func89.trans (congrArg some (by kernel_rfl))⟩
  t0 := Tryz.underlying0
  a0 := Tryz.isAgg0
  z0 := Tryz.sizeOf0
  v0 := Tryz.zeroValue0
  t3 := Tryz.underlying3
  a3 := Tryz.isAgg3
  z3 := Tryz.sizeOf3
  v3 := Tryz.zeroValue3
  t4 := Tryz.underlying4
  a4 := Tryz.isAgg4
  z4 := Tryz.sizeOf4
  v4 := Tryz.zeroValue4
  t22 := Tryz.underlying40
  a22 := Tryz.isAgg40
  z22 := Tryz.sizeOf40
  v22 := Tryz.zeroValue40
  a23 := Tryz.isAgg5
  z23 := Tryz.sizeOf5 }
open Go.RowKit Go.Lib Go.Sort in
theorem Tryz.slices_Reverse {α : Type} [Inhabited α] (enc : α → Value) (h1 : OneCell enc) (blk off cap : Nat) (zs : List α) (w : World) (hH : Holds enc w blk off zs.toArray) (hsz : zs.length ≤ 9223372036854775807) :
    Calls Tryz.prog 89 #[.slice (some ⟨blk, off, none⟩) zs.length cap] w fun e w' => e = .returned (.tuple #[]) ∧ ∃ n, w' = putRow enc (Sort.ahead w n) blk off zs.reverse.toArray := AnyE.slices_Reverse Tryz.laysSlE35 enc h1 blk off cap zs w hH hsz
end Go.Proofs

/- ean.pattern: the contract. -/
namespace Go.Proofs.YtjmeekceecpemaaGreatDoor.Q
open Go.RowKit Go.Proofs.YtjmeekceecpemaaGreatDoorW.PrintWords Go.Proofs.YtjmeekceecpemaaGreatDoorW.PrintLast Go.Proofs.YtjmeekceecpemaaGreatDoorW.PrintMore
set_option linter.unusedVariables false
/-- The modules of the digits in set A. -/
def leftL : List (List UInt8) := [[48, 48, 48, 49, 49, 48, 49], [48, 48, 49, 49, 48, 48, 49], [48, 48, 49, 48, 48, 49, 49], [48, 49, 49, 49, 49, 48, 49], [48, 49, 48, 48, 48, 49, 49], [48, 49, 49, 48, 48, 48, 49], [48, 49, 48, 49, 49, 49, 49], [48, 49, 49, 49, 48, 49, 49], [48, 49, 49, 48, 49, 49, 49], [48, 48, 48, 49, 48, 49, 49]]
def patL (n : Nat) (set : Int) : List UInt8 :=
  if set = 65 then leftL.getD n [] else if set = 66 then ((leftL.getD n []).map (swapB 48 49)).reverse else (leftL.getD n []).map (swapB 48 49)
def ean_pattern.f (a0 a1 : Int) : Option ByteArray := if 48 ≤ a0 ∧ a0 ≤ 57 then some ⟨(patL (a0 - 48).toNat a1).toArray⟩ else none
def leftV : Array Value := #[.string ⟨#[48, 48, 48, 49, 49, 48, 49]⟩, .string ⟨#[48, 48, 49, 49, 48, 48, 49]⟩, .string ⟨#[48, 48, 49, 48, 48, 49, 49]⟩, .string ⟨#[48, 49, 49, 49, 49, 48, 49]⟩, .string ⟨#[48, 49, 48, 48, 48, 49, 49]⟩, .string ⟨#[48, 49, 49, 48, 48, 48, 49]⟩, .string ⟨#[48, 49, 48, 49, 49, 49, 49]⟩, .string ⟨#[48, 49, 49, 49, 48, 49, 49]⟩, .string ⟨#[48, 49, 49, 48, 49, 49, 49]⟩, .string ⟨#[48, 48, 48, 49, 48, 49, 49]⟩]
set_option maxRecDepth 100000 in
theorem left_calls (w : World) : Calls Tryz.prog 88 #[] w fun e w' => e = .returned (.agg leftV) ∧ Below w.heap.size w w' := by
  go_enter Tryz.func88, Tryz.ntmps88
  go_wp2
  refine bodyPost_ret (v := .agg leftV) (by simp only [results, Tryz.results88]; go_simp; first | done | rfl) rfl ⟨rfl, (Below.refl _ _).alloc (Nat.le_refl _) _⟩
theorem idx (n : Nat) (hn : n < 10) (W : World) : Sem.run Tryz.prog (Instr.index 102 (.agg #[.string ⟨#[48, 48, 48, 49, 49, 48, 49]⟩, .string ⟨#[48, 48, 49, 49, 48, 48, 49]⟩, .string ⟨#[48, 48, 49, 48, 48, 49, 49]⟩, .string ⟨#[48, 49, 49, 49, 49, 48, 49]⟩, .string ⟨#[48, 49, 48, 48, 48, 49, 49]⟩, .string ⟨#[48, 49, 49, 48, 48, 48, 49]⟩, .string ⟨#[48, 49, 48, 49, 49, 49, 49]⟩, .string ⟨#[48, 49, 49, 49, 48, 49, 49]⟩, .string ⟨#[48, 49, 49, 48, 49, 49, 49]⟩, .string ⟨#[48, 48, 48, 49, 48, 49, 49]⟩]) (.int .u8 (n : Int))) W = .ok (leftV.getD n undef) W := by
  rcases (show n = 0 ∨ n = 1 ∨ n = 2 ∨ n = 3 ∨ n = 4 ∨ n = 5 ∨ n = 6 ∨ n = 7 ∨ n = 8 ∨ n = 9 by omega) with rfl | rfl | rfl | rfl | rfl | rfl | rfl | rfl | rfl | rfl
  all_goals kernel_rfl
theorem left_val (n : Nat) (hn : n < 10) : leftV.getD n undef = .string ⟨(leftL.getD n []).toArray⟩ := by
  rcases (show n = 0 ∨ n = 1 ∨ n = 2 ∨ n = 3 ∨ n = 4 ∨ n = 5 ∨ n = 6 ∨ n = 7 ∨ n = 8 ∨ n = 9 by omega) with rfl | rfl | rfl | rfl | rfl | rfl | rfl | rfl | rfl | rfl <;> rfl
theorem left_len (n : Nat) (hn : n < 10) : (leftL.getD n []).length = 7 := by
  rcases (show n = 0 ∨ n = 1 ∨ n = 2 ∨ n = 3 ∨ n = 4 ∨ n = 5 ∨ n = 6 ∨ n = 7 ∨ n = 8 ∨ n = 9 by omega) with rfl | rfl | rfl | rfl | rfl | rfl | rfl | rfl | rfl | rfl <;> rfl
set_option maxRecDepth 100000 in
set_option maxHeartbeats 1600000 in
theorem pat_A (n : Nat) (hn : n < 10) (s : ByteArray) (hs : leftV.getD n undef = .string s) (w : World) : Calls Tryz.prog 53 #[.int .u8 (48 + (n : Int)), .int .u8 65] w fun e w' => e = .returned (.string s) ∧ Below w.heap.size w w' := by
  have hix := idx n hn
  rw [hs] at hix
  have hm : (48 + (n : Int) - 48) = (n : Int) := by omega
  clear hs
  go_enter Tryz.func53, Tryz.ntmps53
  go_wp2_with (first | (go_at_call 88; refine (left_calls _).mono ?_; rintro e w2 ⟨rfl, hb⟩; unfold leftV))
  go_ret
  exact ⟨rfl, hb⟩
set_option maxRecDepth 100000 in
set_option maxHeartbeats 1600000 in
theorem pat_C (n : Nat) (hn : n < 10) (a1 : Int) (h1 : a1 ≠ 65) (h2 : a1 ≠ 66) (s : ByteArray) (hz : s.size ≤ 1048576) (hs : leftV.getD n undef = .string s) (w : World) : Calls Tryz.prog 53 #[.int .u8 (48 + (n : Int)), .int .u8 a1] w fun e w' => e = .returned (.string ⟨((bs s).map (swapB 48 49)).toArray⟩) ∧ Below w.heap.size w w' := by
  have hix := idx n hn
  rw [hs] at hix
  have hm : (48 + (n : Int) - 48) = (n : Int) := by omega
  have b1 : (a1 == 65) = false := beq_eq_false_iff_ne.2 h1
  have b2 : (a1 == 66) = false := beq_eq_false_iff_ne.2 h2
  clear hs
  go_enter Tryz.func53, Tryz.ntmps53
  go_wp2_with (first | (go_at_call 88; refine (left_calls _).mono ?_; rintro e w2 ⟨rfl, hb⟩; have HB := Aside0.mk hb; clear hb; unfold leftV) | (go_at_call 62; refine (flipped_one s 48 49 hz _).mono ?_; rintro e w3 ⟨rfl, hb⟩; replace HB := Aside0.mk (below_step HB.out hb); clear hb))
  go_ret
  exact ⟨rfl, HB.out⟩
theorem byte_one : OneCell (fun n : Int => Value.int .u8 n) := fun _ => rfl
theorem bytes_hold (W : World) (s : ByteArray) : Go.Sort.Holds (fun n : Int => Value.int .u8 n) (Lib.bytesWorld W 5 s) W.heap.size 0 ((bs s).map fun b => (b.toNat : Int)).toArray := by
  intro j hj
  have hj2 : j < s.size := by simpa [bs_len] using hj
  have hl : j < (bs s).length := by rw [bs_len]; exact hj2
  have h := Once.bytes_row W s 0 0 0 (fun k hk => by omega) j hj2
  rw [Nat.zero_add]
  refine ⟨?_, h.2⟩
  rw [h.1]
  unfold Once.part
  rw [if_neg (by omega), List.getD_eq_getElem?_getD, List.getElem?_eq_getElem hl]
  simp [hl]
theorem held_string (W : World) (h c : Nat) (l : List UInt8) (hs : l.length ≤ 9223372036854775807) (hH : Go.Sort.Holds (fun n : Int => Value.int .u8 n) W h 0 (l.map fun b => (b.toNat : Int)).toArray) :
    Sem.run Tryz.prog (convert 40 9 (.slice (some ⟨h, 0, none⟩) l.length c)) W = .ok (.string ⟨l.toArray⟩) W := by
  have h2 := Once.string_of_reads_ (P := Tryz.prog) (w := W) (src := 40) (dst := 9) (e := 5) (A := some ⟨h, 0, none⟩) (n := l.length) (c := c) (xs := l.map fun b => (b.toNat : Int)) Tryz.underlying40 Tryz.underlying5 Tryz.underlying9
    ⟨by simp, hs, fun _ => ⟨_, rfl, fun j hj => ?_⟩⟩
  · have e : strOfNums (l.map fun b => (b.toNat : Int)) = ⟨l.toArray⟩ := by
      apply bs_inj
      show ((l.map fun b => (b.toNat : Int)).map fun n => UInt8.ofNat n.toNat) = l
      rw [List.map_map]
      conv => rhs; rw [← List.map_id l]
      apply List.map_congr_left
      intro b _
      simp
    rw [h2, e]
  · have h3 := (hH j (by simpa using hj)).1
    have e : (Addr.add ⟨h, 0, none⟩ j) = ⟨h, j, none⟩ := by rw [Addr.add]; split <;> simp_all
    rw [Nat.zero_add] at h3
    rw [e, h3]
    simp [hj]
theorem rev_calls (W : World) (l : List UInt8) (hl : l.length ≤ 1048576) (c : Nat) :
    Calls Tryz.prog 89 #[.slice (some ⟨W.heap.size, 0, none⟩) l.length c] (Lib.bytesWorld W 5 ⟨l.toArray⟩) fun e w' => e = .returned (.tuple #[]) ∧ Below W.heap.size W w' ∧ Go.Sort.Holds (fun n : Int => Value.int .u8 n) w' W.heap.size 0 (l.reverse.map fun b => (b.toNat : Int)).toArray := by
  have H := bytes_hold W ⟨l.toArray⟩
  have h := Tryz.slices_Reverse (fun n : Int => Value.int .u8 n) byte_one W.heap.size 0 c ((bs ⟨l.toArray⟩).map fun b => (b.toNat : Int)) (Lib.bytesWorld W 5 ⟨l.toArray⟩) H (by rw [List.length_map]; show l.length ≤ _; omega)
  have e0 : (bs ⟨l.toArray⟩) = l := rfl
  rw [e0] at h H
  rw [List.length_map] at h
  refine h.mono fun e w' ⟨he, n, hw⟩ => ⟨he, ?_, ?_⟩
  · subst hw
    exact Go.Lib.below_putRow (Lib.bytesWorld_below W 5 ⟨l.toArray⟩) (Nat.le_refl _)
  · subst hw
    rw [← List.map_reverse]
    exact Go.Sort.holds_putRow _ _ _ _ _ _ (Go.Sort.holds_ahead _ _ n _ _ _ H) (by simp)
set_option maxRecDepth 100000 in
set_option maxHeartbeats 1600000 in
theorem pat_B (n : Nat) (hn : n < 10) (s : ByteArray) (hz : s.size ≤ 1048576) (hs : leftV.getD n undef = .string s) (w : World) : Calls Tryz.prog 53 #[.int .u8 (48 + (n : Int)), .int .u8 66] w fun e w' => e = .returned (.string ⟨((bs s).map (swapB 48 49)).reverse.toArray⟩) ∧ Below w.heap.size w w' := by
  have hix := idx n hn
  rw [hs] at hix
  have hm : (48 + (n : Int) - 48) = (n : Int) := by omega
  clear hs
  obtain ⟨l, hl⟩ : ∃ l, (bs s).map (swapB 48 49) = l := ⟨_, rfl⟩
  have hll : l.length ≤ 1048576 := by rw [← hl, List.length_map, bs_len]; exact hz
  have FL : ∀ W, Calls Tryz.prog 62 #[.string s, .string ⟨#[48]⟩, .string ⟨#[49]⟩] W fun e w' => e = .returned (.string ⟨l.toArray⟩) ∧ Below W.heap.size W w' := fun W => by rw [← hl]; exact flipped_one s 48 49 hz W
  have FH := Lib.hid FL
  rw [hl]
  clear hl FL
  have hcv : ∀ W : World, Sem.run Tryz.prog (convert 9 40 (.string ⟨l.toArray⟩)) W = _ := fun W => Lib.run_convert_string_bytes W 9 40 5 _ Tryz.underlying9 Tryz.underlying40 Tryz.underlying5
  have hsz : (⟨l.toArray⟩ : ByteArray).size = l.length := by rw [← bs_len]; rfl
  rw [hsz] at hcv
  go_enter Tryz.func53, Tryz.ntmps53
  go_wp2_with (first | (go_at_call 88; refine (left_calls _).mono ?_; rintro e w2 ⟨rfl, hb⟩; have HB := Aside0.mk hb; clear hb; unfold leftV) | (go_at_call 62; refine (FH.out _).mono ?_; rintro e w3 ⟨rfl, hb⟩; replace HB := Aside0.mk (below_step HB.out hb); clear hb) | (go_at_call 89; refine (rev_calls w3 l hll _).mono ?_; rintro e w4 ⟨rfl, hb, hh⟩; have hcv3 := held_string w4 w3.heap.size (grownCap w3 l.length 0 5) l.reverse (by rw [List.length_reverse]; omega) hh; rw [List.length_reverse] at hcv3; replace HB := Aside0.mk (below_step HB.out hb); clear hb hh))
  go_ret
  exact ⟨rfl, HB.out⟩
theorem ean_pattern.calls (a0 a1 : Int) (r : ByteArray) (w : World) (h : ean_pattern.f a0 a1 = some r) :
    Calls Tryz.prog 53 #[.int .u8 a0, .int .u8 a1] w fun e w' => e = .returned (.string r) ∧ Below w.heap.size w w' := by
  unfold ean_pattern.f at h
  by_cases hc : 48 ≤ a0 ∧ a0 ≤ 57
  rotate_left
  · rw [if_neg hc] at h; exact absurd h (by simp)
  rw [if_pos hc] at h
  obtain rfl := Option.some.inj h
  obtain ⟨n, hn⟩ : ∃ n : Nat, a0 = 48 + (n : Int) := ⟨(a0 - 48).toNat, by omega⟩
  subst hn
  have hn : n < 10 := by omega
  have e : (48 + (n : Int) - 48).toNat = n := by omega
  rw [e]
  have hv := left_val n hn
  have hl := left_len n hn
  have hz : (⟨(leftL.getD n []).toArray⟩ : ByteArray).size ≤ 1048576 := by rw [← bs_len]; show (leftL.getD n []).length ≤ _; omega
  unfold patL
  by_cases h1 : a1 = 65
  · subst h1
    rw [if_pos rfl]
    exact pat_A n hn _ hv w
  · rw [if_neg h1]
    by_cases h2 : a1 = 66
    · subst h2
      rw [if_pos rfl]
      exact pat_B n hn _ hz hv w
    · rw [if_neg h2]
      exact pat_C n hn a1 h1 h2 _ hz hv w
end Go.Proofs.YtjmeekceecpemaaGreatDoor.Q

namespace Go.Proofs.YtjmeekceecpemaaGreatDoor.Q
open Go.RowKit Go.Proofs.YtjmeekceecpemaaGreatDoorW.PrintWords Go.Proofs.YtjmeekceecpemaaGreatDoorW.PrintLast Go.Proofs.YtjmeekceecpemaaGreatDoorW.PrintMore

set_option linter.unusedVariables false
set_option linter.unusedSimpArgs false

/-! ### ean_drawn: function 31 -/
def ean_drawn.l0 : Nat → ByteArray → ByteArray → ByteArray → List ByteArray → Int → Int → Option (ByteArray)
 | 0, _, _, _, _, _, _ => none
 | k + 1, x0, x1, x2, x7, x10, x11 => if x11 < x10 then (if 0 ≤ x11 then (if x11 < (x0.size : Int) then (if x11 < (x1.size : Int) then ((ean_pattern.f (bt x0 x11) (bt x1 x11)).bind fun t115 => (if x7.length < 8796093022208 then (ean_drawn.l0 k x0 x1 x2 (x7 ++ [t115]) x10 (wrap64 (x11 + 1))) else (none))) else (none)) else (none)) else (none)) else ((strings_Join.f x7 x2).bind fun t119 => (some t119))
def ean_drawn.f (k : Nat) (a0 : ByteArray) (a1 : ByteArray) (a2 : ByteArray) : Option (ByteArray) := ean_drawn.l0 k a0 a1 a2 ([] : List ByteArray) (a0.size : Int) 0
theorem ean_drawn.mono_l : ∀ k, (∀ y0 y1 y2 y3 y4 y5, LeO (ean_drawn.l0 k y0 y1 y2 y3 y4 y5) (ean_drawn.l0 (k + 1) y0 y1 y2 y3 y4 y5))
 | 0 => fun _ _ _ _ _ _ r h => by simp [ean_drawn.l0] at h
 | k + 1 => by
  have ih0 := ean_drawn.mono_l k
  ·intro y0 y1 y2 y3 y4 y5
   unfold ean_drawn.l0
   repeat' first
   | (with_reducible exact ih0 _ _ _ _ _ _)
   | (with_reducible exact LeO.refl _)
   | (with_reducible exact LeO.none _)
   | (with_reducible refine LeO.ite ?_ ?_)
   | (with_reducible refine LeO.bind ?_ (fun _ => ?_))
   | exact ih0 _ _ _ _ _ _
   | exact LeO.none _
   | refine LeO.ite ?_ ?_
   | refine LeO.bind ?_ (fun _ => ?_)
theorem ean_drawn.mono : ∀ a0 a1 a2 k, LeO (ean_drawn.f k a0 a1 a2) (ean_drawn.f (k + 1) a0 a1 a2) := by
 intro a0 a1 a2 k
 have ih0 := ean_drawn.mono_l k
 unfold ean_drawn.f
 repeat' first
   | (with_reducible exact ih0 _ _ _ _ _ _)
   | (with_reducible exact LeO.refl _)
   | (with_reducible exact LeO.none _)
   | (with_reducible refine LeO.ite ?_ ?_)
   | (with_reducible refine LeO.bind ?_ (fun _ => ?_))
   | exact ih0 _ _ _ _ _ _
   | exact LeO.none _
   | refine LeO.ite ?_ ?_
   | refine LeO.bind ?_ (fun _ => ?_)
def ean_drawn.T5 : Bool × List (List Nat × List Nat) := (true, [([], []), ([], []), ([], []), ([1, 2], [1, 2]), ([], []), ([], []), ([4, 5], [4, 5]), ([3, 6], [3, 6]), ([7], [7]), ([0, 8, 7], [0, 8]), ([9, 9, 0, 1, 2, 3, 4, 5, 6, 7, 8, 9], [0, 9])])
def ean_drawn.B5 : List Nat := [0, 0, 0, 6, 0, 0, 48, 126, 254, 511, 1023]
theorem ean_drawn.tab5 : rtab .any (opsOf Tryz.f31 5) = ean_drawn.T5 := by kernel_rfl
theorem ean_drawn.bits5 : waitsOk ean_drawn.T5.2 ean_drawn.B5 = true := by kernel_rfl
set_option maxHeartbeats 8000000 in
set_option maxRecDepth 100000 in
theorem ean_drawn.calls (k : Nat) (a0 : ByteArray) (a1 : ByteArray) (a2 : ByteArray) (r : ByteArray) (w : World) (h : ean_drawn.f k a0 a1 a2 = some r) :
  Calls Tryz.prog 31 #[.string a0, .string a1, .string a2] w fun e w' => e = .returned (.string r) ∧ Below w.heap.size w w' := by
 have HB := Aside0.mk (Below.refl w.heap.size w)
 have H : (ean_drawn.l0 k a0 a1 a2 ([] : List ByteArray) (a0.size : Int) 0) = some r := h
 clear h
 have H' := Aside0.mk H
 clear H
 go_enter Tryz.func31, Tryz.ntmps31
 go_wp2
 go_loopg [7, 11] k (fun kq v7 v11 w' => ∃ (x7_1 : List ByteArray) (x11_1 : Int), v11 = .int .i64 x11_1 ∧ Aside0 (ean_drawn.l0 kq a0 a1 a2 x7_1 (a0.size : Int) x11_1 = some r) ∧ Aside0 (kq ≤ k) ∧ Aside0 (Kd.R Kd.string 9 w' w.heap.size (fun _ => True) v7 x7_1) ∧ Aside0 (Below w.heap.size w w'))
 case atStart => exact ⟨(([] : List ByteArray)), (0), (by first | rfl | (simp; done) | (simp [*]; done)), H', ⟨Nat.le_refl _⟩, ⟨by first | exact Kd.R_nil _ _ _ _ _ | exact Kd.N_nil _ _ _ _ _ | exact Kd.V_nil _ _ _ _ _ | exact Kd.Q_nil _ _ _ _ _ | exact Kd.S_nil _ _ _ _ _⟩, ⟨by repeat (first | (with_reducible first | exact HB.out | apply below_alloc | apply pw_below_drewN | apply below_drew1) | exact HB.out)⟩⟩
 case round =>
  clear H'
  obtain ⟨x7_1, x11_1, rfl, HA, HK1, HO_7, HB⟩ := hrel
  cases gk with
  | zero => exact absurd HA.out (by simp [ean_drawn.l0])
  | succ k1 =>
   have H := HA.out
   clear HA
   simp only [ean_drawn.l0] at H
   by_cases c4 : x11_1 < (a0.size : Int)
   ·rw [if_pos c4] at H
    have c4b0 : decide (x11_1 < (a0.size : Int)) = true := decide_eq_true c4
    clear c4
    by_cases c5 : 0 ≤ x11_1
    ·rw [if_pos c5] at H
     have c5b0 : decide (0 ≤ x11_1) = true := decide_eq_true c5
     clear c5
     by_cases c6 : x11_1 < (a0.size : Int)
     ·rw [if_pos c6] at H
      have c6b0 : decide (x11_1 < (a0.size : Int)) = true := decide_eq_true c6
      clear c6
      by_cases c8 : x11_1 < (a1.size : Int)
      ·rw [if_pos c8] at H
       have c8b0 : decide (x11_1 < (a1.size : Int)) = true := decide_eq_true c8
       clear c8
       replace H := Option.bind_eq_some_iff.mp H
       obtain ⟨t115, A100, H⟩ := H
       replace H : (if x7_1.length < 8796093022208 then (ean_drawn.l0 k1 a0 a1 a2 (x7_1 ++ [t115]) (a0.size : Int) (wrap64 (x11_1 + 1))) else (none)) = some r := H
       have A10 := Aside0.mk A100
       clear A100
       by_cases c11 : x7_1.length < 8796093022208
       ·rw [if_pos c11] at H
        have LMc11 := Aside0.mk c11
        clear c11
        obtain ⟨y116, hy116⟩ : ∃ y_ : List ByteArray, y_ = (x7_1 ++ [t115]) := ⟨_, rfl⟩
        replace H : (ean_drawn.l0 k1 a0 a1 a2 y116 (a0.size : Int) (wrap64 (x11_1 + 1))) = some r := by first | (rw [hy116]; with_reducible exact H) | (have H2_ := (Option.bind_some _ _).symm.trans H; rw [hy116]; with_reducible exact H2_) | (have H2_ := (Option.bind_some _ _).symm.trans H; with_reducible exact H2_) | with_reducible exact H | (rw [hy116]; exact H) | exact H
        have Ny116 := Aside0.mk hy116
        clear hy116
        have H' := Aside0.mk H
        clear H
        try go_wp2
        have n0_ := Aside0.mk (Kd.R_drew HO_7.out)
        have n1_ := Aside0.mk (below_drew1 HB.out)
        clear HO_7
        clear HB
        have HO_7 := n0_
        have HB := n1_
        clear n0_ n1_
        have p7 : 0 ≤ (x11_1 : Int) := of_decide_eq_true (by first | (with_reducible assumption) | assumption)
        have q7 : x11_1 < (a0.size : Int) := of_decide_eq_true (by first | (with_reducible assumption) | assumption)
        have hx7 := bt_at a0 x11_1
        replace p7 := eq_true p7
        replace q7 := eq_true q7
        have p9 : 0 ≤ (x11_1 : Int) := of_decide_eq_true (by first | (with_reducible assumption) | assumption)
        have q9 : x11_1 < (a1.size : Int) := of_decide_eq_true (by first | (with_reducible assumption) | assumption)
        have hx9 := bt_at a1 x11_1
        replace p9 := eq_true p9
        replace q9 := eq_true q9
        refine start_ (n := 11) (S := fun w' => True) (ds := []) #[false, false, false, false, false, false, false, false, false, false, false] (by kernel_rfl) rfl rfl trivial (fun hHeld => ?_); refine with_tabW ean_drawn.tab5 ean_drawn.bits5 (fun HT_ HW_ => ?_)
        generalize wr.drew = w12 at HO_7 HB hHeld ⊢
        refine pure_ (i := 0) (N := some 14) (v := ?_) (a' := ?_) #[true, false, false, false, false, false, false, false, false, false, false] rfl rfl (any_of HT_.out (by kernel_rfl)) (fun _ _ _ h => h) (Or.inl ⟨by rfl, ?_⟩) ?_ ?_
        rotate_left
        ·intro w'
         go_simp
         with_reducible rfl
        rotate_left
        ·simp only [Act.put, List.setIfInBounds_toArray, List.set_cons_zero, List.set_cons_succ, i64_w]
         rfl
        refine pure_ (i := 1) (N := some 15) (v := ?_) (a' := ?_) #[true, true, false, false, false, false, false, false, false, false, false] rfl rfl (any_of HT_.out (by kernel_rfl)) (fun _ _ _ h => h) (Or.inl ⟨by rfl, ?_⟩) ?_ ?_
        rotate_left
        ·intro w'
         go_simp
         with_reducible rfl
        rotate_left
        ·simp only [Act.put, List.setIfInBounds_toArray, List.set_cons_zero, List.set_cons_succ, i64_w]
         rfl
        refine pure_ (i := 2) (N := some 16) (v := ?_) (a' := ?_) #[true, true, true, false, false, false, false, false, false, false, false] rfl rfl (any_of HT_.out (by kernel_rfl)) (fun _ _ _ h => h) (Or.inl ⟨by rfl, ?_⟩) ?_ ?_
        rotate_left
        ·intro w'
         go_simp
         with_reducible rfl
        rotate_left
        ·simp only [Act.put, List.setIfInBounds_toArray, List.set_cons_zero, List.set_cons_succ, i64_w]
         rfl
        refine pure_ (i := 4) (N := some 18) (v := ?_) (a' := ?_) #[true, true, true, false, true, false, false, false, false, false, false] rfl rfl (any_of HT_.out (by kernel_rfl)) (fun _ _ _ h => h) (Or.inl ⟨by rfl, ?_⟩) ?_ ?_
        rotate_left
        ·intro w'
         go_simp
         with_reducible rfl
        rotate_left
        ·simp only [Act.put, List.setIfInBounds_toArray, List.set_cons_zero, List.set_cons_succ, i64_w]
         rfl
        refine pure_ (i := 5) (N := some 19) (v := ?_) (a' := ?_) #[true, true, true, false, true, true, false, false, false, false, false] rfl rfl (any_of HT_.out (by kernel_rfl)) (fun _ _ _ h => h) (Or.inl ⟨by rfl, ?_⟩) ?_ ?_
        rotate_left
        ·intro w'
         go_simp
         with_reducible rfl
        rotate_left
        ·simp only [Act.put, List.setIfInBounds_toArray, List.set_cons_zero, List.set_cons_succ, i64_w]
         rfl
        refine take_ (i := 3) (N := some 17) (v := ?_) (a' := ?_) #[true, true, true, true, true, true, false, false, false, false, false] rfl rfl (take_ofW HT_.out HW_.out (by kernel_rfl)) (fun _ _ _ h => h) (Or.inl ⟨by rfl, ?_⟩) hHeld ?_ ?_
        rotate_left
        ·intro w' _
         go_simp
         with_reducible rfl
        rotate_left
        ·simp only [Act.put, List.setIfInBounds_toArray, List.set_cons_zero, List.set_cons_succ, i64_w]
         rfl
        refine take_ (i := 6) (N := some 20) (v := ?_) (a' := ?_) #[true, true, true, true, true, true, true, false, false, false, false] rfl rfl (take_ofW HT_.out HW_.out (by kernel_rfl)) (fun _ _ _ h => h) (Or.inl ⟨by rfl, ?_⟩) hHeld ?_ ?_
        rotate_left
        ·intro w' _
         go_simp
         with_reducible rfl
        rotate_left
        ·simp only [Act.put, List.setIfInBounds_toArray, List.set_cons_zero, List.set_cons_succ, i64_w]
         rfl
        refine one_ (i := 7) (N := some 21) #[true, true, true, true, true, true, true, true, false, false, false] rfl rfl (one_of HT_.out (by kernel_rfl)) (by decide) (fun K hK => ?_)
        refine goes_ Tryz.func53 (by kernel_rfl) rfl #[.int .u8 (bt a0 x11_1), .int .u8 (bt a1 x11_1)] (by rfl) rfl rfl (by (try simp only [List.map_toArray, List.map_cons, List.map_nil]); first | done | rfl | (simp only [List.length_drop, List.length_take]; rfl)) ?_
        with_reducible refine (ean_pattern.calls (bt a0 x11_1) (bt a1 x11_1) t115 _ A10.out).mono ?_
        rintro e w13 ⟨rfl, hb⟩
        refine ⟨_, rfl, ?_⟩
        have n0_ := Aside0.mk (Kd.R_below (by (with_reducible repeat (first | apply Kd.R_alloc | apply Kd.R_drewN | apply Kd.R_drew)); exact HO_7.out) hb)
        have n1_ := Aside0.mk (below_step (by repeat (first | (with_reducible first | exact HB.out | apply below_alloc | apply pw_below_drewN | apply below_drew1) | exact HB.out)) hb)
        clear HO_7
        clear HB
        have HO_7 := n0_
        have HB := n1_
        clear n0_ n1_
        (try clear hb)
        (try clear hb2)
        (try clear hk)
        (try clear hi)
        refine hK.out _ _ trivial (fun hHeld => ?_)
        clear hK K
        refine norm_ (a' := ?_) ?_ ?_
        rotate_left
        ·show Act.put _ (some 21) _ = _
         simp only [Act.put, List.setIfInBounds_toArray, List.set_cons_zero, List.set_cons_succ, i64_w]
         rfl
        refine one_ (i := 8) (N := some 22) #[true, true, true, true, true, true, true, true, true, false, false] rfl rfl (one_of HT_.out (by kernel_rfl)) (by decide) (fun K hK => ?_)
        refine value_ (w1 := ?_) (v := ?_) (by rfl) rfl ?_ ?_
        rotate_left 2
        ·go_simp
         constructor
         ·rfl
         ·rfl
        refine hK.out _ _ trivial (fun hHeld => ?_)
        clear hK K
        refine norm_ (a' := ?_) ?_ ?_
        rotate_left
        ·show Act.put _ (some 22) _ = _
         simp only [Act.put, List.setIfInBounds_toArray, List.set_cons_zero, List.set_cons_succ, i64_w]
         rfl
        refine one_ (i := 9) (N := some 23) #[true, true, true, true, true, true, true, true, true, true, false] rfl rfl (one_of HT_.out (by kernel_rfl)) (by decide) (fun K hK => ?_)
        refine Kd.R_append_step Kd.string (w0 := w) w.heap.size (by rfl) (.tmp 14) (.tmp 22) 67 9 (.string ⟨#[]⟩) 16 rfl Tryz.underlying67 info9 rfl (by decide) (by omega) u7 x7_1 t115 [.string t115] (fun _ => True) (fun _ => False) rfl rfl ?aP (fun _ hk => hk.elim) ?aF ?aO ?aB ?aS ?aL ?_
        (case aP => exact rfl)
        (case aB => exact (by repeat (first | (with_reducible first | exact HB.out | apply below_alloc | apply pw_below_drewN | apply below_drew1) | exact HB.out)))
        (case aF => exact (fun _ _ => trivial))
        (case aO => exact (by (with_reducible repeat (first | apply Kd.R_alloc | apply Kd.R_drewN | apply Kd.R_drew)); exact HO_7.out))
        (case aS => exact (below_size (by repeat (first | (with_reducible first | exact HB.out | apply below_alloc | apply pw_below_drewN | apply below_drew1) | exact HB.out))))
        (case aL => have := LMc11.out; omega)
        intro v117 w14 ho hb hg hat
        rw [← Ny116.out] at ho
        have n0_ := Aside0.mk (hb)
        have n1_ := Aside0.mk (ho)
        clear HB
        clear HO_7
        have HB := n0_
        have HO118 := n1_
        clear n0_ n1_
        clear ho hb hg hat
        refine hK.out _ _ trivial (fun hHeld => ?_)
        clear hK K
        refine norm_ (a' := ?_) ?_ ?_
        rotate_left
        ·show Act.put _ (some 23) _ = _
         simp only [Act.put, List.setIfInBounds_toArray, List.set_cons_zero, List.set_cons_succ, i64_w]
         rfl
        refine pure_ (i := 10) (N := some 7) (v := ?_) (a' := ?_) #[true, true, true, true, true, true, true, true, true, true, true] rfl rfl (any_of HT_.out (by kernel_rfl)) (fun _ _ _ h => h) (Or.inl ⟨by rfl, ?_⟩) ?_ ?_
        rotate_left
        ·intro w'
         go_simp
         with_reducible rfl
        rotate_left
        ·simp only [Act.put, List.setIfInBounds_toArray, List.set_cons_zero, List.set_cons_succ, i64_w]
         rfl
        refine done_ (done_of HT_.out (by kernel_rfl)) ?_
        try go_wp2
        go_roundg k1
        case measure => have := HK1.out; omega
        case rel => exact ⟨(y116), (wrap64 (x11_1 + 1)), (by first | rfl | (simp; done) | (simp [*]; done)), H', ⟨by have := HK1.out; omega⟩, ⟨by (with_reducible repeat (first | apply Kd.R_alloc | apply Kd.R_drewN | apply Kd.R_drew)); exact HO118.out⟩, ⟨by repeat (first | (with_reducible first | exact HB.out | apply below_alloc | apply pw_below_drewN | apply below_drew1) | exact HB.out)⟩⟩
       ·rw [if_neg c11] at H
        exact absurd H (by simp)
      ·rw [if_neg c8] at H
       exact absurd H (by simp)
     ·rw [if_neg c6] at H
      exact absurd H (by simp)
    ·rw [if_neg c5] at H
     exact absurd H (by simp)
   ·rw [if_neg c4] at H
    have c4b0 : decide (x11_1 < (a0.size : Int)) = false := decide_eq_false c4
    clear c4
    replace H := Option.bind_eq_some_iff.mp H
    obtain ⟨t119, A150, H⟩ := H
    replace H : (some t119) = some r := H
    have A15 := Aside0.mk A150
    clear A150
    obtain rfl := Option.some.inj H
    obtain ⟨Ao16, co16, eo16⟩ := Kd.R_slice HO_7.out
    subst eo16
    go_wp2_with (first | ((with_reducible refine gate_callee (f := 64) rfl ?_); refine goesL_ (some 27) rfl rfl Tryz.func64 (by kernel_rfl) rfl #[.slice Ao16 x7_1.length co16, .string a2] rfl (by (try simp only [List.map_toArray, List.map_cons, List.map_nil]); first | done | rfl | (simp only [List.length_drop, List.length_take]; rfl)) ?_; (with_reducible refine (strings_Join.calls _ _ x7_1 a2 t119 _ ?side1 ?side2 A15.out).mono ?_); (case side1 => repeat (first | exact (Kd.R_reads' HO_7.out).2.2 | (with_reducible refine Kd.C_alloc ?_ _) | (with_reducible refine Kd.C_drewN ?_ _) | (with_reducible refine Kd.C_drew ?_))); (case side2 => exact (Kd.R_reads' HO_7.out).2.1); rintro e w17 ⟨rfl, hb⟩; refine ⟨_, rfl, ?_⟩; have n0_ := Aside0.mk (Kd.R_below (by (with_reducible repeat (first | apply Kd.R_alloc | apply Kd.R_drewN | apply Kd.R_drew)); exact HO_7.out) hb); have n1_ := Aside0.mk (below_step (by repeat (first | (with_reducible first | exact HB.out | apply below_alloc | apply pw_below_drewN | apply below_drew1) | exact HB.out)) hb); clear HO_7; clear HB; have HO_7 := n0_; have HB := n1_; clear n0_ n1_; (try clear hb); (try clear hb2); (try clear hk); (try clear hi)))
    go_ret
    exact ⟨by first | rfl | (simp [errW_none, errW_some] <;> rfl) | (simp [*, errW_none, errW_some] <;> rfl), by repeat (first | (with_reducible first | exact HB.out | apply below_alloc | apply pw_below_drewN | apply below_drew1) | exact HB.out)⟩

end Go.Proofs.YtjmeekceecpemaaGreatDoor.Q

namespace Go.Proofs.YtjmeekceecpemaaGreatDoor.Q
open Go.RowKit Go.Proofs.YtjmeekceecpemaaGreatDoorW.PrintWords Go.Proofs.YtjmeekceecpemaaGreatDoorW.PrintLast Go.Proofs.YtjmeekceecpemaaGreatDoorW.PrintMore

set_option linter.unusedVariables false
set_option linter.unusedSimpArgs false

/-! ### ean_parityE: function 61 -/
def ean_parityE.f  : Option (List ByteArray) := some (([(⟨#[66, 66, 66, 65, 65, 65]⟩ : ByteArray), (⟨#[66, 66, 65, 66, 65, 65]⟩ : ByteArray), (⟨#[66, 66, 65, 65, 66, 65]⟩ : ByteArray), (⟨#[66, 66, 65, 65, 65, 66]⟩ : ByteArray), (⟨#[66, 65, 66, 66, 65, 65]⟩ : ByteArray), (⟨#[66, 65, 65, 66, 66, 65]⟩ : ByteArray), (⟨#[66, 65, 65, 65, 66, 66]⟩ : ByteArray), (⟨#[66, 65, 66, 65, 66, 65]⟩ : ByteArray), (⟨#[66, 65, 66, 65, 65, 66]⟩ : ByteArray), (⟨#[66, 65, 65, 66, 65, 66]⟩ : ByteArray)] : List ByteArray))
set_option maxHeartbeats 8000000 in
set_option maxRecDepth 100000 in
theorem ean_parityE.calls  (r : List ByteArray) (w : World) (h : ean_parityE.f  = some r) :
    Calls Tryz.prog 61 #[] w fun e w' => ∃ v0_ : Value, e = .returned (v0_) ∧ Kd.R Kd.string 9 w' w.heap.size (fun _ => True) v0_ r ∧ Below w.heap.size w w' := by
  have HB := Aside0.mk (Below.refl w.heap.size w)
  have H : (some (([(⟨#[66, 66, 66, 65, 65, 65]⟩ : ByteArray), (⟨#[66, 66, 65, 66, 65, 65]⟩ : ByteArray), (⟨#[66, 66, 65, 65, 66, 65]⟩ : ByteArray), (⟨#[66, 66, 65, 65, 65, 66]⟩ : ByteArray), (⟨#[66, 65, 66, 66, 65, 65]⟩ : ByteArray), (⟨#[66, 65, 65, 66, 66, 65]⟩ : ByteArray), (⟨#[66, 65, 65, 65, 66, 66]⟩ : ByteArray), (⟨#[66, 65, 66, 65, 66, 65]⟩ : ByteArray), (⟨#[66, 65, 66, 65, 65, 66]⟩ : ByteArray), (⟨#[66, 65, 65, 66, 65, 66]⟩ : ByteArray)] : List ByteArray))) = some r := h
  clear h
  obtain ⟨y120, hy120⟩ : ∃ y_ : List ByteArray, y_ = (([(⟨#[66, 66, 66, 65, 65, 65]⟩ : ByteArray), (⟨#[66, 66, 65, 66, 65, 65]⟩ : ByteArray), (⟨#[66, 66, 65, 65, 66, 65]⟩ : ByteArray), (⟨#[66, 66, 65, 65, 65, 66]⟩ : ByteArray), (⟨#[66, 65, 66, 66, 65, 65]⟩ : ByteArray), (⟨#[66, 65, 65, 66, 66, 65]⟩ : ByteArray), (⟨#[66, 65, 65, 65, 66, 66]⟩ : ByteArray), (⟨#[66, 65, 66, 65, 66, 65]⟩ : ByteArray), (⟨#[66, 65, 66, 65, 65, 66]⟩ : ByteArray), (⟨#[66, 65, 65, 66, 65, 66]⟩ : ByteArray)] : List ByteArray)) := ⟨_, rfl⟩
  replace H : (some y120) = some r := by first | (rw [hy120]; with_reducible exact H) | (have H2_ := (Option.bind_some _ _).symm.trans H; rw [hy120]; with_reducible exact H2_) | (have H2_ := (Option.bind_some _ _).symm.trans H; with_reducible exact H2_) | with_reducible exact H | (rw [hy120]; exact H) | exact H
  have Ny120 := Aside0.mk hy120
  clear hy120
  obtain rfl := Option.some.inj H
  go_enter Tryz.func61, Tryz.ntmps61
  go_wp2_with (first | ((with_reducible refine gate_dst (N := 1) rfl ?_); refine Kd.R_lit Kd.string _ 9 ?hg (N := 1) ?hd (xs := ([(⟨#[66, 66, 66, 65, 65, 65]⟩ : ByteArray), (⟨#[66, 66, 65, 66, 65, 65]⟩ : ByteArray), (⟨#[66, 66, 65, 65, 66, 65]⟩ : ByteArray), (⟨#[66, 66, 65, 65, 65, 66]⟩ : ByteArray), (⟨#[66, 65, 66, 66, 65, 65]⟩ : ByteArray), (⟨#[66, 65, 65, 66, 66, 65]⟩ : ByteArray), (⟨#[66, 65, 65, 65, 66, 66]⟩ : ByteArray), (⟨#[66, 65, 66, 65, 66, 65]⟩ : ByteArray), (⟨#[66, 65, 66, 65, 65, 66]⟩ : ByteArray), (⟨#[66, 65, 65, 66, 65, 66]⟩ : ByteArray)] : List ByteArray)) (inner := [.string (⟨#[66, 66, 66, 65, 65, 65]⟩ : ByteArray), .string (⟨#[66, 66, 65, 66, 65, 65]⟩ : ByteArray), .string (⟨#[66, 66, 65, 65, 66, 65]⟩ : ByteArray), .string (⟨#[66, 66, 65, 65, 65, 66]⟩ : ByteArray), .string (⟨#[66, 65, 66, 66, 65, 65]⟩ : ByteArray), .string (⟨#[66, 65, 65, 66, 66, 65]⟩ : ByteArray), .string (⟨#[66, 65, 65, 65, 66, 66]⟩ : ByteArray), .string (⟨#[66, 65, 66, 65, 66, 65]⟩ : ByteArray), .string (⟨#[66, 65, 66, 65, 65, 66]⟩ : ByteArray), .string (⟨#[66, 65, 65, 66, 65, 66]⟩ : ByteArray)]) (ok := fun _ => True) (okp := fun _ => True) ?hr ?hp (fun _ hk => hk) trivial (Below.refl _ _) (Nat.le_refl _) (by simp) ?_; (case hd => rfl); (case hg => rfl); (case hr => first | (go_simp; done) | (go_simp; rfl)); (case hp => exact (Reps.one (show Kd.M Kd.string _ _ _ (⟨#[66, 66, 66, 65, 65, 65]⟩ : ByteArray) [.string (⟨#[66, 66, 66, 65, 65, 65]⟩ : ByteArray)] from rfl) (Reps.one (show Kd.M Kd.string _ _ _ (⟨#[66, 66, 65, 66, 65, 65]⟩ : ByteArray) [.string (⟨#[66, 66, 65, 66, 65, 65]⟩ : ByteArray)] from rfl) (Reps.one (show Kd.M Kd.string _ _ _ (⟨#[66, 66, 65, 65, 66, 65]⟩ : ByteArray) [.string (⟨#[66, 66, 65, 65, 66, 65]⟩ : ByteArray)] from rfl) (Reps.one (show Kd.M Kd.string _ _ _ (⟨#[66, 66, 65, 65, 65, 66]⟩ : ByteArray) [.string (⟨#[66, 66, 65, 65, 65, 66]⟩ : ByteArray)] from rfl) (Reps.one (show Kd.M Kd.string _ _ _ (⟨#[66, 65, 66, 66, 65, 65]⟩ : ByteArray) [.string (⟨#[66, 65, 66, 66, 65, 65]⟩ : ByteArray)] from rfl) (Reps.one (show Kd.M Kd.string _ _ _ (⟨#[66, 65, 65, 66, 66, 65]⟩ : ByteArray) [.string (⟨#[66, 65, 65, 66, 66, 65]⟩ : ByteArray)] from rfl) (Reps.one (show Kd.M Kd.string _ _ _ (⟨#[66, 65, 65, 65, 66, 66]⟩ : ByteArray) [.string (⟨#[66, 65, 65, 65, 66, 66]⟩ : ByteArray)] from rfl) (Reps.one (show Kd.M Kd.string _ _ _ (⟨#[66, 65, 66, 65, 66, 65]⟩ : ByteArray) [.string (⟨#[66, 65, 66, 65, 66, 65]⟩ : ByteArray)] from rfl) (Reps.one (show Kd.M Kd.string _ _ _ (⟨#[66, 65, 66, 65, 65, 66]⟩ : ByteArray) [.string (⟨#[66, 65, 66, 65, 65, 66]⟩ : ByteArray)] from rfl) (Reps.one (show Kd.M Kd.string _ _ _ (⟨#[66, 65, 65, 66, 65, 66]⟩ : ByteArray) [.string (⟨#[66, 65, 65, 66, 65, 66]⟩ : ByteArray)] from rfl) (Reps.none _ _)))))))))))); intro v121 w1 ho2 hb hg_ hnew_; clear hg_ hnew_; (first | rw [← Ny120.out] at ho2 | (simp only [Int.reduceToNat] at ho2; rw [← Ny120.out] at ho2)); have n0_ := Aside0.mk (Kd.R_lower ho2 (below_size (by repeat (first | (with_reducible first | exact HB.out | apply below_alloc | apply pw_below_drewN | apply below_drew1) | exact HB.out)))); have n1_ := Aside0.mk (below_step (by repeat (first | (with_reducible first | exact HB.out | apply below_alloc | apply pw_below_drewN | apply below_drew1) | exact HB.out)) hb); clear HB; have HO122 := n0_; have HB := n1_; clear n0_ n1_; clear hb ho2))
  go_ret
  exact ⟨_, by first | rfl | (simp [errW_none, errW_some] <;> rfl) | (simp [*, errW_none, errW_some] <;> rfl), by (with_reducible repeat (first | apply Kd.R_alloc | apply Kd.R_drewN | apply Kd.R_drew)); exact HO122.out, by repeat (first | (with_reducible first | exact HB.out | apply below_alloc | apply pw_below_drewN | apply below_drew1) | exact HB.out)⟩

end Go.Proofs.YtjmeekceecpemaaGreatDoor.Q

namespace Go.Proofs.YtjmeekceecpemaaGreatDoor.Q
open Go.RowKit Go.Proofs.YtjmeekceecpemaaGreatDoorW.PrintWords Go.Proofs.YtjmeekceecpemaaGreatDoorW.PrintLast Go.Proofs.YtjmeekceecpemaaGreatDoorW.PrintMore

set_option linter.unusedVariables false
set_option linter.unusedSimpArgs false

/-! ### ean_parity13: function 63 -/
def ean_parity13.f  : Option (List ByteArray) := some (([(⟨#[65, 65, 65, 65, 65, 65]⟩ : ByteArray), (⟨#[65, 65, 66, 65, 66, 66]⟩ : ByteArray), (⟨#[65, 65, 66, 66, 65, 66]⟩ : ByteArray), (⟨#[65, 65, 66, 66, 66, 65]⟩ : ByteArray), (⟨#[65, 66, 65, 65, 66, 66]⟩ : ByteArray), (⟨#[65, 66, 66, 65, 65, 66]⟩ : ByteArray), (⟨#[65, 66, 66, 66, 65, 65]⟩ : ByteArray), (⟨#[65, 66, 65, 66, 65, 66]⟩ : ByteArray), (⟨#[65, 66, 65, 66, 66, 65]⟩ : ByteArray), (⟨#[65, 66, 66, 65, 66, 65]⟩ : ByteArray)] : List ByteArray))
set_option maxHeartbeats 8000000 in
set_option maxRecDepth 100000 in
theorem ean_parity13.calls  (r : List ByteArray) (w : World) (h : ean_parity13.f  = some r) :
    Calls Tryz.prog 63 #[] w fun e w' => ∃ v0_ : Value, e = .returned (v0_) ∧ Kd.R Kd.string 9 w' w.heap.size (fun _ => True) v0_ r ∧ Below w.heap.size w w' := by
  have HB := Aside0.mk (Below.refl w.heap.size w)
  have H : (some (([(⟨#[65, 65, 65, 65, 65, 65]⟩ : ByteArray), (⟨#[65, 65, 66, 65, 66, 66]⟩ : ByteArray), (⟨#[65, 65, 66, 66, 65, 66]⟩ : ByteArray), (⟨#[65, 65, 66, 66, 66, 65]⟩ : ByteArray), (⟨#[65, 66, 65, 65, 66, 66]⟩ : ByteArray), (⟨#[65, 66, 66, 65, 65, 66]⟩ : ByteArray), (⟨#[65, 66, 66, 66, 65, 65]⟩ : ByteArray), (⟨#[65, 66, 65, 66, 65, 66]⟩ : ByteArray), (⟨#[65, 66, 65, 66, 66, 65]⟩ : ByteArray), (⟨#[65, 66, 66, 65, 66, 65]⟩ : ByteArray)] : List ByteArray))) = some r := h
  clear h
  obtain ⟨y123, hy123⟩ : ∃ y_ : List ByteArray, y_ = (([(⟨#[65, 65, 65, 65, 65, 65]⟩ : ByteArray), (⟨#[65, 65, 66, 65, 66, 66]⟩ : ByteArray), (⟨#[65, 65, 66, 66, 65, 66]⟩ : ByteArray), (⟨#[65, 65, 66, 66, 66, 65]⟩ : ByteArray), (⟨#[65, 66, 65, 65, 66, 66]⟩ : ByteArray), (⟨#[65, 66, 66, 65, 65, 66]⟩ : ByteArray), (⟨#[65, 66, 66, 66, 65, 65]⟩ : ByteArray), (⟨#[65, 66, 65, 66, 65, 66]⟩ : ByteArray), (⟨#[65, 66, 65, 66, 66, 65]⟩ : ByteArray), (⟨#[65, 66, 66, 65, 66, 65]⟩ : ByteArray)] : List ByteArray)) := ⟨_, rfl⟩
  replace H : (some y123) = some r := by first | (rw [hy123]; with_reducible exact H) | (have H2_ := (Option.bind_some _ _).symm.trans H; rw [hy123]; with_reducible exact H2_) | (have H2_ := (Option.bind_some _ _).symm.trans H; with_reducible exact H2_) | with_reducible exact H | (rw [hy123]; exact H) | exact H
  have Ny123 := Aside0.mk hy123
  clear hy123
  obtain rfl := Option.some.inj H
  go_enter Tryz.func63, Tryz.ntmps63
  go_wp2_with (first | ((with_reducible refine gate_dst (N := 1) rfl ?_); refine Kd.R_lit Kd.string _ 9 ?hg (N := 1) ?hd (xs := ([(⟨#[65, 65, 65, 65, 65, 65]⟩ : ByteArray), (⟨#[65, 65, 66, 65, 66, 66]⟩ : ByteArray), (⟨#[65, 65, 66, 66, 65, 66]⟩ : ByteArray), (⟨#[65, 65, 66, 66, 66, 65]⟩ : ByteArray), (⟨#[65, 66, 65, 65, 66, 66]⟩ : ByteArray), (⟨#[65, 66, 66, 65, 65, 66]⟩ : ByteArray), (⟨#[65, 66, 66, 66, 65, 65]⟩ : ByteArray), (⟨#[65, 66, 65, 66, 65, 66]⟩ : ByteArray), (⟨#[65, 66, 65, 66, 66, 65]⟩ : ByteArray), (⟨#[65, 66, 66, 65, 66, 65]⟩ : ByteArray)] : List ByteArray)) (inner := [.string (⟨#[65, 65, 65, 65, 65, 65]⟩ : ByteArray), .string (⟨#[65, 65, 66, 65, 66, 66]⟩ : ByteArray), .string (⟨#[65, 65, 66, 66, 65, 66]⟩ : ByteArray), .string (⟨#[65, 65, 66, 66, 66, 65]⟩ : ByteArray), .string (⟨#[65, 66, 65, 65, 66, 66]⟩ : ByteArray), .string (⟨#[65, 66, 66, 65, 65, 66]⟩ : ByteArray), .string (⟨#[65, 66, 66, 66, 65, 65]⟩ : ByteArray), .string (⟨#[65, 66, 65, 66, 65, 66]⟩ : ByteArray), .string (⟨#[65, 66, 65, 66, 66, 65]⟩ : ByteArray), .string (⟨#[65, 66, 66, 65, 66, 65]⟩ : ByteArray)]) (ok := fun _ => True) (okp := fun _ => True) ?hr ?hp (fun _ hk => hk) trivial (Below.refl _ _) (Nat.le_refl _) (by simp) ?_; (case hd => rfl); (case hg => rfl); (case hr => first | (go_simp; done) | (go_simp; rfl)); (case hp => exact (Reps.one (show Kd.M Kd.string _ _ _ (⟨#[65, 65, 65, 65, 65, 65]⟩ : ByteArray) [.string (⟨#[65, 65, 65, 65, 65, 65]⟩ : ByteArray)] from rfl) (Reps.one (show Kd.M Kd.string _ _ _ (⟨#[65, 65, 66, 65, 66, 66]⟩ : ByteArray) [.string (⟨#[65, 65, 66, 65, 66, 66]⟩ : ByteArray)] from rfl) (Reps.one (show Kd.M Kd.string _ _ _ (⟨#[65, 65, 66, 66, 65, 66]⟩ : ByteArray) [.string (⟨#[65, 65, 66, 66, 65, 66]⟩ : ByteArray)] from rfl) (Reps.one (show Kd.M Kd.string _ _ _ (⟨#[65, 65, 66, 66, 66, 65]⟩ : ByteArray) [.string (⟨#[65, 65, 66, 66, 66, 65]⟩ : ByteArray)] from rfl) (Reps.one (show Kd.M Kd.string _ _ _ (⟨#[65, 66, 65, 65, 66, 66]⟩ : ByteArray) [.string (⟨#[65, 66, 65, 65, 66, 66]⟩ : ByteArray)] from rfl) (Reps.one (show Kd.M Kd.string _ _ _ (⟨#[65, 66, 66, 65, 65, 66]⟩ : ByteArray) [.string (⟨#[65, 66, 66, 65, 65, 66]⟩ : ByteArray)] from rfl) (Reps.one (show Kd.M Kd.string _ _ _ (⟨#[65, 66, 66, 66, 65, 65]⟩ : ByteArray) [.string (⟨#[65, 66, 66, 66, 65, 65]⟩ : ByteArray)] from rfl) (Reps.one (show Kd.M Kd.string _ _ _ (⟨#[65, 66, 65, 66, 65, 66]⟩ : ByteArray) [.string (⟨#[65, 66, 65, 66, 65, 66]⟩ : ByteArray)] from rfl) (Reps.one (show Kd.M Kd.string _ _ _ (⟨#[65, 66, 65, 66, 66, 65]⟩ : ByteArray) [.string (⟨#[65, 66, 65, 66, 66, 65]⟩ : ByteArray)] from rfl) (Reps.one (show Kd.M Kd.string _ _ _ (⟨#[65, 66, 66, 65, 66, 65]⟩ : ByteArray) [.string (⟨#[65, 66, 66, 65, 66, 65]⟩ : ByteArray)] from rfl) (Reps.none _ _)))))))))))); intro v124 w1 ho2 hb hg_ hnew_; clear hg_ hnew_; (first | rw [← Ny123.out] at ho2 | (simp only [Int.reduceToNat] at ho2; rw [← Ny123.out] at ho2)); have n0_ := Aside0.mk (Kd.R_lower ho2 (below_size (by repeat (first | (with_reducible first | exact HB.out | apply below_alloc | apply pw_below_drewN | apply below_drew1) | exact HB.out)))); have n1_ := Aside0.mk (below_step (by repeat (first | (with_reducible first | exact HB.out | apply below_alloc | apply pw_below_drewN | apply below_drew1) | exact HB.out)) hb); clear HB; have HO125 := n0_; have HB := n1_; clear n0_ n1_; clear hb ho2))
  go_ret
  exact ⟨_, by first | rfl | (simp [errW_none, errW_some] <;> rfl) | (simp [*, errW_none, errW_some] <;> rfl), by (with_reducible repeat (first | apply Kd.R_alloc | apply Kd.R_drewN | apply Kd.R_drew)); exact HO125.out, by repeat (first | (with_reducible first | exact HB.out | apply below_alloc | apply pw_below_drewN | apply below_drew1) | exact HB.out)⟩

end Go.Proofs.YtjmeekceecpemaaGreatDoor.Q

namespace Go.Proofs.YtjmeekceecpemaaGreatDoor.Q
open Go.RowKit Go.Proofs.YtjmeekceecpemaaGreatDoorW.PrintWords Go.Proofs.YtjmeekceecpemaaGreatDoorW.PrintLast Go.Proofs.YtjmeekceecpemaaGreatDoorW.PrintMore
theorem zero_at (a1 : ByteArray) (h : 0 < (⟨#[48]⟩ : ByteArray).size) : ((((⟨#[48]⟩ : ByteArray)[0]'h).toNat : Nat) : Int) = bt ((⟨#[48]⟩ : ByteArray) ++ a1) 0 := by
 have e : bs ((⟨#[48]⟩ : ByteArray) ++ a1) = 48 :: bs a1 := by rw [bs_append]; rfl
 have hl : 0 < (bs ((⟨#[48]⟩ : ByteArray) ++ a1)).length := by rw [e]; simp
 have h2 := bt_nat ((⟨#[48]⟩ : ByteArray) ++ a1) 0 hl
 rw [show ((0 : Nat) : Int) = 0 from rfl] at h2
 rw [h2]
 simp only [e]
 rfl
theorem valQ_ {P : Program} {ops : Array Oper} {Q : Exit → Act → World → Prop} {oi : Oper} {N : Option Tmp} {a : Act} {w : World} {K : Act → World → Prop} {v : Value} (hw : Region.wanted oi (yielded ops a.tmps) = true) (hN : oi.dst = N) (hrun : (execOp a.eval oi).run P w = .ok (.value v) w)
  (h : K (a.put N v) w) : if Region.wanted oi (yielded ops a.tmps) = true then Oper.wp P oi a w K Q else K (a.put N undef) w := by
 rw [if_pos hw]
 subst hN
 unfold Oper.wp
 rw [hrun]
 exact h

set_option linter.unusedVariables false
set_option linter.unusedSimpArgs false

/-! ### ean_symbol: function 30 -/
def ean_symbol.j0 : Nat → ByteArray → ByteArray → Option (ByteArray)
 | 0, _, _ => none
 | k + 1, x1, x5 => if 1 ≤ 7 then (if 7 ≤ (x1.size : Int) then ((ean_drawn.f k (x1.extract 1 7) x5 (⟨#[]⟩ : ByteArray)).bind fun t133 => (if 3 + t133.size ≤ 9223372036854775807 then (if ((⟨#[49, 48, 49]⟩ : ByteArray) ++ t133).size + 6 ≤ 9223372036854775807 then (some (((⟨#[49, 48, 49]⟩ : ByteArray) ++ t133) ++ (⟨#[48, 49, 48, 49, 48, 49]⟩ : ByteArray))) else (none)) else (none))) else (none)) else (none)
def ean_symbol.f (k : Nat) (a0 : Int) (a1 : ByteArray) : Option (ByteArray) := if a0 = 2 then (if 0 ≤ 4 then (if 4 ≤ (a1.size : Int) then ((ean_drawn.f k (a1.extract 0 4) (⟨#[65, 65, 65, 65]⟩ : ByteArray) (⟨#[]⟩ : ByteArray)).bind fun t126 => (if 3 + t126.size ≤ 9223372036854775807 then (if ((⟨#[49, 48, 49]⟩ : ByteArray) ++ t126).size + 5 ≤ 9223372036854775807 then ((ean_drawn.f k (a1.extract 4 a1.size) (⟨#[67, 67, 67, 67]⟩ : ByteArray) (⟨#[]⟩ : ByteArray)).bind fun t127 => (if (((⟨#[49, 48, 49]⟩ : ByteArray) ++ t126) ++ (⟨#[48, 49, 48, 49, 48]⟩ : ByteArray)).size + t127.size ≤ 9223372036854775807 then (if ((((⟨#[49, 48, 49]⟩ : ByteArray) ++ t126) ++ (⟨#[48, 49, 48, 49, 48]⟩ : ByteArray)) ++ t127).size + 3 ≤ 9223372036854775807 then (some (((((⟨#[49, 48, 49]⟩ : ByteArray) ++ t126) ++ (⟨#[48, 49, 48, 49, 48]⟩ : ByteArray)) ++ t127) ++ (⟨#[49, 48, 49]⟩ : ByteArray))) else (none)) else (none))) else (none)) else (none))) else (none)) else (none)) else (if a0 = 4 then ((ean_parityE.f).bind fun t128 => (if 7 < (a1.size : Int) then (if 0 ≤ (((bt a1 7) - 48) % 256) then (if (((bt a1 7) - 48) % 256) < (t128.length : Int) then (if 0 < (a1.size : Int) then (if (bt a1 0) = 49 then ((ean_flipped.f (rdOf ByteArray.empty t128 (((bt a1 7) - 48) % 256)) (⟨#[65]⟩ : ByteArray) (⟨#[66]⟩ : ByteArray)).bind fun t132 => (ean_symbol.j0 k a1 t132)) else (ean_symbol.j0 k a1 (rdOf ByteArray.empty t128 (((bt a1 7) - 48) % 256)))) else (none)) else (none)) else (none)) else (none))) else (if a0 = 3 then (if 1 + a1.size ≤ 9223372036854775807 then (if 1 ≤ 7 then (if 7 ≤ (((⟨#[48]⟩ : ByteArray) ++ a1).size : Int) then ((ean_parity13.f).bind fun t134 => (if 0 < (((⟨#[48]⟩ : ByteArray) ++ a1).size : Int) then (if 0 ≤ (((bt ((⟨#[48]⟩ : ByteArray) ++ a1) 0) - 48) % 256) then (if (((bt ((⟨#[48]⟩ : ByteArray) ++ a1) 0) - 48) % 256) < (t134.length : Int) then ((ean_drawn.f k (((⟨#[48]⟩ : ByteArray) ++ a1).extract 1 7) (rdOf ByteArray.empty t134 (((bt ((⟨#[48]⟩ : ByteArray) ++ a1) 0) - 48) % 256)) (⟨#[]⟩ : ByteArray)).bind fun t138 => (if 3 + t138.size ≤ 9223372036854775807 then (if ((⟨#[49, 48, 49]⟩ : ByteArray) ++ t138).size + 5 ≤ 9223372036854775807 then ((ean_drawn.f k (((⟨#[48]⟩ : ByteArray) ++ a1).extract 7 ((⟨#[48]⟩ : ByteArray) ++ a1).size) (⟨#[67, 67, 67, 67, 67, 67]⟩ : ByteArray) (⟨#[]⟩ : ByteArray)).bind fun t139 => (if (((⟨#[49, 48, 49]⟩ : ByteArray) ++ t138) ++ (⟨#[48, 49, 48, 49, 48]⟩ : ByteArray)).size + t139.size ≤ 9223372036854775807 then (if ((((⟨#[49, 48, 49]⟩ : ByteArray) ++ t138) ++ (⟨#[48, 49, 48, 49, 48]⟩ : ByteArray)) ++ t139).size + 3 ≤ 9223372036854775807 then (some (((((⟨#[49, 48, 49]⟩ : ByteArray) ++ t138) ++ (⟨#[48, 49, 48, 49, 48]⟩ : ByteArray)) ++ t139) ++ (⟨#[49, 48, 49]⟩ : ByteArray))) else (none)) else (none))) else (none)) else (none))) else (none)) else (none)) else (none))) else (none)) else (none)) else (none)) else (if 1 ≤ 7 then (if 7 ≤ (a1.size : Int) then ((ean_parity13.f).bind fun t140 => (if 0 < (a1.size : Int) then (if 0 ≤ (((bt a1 0) - 48) % 256) then (if (((bt a1 0) - 48) % 256) < (t140.length : Int) then ((ean_drawn.f k (a1.extract 1 7) (rdOf ByteArray.empty t140 (((bt a1 0) - 48) % 256)) (⟨#[]⟩ : ByteArray)).bind fun t144 => (if 3 + t144.size ≤ 9223372036854775807 then (if ((⟨#[49, 48, 49]⟩ : ByteArray) ++ t144).size + 5 ≤ 9223372036854775807 then ((ean_drawn.f k (a1.extract 7 a1.size) (⟨#[67, 67, 67, 67, 67, 67]⟩ : ByteArray) (⟨#[]⟩ : ByteArray)).bind fun t145 => (if (((⟨#[49, 48, 49]⟩ : ByteArray) ++ t144) ++ (⟨#[48, 49, 48, 49, 48]⟩ : ByteArray)).size + t145.size ≤ 9223372036854775807 then (if ((((⟨#[49, 48, 49]⟩ : ByteArray) ++ t144) ++ (⟨#[48, 49, 48, 49, 48]⟩ : ByteArray)) ++ t145).size + 3 ≤ 9223372036854775807 then (some (((((⟨#[49, 48, 49]⟩ : ByteArray) ++ t144) ++ (⟨#[48, 49, 48, 49, 48]⟩ : ByteArray)) ++ t145) ++ (⟨#[49, 48, 49]⟩ : ByteArray))) else (none)) else (none))) else (none)) else (none))) else (none)) else (none)) else (none))) else (none)) else (none))))
theorem ean_symbol.mono_l : ∀ k, (∀ y0 y1, LeO (ean_symbol.j0 k y0 y1) (ean_symbol.j0 (k + 1) y0 y1))
 | 0 => fun _ _ r h => by simp [ean_symbol.j0] at h
 | k + 1 => by
  have ih0 := ean_symbol.mono_l k
  ·intro y0 y1
   unfold ean_symbol.j0
   repeat' first
   | (with_reducible exact ih0 _ _)
   | (with_reducible exact ean_drawn.mono _ _ _ _)
   | (with_reducible exact LeO.refl _)
   | (with_reducible exact LeO.none _)
   | (with_reducible refine LeO.ite ?_ ?_)
   | (with_reducible refine LeO.bind ?_ (fun _ => ?_))
   | exact ih0 _ _
   | exact ean_drawn.mono _ _ _ _
   | exact LeO.none _
   | refine LeO.ite ?_ ?_
   | refine LeO.bind ?_ (fun _ => ?_)
theorem ean_symbol.mono : ∀ a0 a1 k, LeO (ean_symbol.f k a0 a1) (ean_symbol.f (k + 1) a0 a1) := by
 intro a0 a1 k
 have ih0 := ean_symbol.mono_l k
 unfold ean_symbol.f
 repeat' first
   | (with_reducible exact ih0 _ _)
   | (with_reducible exact ean_drawn.mono _ _ _ _)
   | (with_reducible exact LeO.refl _)
   | (with_reducible exact LeO.none _)
   | (with_reducible refine LeO.ite ?_ ?_)
   | (with_reducible refine LeO.bind ?_ (fun _ => ?_))
   | exact ih0 _ _
   | exact ean_drawn.mono _ _ _ _
   | exact LeO.none _
   | refine LeO.ite ?_ ?_
   | refine LeO.bind ?_ (fun _ => ?_)
def ean_symbol.T3 : Bool × List (List Nat × List Nat) := (true, [([], []), ([0], [0]), ([1], [1]), ([2], [2]), ([3], [3]), ([], []), ([5], [5]), ([6, 2], [6]), ([4, 7], [4, 7]), ([8], [8]), ([9, 7, 0, 1, 2, 3, 4, 5, 6, 7, 8, 9], [9])])
def ean_symbol.B3 : List Nat := [0, 1, 3, 7, 15, 0, 32, 103, 255, 511, 1023]
theorem ean_symbol.tab3 : rtab .any (opsOf Tryz.f30 3) = ean_symbol.T3 := by kernel_rfl
theorem ean_symbol.bits3 : waitsOk ean_symbol.T3.2 ean_symbol.B3 = true := by kernel_rfl
def ean_symbol.T11 : Bool × List (List Nat × List Nat) := (true, [([], []), ([0], [0]), ([], []), ([], []), ([3], [3]), ([4], [4]), ([2, 5], [2, 5]), ([6], [6]), ([1, 7, 2], [1, 7]), ([8], [8]), ([9], [9]), ([], []), ([11], [11]), ([12, 8], [12]), ([10, 13], [10, 13]), ([14], [14]), ([15, 13, 0, 1, 2, 3, 4, 5, 6, 7, 8, 9, 10, 11, 12, 13, 14, 15], [15])])
def ean_symbol.B11 : List Nat := [0, 1, 0, 0, 8, 24, 60, 124, 255, 511, 1023, 0, 2048, 6655, 16383, 32767, 65535]
theorem ean_symbol.tab11 : rtab .any (opsOf Tryz.f30 11) = ean_symbol.T11 := by kernel_rfl
theorem ean_symbol.bits11 : waitsOk ean_symbol.T11.2 ean_symbol.B11 = true := by kernel_rfl
set_option maxHeartbeats 8000000 in
set_option maxRecDepth 100000 in
theorem ean_symbol.calls (k : Nat) (a0 : Int) (a1 : ByteArray) (r : ByteArray) (w : World) (h : ean_symbol.f k a0 a1 = some r) :
  Calls Tryz.prog 30 #[.int .i64 a0, .string a1] w fun e w' => e = .returned (.string r) ∧ Below w.heap.size w w' := by
 have HB := Aside0.mk (Below.refl w.heap.size w)
 have H : (if a0 = 2 then (if 0 ≤ 4 then (if 4 ≤ (a1.size : Int) then ((ean_drawn.f k (a1.extract 0 4) (⟨#[65, 65, 65, 65]⟩ : ByteArray) (⟨#[]⟩ : ByteArray)).bind fun t126 => (if 3 + t126.size ≤ 9223372036854775807 then (if ((⟨#[49, 48, 49]⟩ : ByteArray) ++ t126).size + 5 ≤ 9223372036854775807 then ((ean_drawn.f k (a1.extract 4 a1.size) (⟨#[67, 67, 67, 67]⟩ : ByteArray) (⟨#[]⟩ : ByteArray)).bind fun t127 => (if (((⟨#[49, 48, 49]⟩ : ByteArray) ++ t126) ++ (⟨#[48, 49, 48, 49, 48]⟩ : ByteArray)).size + t127.size ≤ 9223372036854775807 then (if ((((⟨#[49, 48, 49]⟩ : ByteArray) ++ t126) ++ (⟨#[48, 49, 48, 49, 48]⟩ : ByteArray)) ++ t127).size + 3 ≤ 9223372036854775807 then (some (((((⟨#[49, 48, 49]⟩ : ByteArray) ++ t126) ++ (⟨#[48, 49, 48, 49, 48]⟩ : ByteArray)) ++ t127) ++ (⟨#[49, 48, 49]⟩ : ByteArray))) else (none)) else (none))) else (none)) else (none))) else (none)) else (none)) else (if a0 = 4 then ((ean_parityE.f).bind fun t128 => (if 7 < (a1.size : Int) then (if 0 ≤ (((bt a1 7) - 48) % 256) then (if (((bt a1 7) - 48) % 256) < (t128.length : Int) then (if 0 < (a1.size : Int) then (if (bt a1 0) = 49 then ((ean_flipped.f (rdOf ByteArray.empty t128 (((bt a1 7) - 48) % 256)) (⟨#[65]⟩ : ByteArray) (⟨#[66]⟩ : ByteArray)).bind fun t132 => (ean_symbol.j0 k a1 t132)) else (ean_symbol.j0 k a1 (rdOf ByteArray.empty t128 (((bt a1 7) - 48) % 256)))) else (none)) else (none)) else (none)) else (none))) else (if a0 = 3 then (if 1 + a1.size ≤ 9223372036854775807 then (if 1 ≤ 7 then (if 7 ≤ (((⟨#[48]⟩ : ByteArray) ++ a1).size : Int) then ((ean_parity13.f).bind fun t134 => (if 0 < (((⟨#[48]⟩ : ByteArray) ++ a1).size : Int) then (if 0 ≤ (((bt ((⟨#[48]⟩ : ByteArray) ++ a1) 0) - 48) % 256) then (if (((bt ((⟨#[48]⟩ : ByteArray) ++ a1) 0) - 48) % 256) < (t134.length : Int) then ((ean_drawn.f k (((⟨#[48]⟩ : ByteArray) ++ a1).extract 1 7) (rdOf ByteArray.empty t134 (((bt ((⟨#[48]⟩ : ByteArray) ++ a1) 0) - 48) % 256)) (⟨#[]⟩ : ByteArray)).bind fun t138 => (if 3 + t138.size ≤ 9223372036854775807 then (if ((⟨#[49, 48, 49]⟩ : ByteArray) ++ t138).size + 5 ≤ 9223372036854775807 then ((ean_drawn.f k (((⟨#[48]⟩ : ByteArray) ++ a1).extract 7 ((⟨#[48]⟩ : ByteArray) ++ a1).size) (⟨#[67, 67, 67, 67, 67, 67]⟩ : ByteArray) (⟨#[]⟩ : ByteArray)).bind fun t139 => (if (((⟨#[49, 48, 49]⟩ : ByteArray) ++ t138) ++ (⟨#[48, 49, 48, 49, 48]⟩ : ByteArray)).size + t139.size ≤ 9223372036854775807 then (if ((((⟨#[49, 48, 49]⟩ : ByteArray) ++ t138) ++ (⟨#[48, 49, 48, 49, 48]⟩ : ByteArray)) ++ t139).size + 3 ≤ 9223372036854775807 then (some (((((⟨#[49, 48, 49]⟩ : ByteArray) ++ t138) ++ (⟨#[48, 49, 48, 49, 48]⟩ : ByteArray)) ++ t139) ++ (⟨#[49, 48, 49]⟩ : ByteArray))) else (none)) else (none))) else (none)) else (none))) else (none)) else (none)) else (none))) else (none)) else (none)) else (none)) else (if 1 ≤ 7 then (if 7 ≤ (a1.size : Int) then ((ean_parity13.f).bind fun t140 => (if 0 < (a1.size : Int) then (if 0 ≤ (((bt a1 0) - 48) % 256) then (if (((bt a1 0) - 48) % 256) < (t140.length : Int) then ((ean_drawn.f k (a1.extract 1 7) (rdOf ByteArray.empty t140 (((bt a1 0) - 48) % 256)) (⟨#[]⟩ : ByteArray)).bind fun t144 => (if 3 + t144.size ≤ 9223372036854775807 then (if ((⟨#[49, 48, 49]⟩ : ByteArray) ++ t144).size + 5 ≤ 9223372036854775807 then ((ean_drawn.f k (a1.extract 7 a1.size) (⟨#[67, 67, 67, 67, 67, 67]⟩ : ByteArray) (⟨#[]⟩ : ByteArray)).bind fun t145 => (if (((⟨#[49, 48, 49]⟩ : ByteArray) ++ t144) ++ (⟨#[48, 49, 48, 49, 48]⟩ : ByteArray)).size + t145.size ≤ 9223372036854775807 then (if ((((⟨#[49, 48, 49]⟩ : ByteArray) ++ t144) ++ (⟨#[48, 49, 48, 49, 48]⟩ : ByteArray)) ++ t145).size + 3 ≤ 9223372036854775807 then (some (((((⟨#[49, 48, 49]⟩ : ByteArray) ++ t144) ++ (⟨#[48, 49, 48, 49, 48]⟩ : ByteArray)) ++ t145) ++ (⟨#[49, 48, 49]⟩ : ByteArray))) else (none)) else (none))) else (none)) else (none))) else (none)) else (none)) else (none))) else (none)) else (none))))) = some r := h
 clear h
 by_cases c3 : a0 = 2
 ·rw [if_pos c3] at H
  have c3b0 : (a0 == 2) = true := beq_iff_eq.mpr c3
  have c3b1 : (a0 != 2) = false := bne_eq_false_iff_eq.mpr c3
  clear c3
  by_cases c4 : 0 ≤ 4
  ·rw [if_pos c4] at H
   have c4b0 := eq_true c4
   (try (have h_ := of_eq_true c4b0; simp only [ByteArray.size_append, ByteArray.size_extract, Nat.min_self, Int.toNat_natCast, Nat.sub_zero, Int.natCast_add, size_lit, List.length_cons, List.length_nil, Nat.zero_add, Nat.reduceAdd, Int.natCast_one, Int.cast_ofNat_Int] at h_; have c4b0s := eq_true h_; clear h_))
   have c4b1 : decide (0 ≤ 4) = true := decide_eq_true c4
   clear c4
   by_cases c5 : 4 ≤ (a1.size : Int)
   ·rw [if_pos c5] at H
    have c5b0 := eq_true c5
    (try (have h_ := of_eq_true c5b0; simp only [ByteArray.size_append, ByteArray.size_extract, Nat.min_self, Int.toNat_natCast, Nat.sub_zero, Int.natCast_add, size_lit, List.length_cons, List.length_nil, Nat.zero_add, Nat.reduceAdd, Int.natCast_one, Int.cast_ofNat_Int] at h_; have c5b0s := eq_true h_; clear h_))
    have c5b1 : decide (4 ≤ (a1.size : Int)) = true := decide_eq_true c5
    clear c5
    replace H := Option.bind_eq_some_iff.mp H
    obtain ⟨t126, A60, H⟩ := H
    replace H : (if 3 + t126.size ≤ 9223372036854775807 then (if ((⟨#[49, 48, 49]⟩ : ByteArray) ++ t126).size + 5 ≤ 9223372036854775807 then ((ean_drawn.f k (a1.extract 4 a1.size) (⟨#[67, 67, 67, 67]⟩ : ByteArray) (⟨#[]⟩ : ByteArray)).bind fun t127 => (if (((⟨#[49, 48, 49]⟩ : ByteArray) ++ t126) ++ (⟨#[48, 49, 48, 49, 48]⟩ : ByteArray)).size + t127.size ≤ 9223372036854775807 then (if ((((⟨#[49, 48, 49]⟩ : ByteArray) ++ t126) ++ (⟨#[48, 49, 48, 49, 48]⟩ : ByteArray)) ++ t127).size + 3 ≤ 9223372036854775807 then (some (((((⟨#[49, 48, 49]⟩ : ByteArray) ++ t126) ++ (⟨#[48, 49, 48, 49, 48]⟩ : ByteArray)) ++ t127) ++ (⟨#[49, 48, 49]⟩ : ByteArray))) else (none)) else (none))) else (none)) else (none)) = some r := H
    have A6 := Aside0.mk A60
    clear A60
    by_cases c7 : 3 + t126.size ≤ 9223372036854775807
    ·rw [if_pos c7] at H
     have c7b0 := eq_true c7
     (try (have h_ := of_eq_true c7b0; simp only [ByteArray.size_append, ByteArray.size_extract, Nat.min_self, Int.toNat_natCast, Nat.sub_zero, Int.natCast_add, size_lit, List.length_cons, List.length_nil, Nat.zero_add, Nat.reduceAdd, Int.natCast_one, Int.cast_ofNat_Int] at h_; have c7b0s := eq_true h_; clear h_))
     have c7b1 : decide (3 + t126.size ≤ 9223372036854775807) = true := decide_eq_true c7
     try have c7b2 : (9223372036854775807 < 3 + t126.size) = False := eq_false (Nat.not_lt.2 c7)
     by_cases c8 : ((⟨#[49, 48, 49]⟩ : ByteArray) ++ t126).size + 5 ≤ 9223372036854775807
     ·rw [if_pos c8] at H
      have c8b0 := eq_true c8
      (try (have h_ := of_eq_true c8b0; simp only [ByteArray.size_append, ByteArray.size_extract, Nat.min_self, Int.toNat_natCast, Nat.sub_zero, Int.natCast_add, size_lit, List.length_cons, List.length_nil, Nat.zero_add, Nat.reduceAdd, Int.natCast_one, Int.cast_ofNat_Int] at h_; have c8b0s := eq_true h_; clear h_))
      have c8b1 : decide (((⟨#[49, 48, 49]⟩ : ByteArray) ++ t126).size + 5 ≤ 9223372036854775807) = true := decide_eq_true c8
      (try (have c8b1s := c8b1; simp only [ByteArray.size_append, ByteArray.size_extract, Nat.min_self, Int.toNat_natCast, Nat.sub_zero, Int.natCast_add, size_lit, List.length_cons, List.length_nil, Nat.zero_add, Nat.reduceAdd, Int.natCast_one, Int.cast_ofNat_Int] at c8b1s))
      (try (have h_ := of_decide_eq_true c8b1; simp only [ByteArray.size_append, ByteArray.size_extract, Nat.min_self, Int.toNat_natCast, Nat.sub_zero, Int.natCast_add, size_lit, List.length_cons, List.length_nil, Nat.zero_add, Nat.reduceAdd, Int.natCast_one, Int.cast_ofNat_Int] at h_; have c8b1t := eq_true h_; clear h_))
      try have c8b2 : (9223372036854775807 < ((⟨#[49, 48, 49]⟩ : ByteArray) ++ t126).size + 5) = False := eq_false (Nat.not_lt.2 c8)
      (try (have h_ := of_eq_false c8b2; simp only [ByteArray.size_append, ByteArray.size_extract, Nat.min_self, Int.toNat_natCast, Nat.sub_zero, Int.natCast_add, size_lit, List.length_cons, List.length_nil, Nat.zero_add, Nat.reduceAdd, Int.natCast_one, Int.cast_ofNat_Int] at h_; have c8b2s := eq_false h_; clear h_))
      have c9b0 := eq_true (of_decide_eq_true (by first | (with_reducible assumption) | assumption) : 4 ≤ (a1.size : Int))
      (try (have h_ := of_eq_true c9b0; simp only [ByteArray.size_append, ByteArray.size_extract, Nat.min_self, Int.toNat_natCast, Nat.sub_zero, Int.natCast_add, size_lit, List.length_cons, List.length_nil, Nat.zero_add, Nat.reduceAdd, Int.natCast_one, Int.cast_ofNat_Int] at h_; have c9b0s := eq_true h_; clear h_))
      replace H := Option.bind_eq_some_iff.mp H
      obtain ⟨t127, A100, H⟩ := H
      replace H : (if (((⟨#[49, 48, 49]⟩ : ByteArray) ++ t126) ++ (⟨#[48, 49, 48, 49, 48]⟩ : ByteArray)).size + t127.size ≤ 9223372036854775807 then (if ((((⟨#[49, 48, 49]⟩ : ByteArray) ++ t126) ++ (⟨#[48, 49, 48, 49, 48]⟩ : ByteArray)) ++ t127).size + 3 ≤ 9223372036854775807 then (some (((((⟨#[49, 48, 49]⟩ : ByteArray) ++ t126) ++ (⟨#[48, 49, 48, 49, 48]⟩ : ByteArray)) ++ t127) ++ (⟨#[49, 48, 49]⟩ : ByteArray))) else (none)) else (none)) = some r := H
      have A10 := Aside0.mk A100
      clear A100
      by_cases c11 : (((⟨#[49, 48, 49]⟩ : ByteArray) ++ t126) ++ (⟨#[48, 49, 48, 49, 48]⟩ : ByteArray)).size + t127.size ≤ 9223372036854775807
      ·rw [if_pos c11] at H
       have c11b0 := eq_true c11
       (try (have h_ := of_eq_true c11b0; simp only [ByteArray.size_append, ByteArray.size_extract, Nat.min_self, Int.toNat_natCast, Nat.sub_zero, Int.natCast_add, size_lit, List.length_cons, List.length_nil, Nat.zero_add, Nat.reduceAdd, Int.natCast_one, Int.cast_ofNat_Int] at h_; have c11b0s := eq_true h_; clear h_))
       have c11b1 : decide ((((⟨#[49, 48, 49]⟩ : ByteArray) ++ t126) ++ (⟨#[48, 49, 48, 49, 48]⟩ : ByteArray)).size + t127.size ≤ 9223372036854775807) = true := decide_eq_true c11
       (try (have c11b1s := c11b1; simp only [ByteArray.size_append, ByteArray.size_extract, Nat.min_self, Int.toNat_natCast, Nat.sub_zero, Int.natCast_add, size_lit, List.length_cons, List.length_nil, Nat.zero_add, Nat.reduceAdd, Int.natCast_one, Int.cast_ofNat_Int] at c11b1s))
       (try (have h_ := of_decide_eq_true c11b1; simp only [ByteArray.size_append, ByteArray.size_extract, Nat.min_self, Int.toNat_natCast, Nat.sub_zero, Int.natCast_add, size_lit, List.length_cons, List.length_nil, Nat.zero_add, Nat.reduceAdd, Int.natCast_one, Int.cast_ofNat_Int] at h_; have c11b1t := eq_true h_; clear h_))
       try have c11b2 : (9223372036854775807 < (((⟨#[49, 48, 49]⟩ : ByteArray) ++ t126) ++ (⟨#[48, 49, 48, 49, 48]⟩ : ByteArray)).size + t127.size) = False := eq_false (Nat.not_lt.2 c11)
       (try (have h_ := of_eq_false c11b2; simp only [ByteArray.size_append, ByteArray.size_extract, Nat.min_self, Int.toNat_natCast, Nat.sub_zero, Int.natCast_add, size_lit, List.length_cons, List.length_nil, Nat.zero_add, Nat.reduceAdd, Int.natCast_one, Int.cast_ofNat_Int] at h_; have c11b2s := eq_false h_; clear h_))
       by_cases c12 : ((((⟨#[49, 48, 49]⟩ : ByteArray) ++ t126) ++ (⟨#[48, 49, 48, 49, 48]⟩ : ByteArray)) ++ t127).size + 3 ≤ 9223372036854775807
       ·rw [if_pos c12] at H
        have c12b0 := eq_true c12
        (try (have h_ := of_eq_true c12b0; simp only [ByteArray.size_append, ByteArray.size_extract, Nat.min_self, Int.toNat_natCast, Nat.sub_zero, Int.natCast_add, size_lit, List.length_cons, List.length_nil, Nat.zero_add, Nat.reduceAdd, Int.natCast_one, Int.cast_ofNat_Int] at h_; have c12b0s := eq_true h_; clear h_))
        have c12b1 : decide (((((⟨#[49, 48, 49]⟩ : ByteArray) ++ t126) ++ (⟨#[48, 49, 48, 49, 48]⟩ : ByteArray)) ++ t127).size + 3 ≤ 9223372036854775807) = true := decide_eq_true c12
        (try (have c12b1s := c12b1; simp only [ByteArray.size_append, ByteArray.size_extract, Nat.min_self, Int.toNat_natCast, Nat.sub_zero, Int.natCast_add, size_lit, List.length_cons, List.length_nil, Nat.zero_add, Nat.reduceAdd, Int.natCast_one, Int.cast_ofNat_Int] at c12b1s))
        (try (have h_ := of_decide_eq_true c12b1; simp only [ByteArray.size_append, ByteArray.size_extract, Nat.min_self, Int.toNat_natCast, Nat.sub_zero, Int.natCast_add, size_lit, List.length_cons, List.length_nil, Nat.zero_add, Nat.reduceAdd, Int.natCast_one, Int.cast_ofNat_Int] at h_; have c12b1t := eq_true h_; clear h_))
        try have c12b2 : (9223372036854775807 < ((((⟨#[49, 48, 49]⟩ : ByteArray) ++ t126) ++ (⟨#[48, 49, 48, 49, 48]⟩ : ByteArray)) ++ t127).size + 3) = False := eq_false (Nat.not_lt.2 c12)
        (try (have h_ := of_eq_false c12b2; simp only [ByteArray.size_append, ByteArray.size_extract, Nat.min_self, Int.toNat_natCast, Nat.sub_zero, Int.natCast_add, size_lit, List.length_cons, List.length_nil, Nat.zero_add, Nat.reduceAdd, Int.natCast_one, Int.cast_ofNat_Int] at h_; have c12b2s := eq_false h_; clear h_))
        obtain rfl := Option.some.inj H
        go_enter Tryz.func30, Tryz.ntmps30
        try go_wp2
        have n0_ := Aside0.mk (below_drew1 HB.out)
        clear HB
        have HB := n0_
        clear n0_
        refine start_ (n := 11) (S := fun w' => True) (ds := []) #[false, false, false, false, false, false, false, false, false, false, false] (by kernel_rfl) rfl rfl trivial (fun hHeld => ?_); refine with_tabW ean_symbol.tab3 ean_symbol.bits3 (fun HT_ HW_ => ?_)
        generalize w.drew = w13 at HB hHeld ⊢
        refine pure_ (i := 0) (N := some 9) (v := ?_) (a' := ?_) #[true, false, false, false, false, false, false, false, false, false, false] rfl rfl (any_of HT_.out (by kernel_rfl)) (fun _ _ _ h => h) (Or.inl ⟨by rfl, ?_⟩) ?_ ?_
        rotate_left
        ·intro w'
         go_simp
         try go_bits
         with_reducible rfl
        rotate_left
        ·simp only [Act.put, List.setIfInBounds_toArray, List.set_cons_zero, List.set_cons_succ, i64_w]
         rfl
        refine pure_ (i := 1) (N := some 10) (v := ?_) (a' := ?_) #[true, true, false, false, false, false, false, false, false, false, false] rfl rfl (any_of HT_.out (by kernel_rfl)) (fun _ _ _ h => h) (Or.inl ⟨by rfl, ?_⟩) ?_ ?_
        rotate_left
        ·intro w'
         go_simp
         try go_bits
         with_reducible rfl
        rotate_left
        ·simp only [Act.put, List.setIfInBounds_toArray, List.set_cons_zero, List.set_cons_succ, i64_w]
         rfl
        refine pure_ (i := 5) (N := some 14) (v := ?_) (a' := ?_) #[true, true, false, false, false, true, false, false, false, false, false] rfl rfl (any_of HT_.out (by kernel_rfl)) (fun _ _ _ h => h) (Or.inl ⟨by rfl, ?_⟩) ?_ ?_
        rotate_left
        ·intro w'
         go_simp
         try go_bits
         with_reducible rfl
        rotate_left
        ·simp only [Act.put, List.setIfInBounds_toArray, List.set_cons_zero, List.set_cons_succ, i64_w]
         rfl
        refine pure_ (i := 6) (N := some 15) (v := ?_) (a' := ?_) #[true, true, false, false, false, true, true, false, false, false, false] rfl rfl (any_of HT_.out (by kernel_rfl)) (fun _ _ _ h => h) (Or.inl ⟨by rfl, ?_⟩) ?_ ?_
        rotate_left
        ·intro w'
         go_simp
         try go_bits
         with_reducible rfl
        rotate_left
        ·simp only [Act.put, List.setIfInBounds_toArray, List.set_cons_zero, List.set_cons_succ, i64_w]
         rfl
        refine one_ (i := 2) (N := some 11) #[true, true, true, false, false, true, true, false, false, false, false] rfl rfl (one_of HT_.out (by kernel_rfl)) (by decide) (fun K hK => ?_)
        refine goes_ Tryz.func31 (by kernel_rfl) rfl #[.string (a1.extract 0 4), .string (⟨#[65, 65, 65, 65]⟩ : ByteArray), .string (⟨#[]⟩ : ByteArray)] (by rfl) rfl rfl (by (try simp only [List.map_toArray, List.map_cons, List.map_nil]); first | done | rfl | (simp only [List.length_drop, List.length_take]; rfl) | (go_simp; done) | (go_simp; rfl)) ?_
        with_reducible refine (ean_drawn.calls k (a1.extract 0 4) (⟨#[65, 65, 65, 65]⟩ : ByteArray) (⟨#[]⟩ : ByteArray) t126 _ A6.out).mono ?_
        rintro e w14 ⟨rfl, hb⟩
        refine ⟨_, rfl, ?_⟩
        have n0_ := Aside0.mk (below_step (by repeat (first | (with_reducible first | exact HB.out | apply below_alloc | apply pw_below_drewN | apply below_drew1) | exact HB.out)) hb)
        clear HB
        have HB := n0_
        clear n0_
        (try clear hb)
        (try clear hb2)
        (try clear hk)
        (try clear hi)
        refine hK.out _ _ trivial (fun hHeld => ?_)
        clear hK K
        refine norm_ (a' := ?_) ?_ ?_
        rotate_left
        ·show Act.put _ (some 11) _ = _
         simp only [Act.put, List.setIfInBounds_toArray, List.set_cons_zero, List.set_cons_succ, i64_w]
         rfl
        refine pure_ (i := 3) (N := some 12) (v := ?_) (a' := ?_) #[true, true, true, true, false, true, true, false, false, false, false] rfl rfl (any_of HT_.out (by kernel_rfl)) (fun _ _ _ h => h) (Or.inl ⟨by rfl, ?_⟩) ?_ ?_
        rotate_left
        ·intro w'
         go_simp
         try go_bits
         with_reducible rfl
        rotate_left
        ·simp only [Act.put, List.setIfInBounds_toArray, List.set_cons_zero, List.set_cons_succ, i64_w]
         rfl
        refine pure_ (i := 4) (N := some 13) (v := ?_) (a' := ?_) #[true, true, true, true, true, true, true, false, false, false, false] rfl rfl (any_of HT_.out (by kernel_rfl)) (fun _ _ _ h => h) (Or.inl ⟨by rfl, ?_⟩) ?_ ?_
        rotate_left
        ·intro w'
         go_simp
         try go_bits
         with_reducible rfl
        rotate_left
        ·simp only [Act.put, List.setIfInBounds_toArray, List.set_cons_zero, List.set_cons_succ, i64_w]
         rfl
        refine one_ (i := 7) (N := some 16) #[true, true, true, true, true, true, true, true, false, false, false] rfl rfl (one_of HT_.out (by kernel_rfl)) (by decide) (fun K hK => ?_)
        refine goes_ Tryz.func31 (by kernel_rfl) rfl #[.string (a1.extract 4 a1.size), .string (⟨#[67, 67, 67, 67]⟩ : ByteArray), .string (⟨#[]⟩ : ByteArray)] (by rfl) rfl rfl (by (try simp only [List.map_toArray, List.map_cons, List.map_nil]); first | done | rfl | (simp only [List.length_drop, List.length_take]; rfl) | (go_simp; done) | (go_simp; rfl)) ?_
        with_reducible refine (ean_drawn.calls k (a1.extract 4 a1.size) (⟨#[67, 67, 67, 67]⟩ : ByteArray) (⟨#[]⟩ : ByteArray) t127 _ A10.out).mono ?_
        rintro e w15 ⟨rfl, hb⟩
        refine ⟨_, rfl, ?_⟩
        have n0_ := Aside0.mk (below_step (by repeat (first | (with_reducible first | exact HB.out | apply below_alloc | apply pw_below_drewN | apply below_drew1) | exact HB.out)) hb)
        clear HB
        have HB := n0_
        clear n0_
        (try clear hb)
        (try clear hb2)
        (try clear hk)
        (try clear hi)
        refine hK.out _ _ trivial (fun hHeld => ?_)
        clear hK K
        refine norm_ (a' := ?_) ?_ ?_
        rotate_left
        ·show Act.put _ (some 16) _ = _
         simp only [Act.put, List.setIfInBounds_toArray, List.set_cons_zero, List.set_cons_succ, i64_w]
         rfl
        refine pure_ (i := 8) (N := some 17) (v := ?_) (a' := ?_) #[true, true, true, true, true, true, true, true, true, false, false] rfl rfl (any_of HT_.out (by kernel_rfl)) (fun _ _ _ h => h) (Or.inl ⟨by rfl, ?_⟩) ?_ ?_
        rotate_left
        ·intro w'
         go_simp
         try go_bits
         with_reducible rfl
        rotate_left
        ·simp only [Act.put, List.setIfInBounds_toArray, List.set_cons_zero, List.set_cons_succ, i64_w]
         rfl
        refine pure_ (i := 9) (N := some 18) (v := ?_) (a' := ?_) #[true, true, true, true, true, true, true, true, true, true, false] rfl rfl (any_of HT_.out (by kernel_rfl)) (fun _ _ _ h => h) (Or.inl ⟨by rfl, ?_⟩) ?_ ?_
        rotate_left
        ·intro w'
         go_simp
         try go_bits
         with_reducible rfl
        rotate_left
        ·simp only [Act.put, List.setIfInBounds_toArray, List.set_cons_zero, List.set_cons_succ, i64_w]
         rfl
        refine pure_ (i := 10) (N := some 4) (v := ?_) (a' := ?_) #[true, true, true, true, true, true, true, true, true, true, true] rfl rfl (any_of HT_.out (by kernel_rfl)) (fun _ _ _ h => h) (Or.inl ⟨by rfl, ?_⟩) ?_ ?_
        rotate_left
        ·intro w'
         go_simp
         try go_bits
         with_reducible rfl
        rotate_left
        ·simp only [Act.put, List.setIfInBounds_toArray, List.set_cons_zero, List.set_cons_succ, i64_w]
         rfl
        refine done_ (done_of HT_.out (by kernel_rfl)) ?_
        try go_wp2
        go_ret
        exact ⟨by first | rfl | (simp [errW_none, errW_some] <;> rfl) | (simp [*, errW_none, errW_some] <;> rfl), by repeat (first | (with_reducible first | exact HB.out | apply below_alloc | apply pw_below_drewN | apply below_drew1) | exact HB.out)⟩
       ·rw [if_neg c12] at H
        exact absurd H (by simp)
      ·rw [if_neg c11] at H
       exact absurd H (by simp)
     ·rw [if_neg c8] at H
      exact absurd H (by simp)
    ·rw [if_neg c7] at H
     exact absurd H (by simp)
   ·rw [if_neg c5] at H
    exact absurd H (by simp)
  ·rw [if_neg c4] at H
   exact absurd H (by simp)
 ·rw [if_neg c3] at H
  have c3b0 : (a0 == 2) = false := beq_eq_false_iff_ne.mpr c3
  have c3b1 : (a0 != 2) = true := bne_iff_ne.mpr c3
  by_cases c16 : a0 = 4
  ·rw [if_pos c16] at H
   have c16b0 : (a0 == 4) = true := beq_iff_eq.mpr c16
   have c16b1 : (a0 != 4) = false := bne_eq_false_iff_eq.mpr c16
   clear c16
   replace H := Option.bind_eq_some_iff.mp H
   obtain ⟨t128, A170, H⟩ := H
   replace H : (if 7 < (a1.size : Int) then (if 0 ≤ (((bt a1 7) - 48) % 256) then (if (((bt a1 7) - 48) % 256) < (t128.length : Int) then (if 0 < (a1.size : Int) then (if (bt a1 0) = 49 then ((ean_flipped.f (rdOf ByteArray.empty t128 (((bt a1 7) - 48) % 256)) (⟨#[65]⟩ : ByteArray) (⟨#[66]⟩ : ByteArray)).bind fun t132 => (ean_symbol.j0 k a1 t132)) else (ean_symbol.j0 k a1 (rdOf ByteArray.empty t128 (((bt a1 7) - 48) % 256)))) else (none)) else (none)) else (none)) else (none)) = some r := H
   have A17 := Aside0.mk A170
   clear A170
   by_cases c18 : 7 < (a1.size : Int)
   ·rw [if_pos c18] at H
    have c18b0 : decide (7 < (a1.size : Int)) = true := decide_eq_true c18
    have c18b1 : decide (7 < a1.size) = true := decide_eq_true (by omega)
    clear c18
    obtain ⟨ji20, hji20⟩ : ∃ j_ : Int, (((bt a1 7) - 48) % 256) = j_ := ⟨_, rfl⟩
    replace H : (if 0 ≤ (ji20) then (if (ji20) < (t128.length : Int) then (if 0 < (a1.size : Int) then (if (bt a1 0) = 49 then ((ean_flipped.f (rdOf ByteArray.empty t128 (ji20)) (⟨#[65]⟩ : ByteArray) (⟨#[66]⟩ : ByteArray)).bind fun t132 => (ean_symbol.j0 k a1 t132)) else (ean_symbol.j0 k a1 (rdOf ByteArray.empty t128 (ji20)))) else (none)) else (none)) else (none)) = some r := by first | (rw [hji20] at H; exact H) | (simp only [hji20] at H ⊢; exact H)
    (try rw [hji20] at A17)
    by_cases c21 : 0 ≤ (ji20)
    ·rw [if_pos c21] at H
     have c21b0 : decide (0 ≤ (ji20)) = true := decide_eq_true c21
     clear c21
     by_cases c22 : (ji20) < (t128.length : Int)
     ·rw [if_pos c22] at H
      have c22b0 : decide ((ji20) < (t128.length : Int)) = true := decide_eq_true c22
      clear c22
      by_cases c23 : 0 < (a1.size : Int)
      ·rw [if_pos c23] at H
       have c23b0 : decide (0 < (a1.size : Int)) = true := decide_eq_true c23
       have c23b1 : decide (0 < a1.size) = true := decide_eq_true (by omega)
       clear c23
       have HC25 := Aside0.mk H
       clear H
       go_enter Tryz.func30, Tryz.ntmps30
       try go_wp2
       have n0_ := Aside0.mk (below_drew1 HB.out)
       clear HB
       have HB := n0_
       clear n0_
       have p19 : 0 ≤ (7 : Int) := (by omega)
       have q19 : 7 < a1.size := (by have : (7 : Int) < (a1.size : Int) := of_decide_eq_true (by first | (with_reducible assumption) | assumption); omega)
       have hx19 : ∀ h : 7 < a1.size, ((a1[7]'h).toNat : Int) = bt a1 7 := bt_at a1 7
       clear p19
       have qi19 : (7 < (a1.size : Int)) = True := eq_true (of_decide_eq_true (by first | (with_reducible assumption) | assumption))
       replace q19 := eq_true q19
       (try (have h_ := of_eq_true q19; simp only [ByteArray.size_append, ByteArray.size_extract, Nat.min_self, Int.toNat_natCast, Nat.sub_zero, Int.natCast_add, size_lit, List.length_cons, List.length_nil, Nat.zero_add, Nat.reduceAdd, Int.natCast_one, Int.cast_ofNat_Int] at h_; have q19s := eq_true h_; clear h_))
       refine start_ (n := 7) (S := fun _ => True) (ds := []) #[false, false, false, false, false, false, false] (by kernel_rfl) rfl rfl trivial (fun hHeld => ?_)
       generalize w.drew = w26 at HB hHeld ⊢
       refine pure_ (i := 1) (N := some 22) (v := ?_) (a' := ?_) #[false, true, false, false, false, false, false] rfl rfl (by kernel_rfl) (fun _ _ _ h => h) (Or.inl ⟨by rfl, ?_⟩) ?_ ?_
       rotate_left
       ·intro w'
        go_simp
        try go_bits
        with_reducible rfl
       rotate_left
       ·simp only [Act.put, List.setIfInBounds_toArray, List.set_cons_zero, List.set_cons_succ, i64_w]
        rfl
       refine take_ (i := 2) (N := some 23) (v := ?_) (a' := ?_) #[false, true, true, false, false, false, false] rfl rfl (by kernel_rfl) (fun _ _ _ h => h) (Or.inl ⟨by rfl, ?_⟩) hHeld ?_ ?_
       rotate_left
       ·intro w' s0
        go_simp
        try go_bits
        with_reducible rfl
       rotate_left
       ·simp only [Act.put, List.setIfInBounds_toArray, List.set_cons_zero, List.set_cons_succ, i64_w]
        rfl
       refine pure_ (i := 3) (N := some 24) (v := ?_) (a' := ?_) #[false, true, true, true, false, false, false] rfl rfl (by kernel_rfl) (fun _ _ _ h => h) (Or.inl ⟨by rfl, ?_⟩) ?_ ?_
       rotate_left
       ·intro w'
        go_simp
        try go_bits
        with_reducible rfl
       rotate_left
       ·simp only [Act.put, List.setIfInBounds_toArray, List.set_cons_zero, List.set_cons_succ, i64_w]
        rfl
       refine one_ (i := 0) (N := some 21) #[true, true, true, true, false, false, false] rfl rfl (by kernel_rfl) (by decide) (fun K hK => ?_)
       refine goes_ Tryz.func61 (by kernel_rfl) rfl #[] (by rfl) rfl rfl (by (try simp only [List.map_toArray, List.map_cons, List.map_nil]); first | done | rfl | (simp only [List.length_drop, List.length_take]; rfl) | (go_simp; done) | (go_simp; rfl)) ?_
       with_reducible refine (ean_parityE.calls  t128 _ A17.out).mono ?_
       rintro e w27 ⟨v129, rfl, ho0, hb⟩
       refine ⟨_, rfl, ?_⟩
       have n0_ := Aside0.mk (Kd.R_lower ho0 (below_size (by repeat (first | (with_reducible first | exact HB.out | apply below_alloc | apply pw_below_drewN | apply below_drew1) | exact HB.out))))
       have n1_ := Aside0.mk (below_step (by repeat (first | (with_reducible first | exact HB.out | apply below_alloc | apply pw_below_drewN | apply below_drew1) | exact HB.out)) hb)
       clear HB
       have HO130 := n0_
       have HB := n1_
       clear n0_ n1_
       (try clear hb)
       (try clear hb2)
       (try clear hk)
       (try clear hi)
       (try clear ho0)
       obtain ⟨Ao28, co28, eo28⟩ := Kd.R_slice HO130.out
       (first | subst eo28 | (injection eo28 with f1_ f2_ f3_; have f4_ := f1_.symm; have f5_ := f3_.symm; clear f1_ f2_ f3_; subst f4_; subst f5_))
       have p131 : 0 ≤ ((ji20) : Int) := of_decide_eq_true (by first | (with_reducible assumption) | assumption)
       have q131 : (ji20) < (t128.length : Int) := of_decide_eq_true (by first | (with_reducible assumption) | assumption)
       obtain ⟨ad131, e131, hx131_0⟩ := Kd.at_string (Kd.R_reads' HO130.out).2.2 (ji20) p131 q131
       cases e131
       replace p131 := eq_true p131
       replace q131 := eq_true q131
       (try (have h_ := of_eq_true q131; simp only [ByteArray.size_append, ByteArray.size_extract, Nat.min_self, Int.toNat_natCast, Nat.sub_zero, Int.natCast_add, size_lit, List.length_cons, List.length_nil, Nat.zero_add, Nat.reduceAdd, Int.natCast_one, Int.cast_ofNat_Int] at h_; have q131s := eq_true h_; clear h_))
       refine hK.out _ _ trivial (fun hHeld => ?_)
       clear hK K
       refine norm_ (a' := ?_) ?_ ?_
       rotate_left
       ·show Act.put _ (some 21) _ = _
        simp only [Act.put, List.setIfInBounds_toArray, List.set_cons_zero, List.set_cons_succ, i64_w]
        rfl
       refine pure_ (i := 4) (N := some 25) (v := ?_) (a' := ?_) #[true, true, true, true, true, false, false] rfl rfl (by kernel_rfl) (fun _ _ _ h => h) (Or.inl ⟨by rfl, ?_⟩) ?_ ?_
       rotate_left
       ·intro w'
        go_simp
        try go_bits
        with_reducible rfl
       rotate_left
       ·simp only [Act.put, List.setIfInBounds_toArray, List.set_cons_zero, List.set_cons_succ, i64_w]
        rfl
       refine one_ (i := 5) (N := some 26) #[true, true, true, true, true, true, false] rfl rfl (by first | exact one_of HT_.out (by kernel_rfl) | kernel_rfl) (by decide) (fun K hK => ?_)
       refine valQ_ (v := .string (rdOf ByteArray.empty t128 (ji20))) (by rfl) rfl (by go_simp; first | done | rfl) ?_
       refine hK.out _ _ trivial (fun hHeld => ?_)
       clear hK K
       refine norm_ (a' := ?_) ?_ ?_
       rotate_left
       ·show Act.put _ (some 26) _ = _
        simp only [Act.put, List.setIfInBounds_toArray, List.set_cons_zero, List.set_cons_succ, i64_w]
        rfl
       refine pure_ (i := 6) (N := some 5) (v := ?_) (a' := ?_) #[true, true, true, true, true, true, true] rfl rfl (by kernel_rfl) (fun _ _ _ h => h) (Or.inl ⟨by rfl, ?_⟩) ?_ ?_
       rotate_left
       ·intro w'
        go_simp
        try go_bits
        with_reducible rfl
       rotate_left
       ·simp only [Act.put, List.setIfInBounds_toArray, List.set_cons_zero, List.set_cons_succ, i64_w]
        rfl
       refine done_ (by kernel_rfl) ?_
       have p24 : 0 ≤ (0 : Int) := (by omega)
       have q24 : 0 < a1.size := (by have : (0 : Int) < (a1.size : Int) := of_decide_eq_true (by first | (with_reducible assumption) | assumption); omega)
       have hx24 : ∀ h : 0 < a1.size, ((a1[0]'h).toNat : Int) = bt a1 0 := bt_at a1 0
       clear p24
       have qi24 : (0 < (a1.size : Int)) = True := eq_true (of_decide_eq_true (by first | (with_reducible assumption) | assumption))
       replace q24 := eq_true q24
       (try (have h_ := of_eq_true q24; simp only [ByteArray.size_append, ByteArray.size_extract, Nat.min_self, Int.toNat_natCast, Nat.sub_zero, Int.natCast_add, size_lit, List.length_cons, List.length_nil, Nat.zero_add, Nat.reduceAdd, Int.natCast_one, Int.cast_ofNat_Int] at h_; have q24s := eq_true h_; clear h_))
       go_upto_if 29 with (fail)
       go_cut [5] (fun v5 wc => ∃ (kq : Nat) (x5_24 : ByteArray), v5 = .string x5_24 ∧ Aside0 (ean_symbol.j0 kq a1 x5_24 = some r) ∧ Aside0 (kq ≤ k) ∧ Aside0 (Below w.heap.size w wc))
       case first =>
        have H := HC25.out
        clear HC25
        by_cases c29 : (bt a1 0) = 49
        ·rw [if_pos c29] at H
         have c29b0 : ((bt a1 0) == 49) = true := beq_iff_eq.mpr c29
         have c29b1 : ((bt a1 0) != 49) = false := bne_eq_false_iff_eq.mpr c29
         clear c29
         (first | rw [c29b0] | (simp only [i64_w]; rw [c29b0]) | skip)
         replace H := Option.bind_eq_some_iff.mp H
         obtain ⟨t132, A300, H⟩ := H
         replace H : (ean_symbol.j0 k a1 t132) = some r := H
         have A30 := Aside0.mk A300
         clear A300
         have H' := Aside0.mk H
         clear H
         go_wp2_with (first | ((with_reducible refine gate_callee (f := 62) rfl ?_); refine goesL_ (some 31) rfl rfl Tryz.func62 (by kernel_rfl) rfl #[.string (rdOf ByteArray.empty t128 (ji20)), .string (⟨#[65]⟩ : ByteArray), .string (⟨#[66]⟩ : ByteArray)] rfl (by (try simp only [List.map_toArray, List.map_cons, List.map_nil]); first | done | (simp only [hji20]; rfl) | rfl | (simp only [List.length_drop, List.length_take]; rfl) | (go_simp; done) | (go_simp; rfl)) ?_; (with_reducible refine (ean_flipped.calls (rdOf ByteArray.empty t128 (ji20)) (⟨#[65]⟩ : ByteArray) (⟨#[66]⟩ : ByteArray) t132 _ A30.out).mono ?_); rintro e w31 ⟨rfl, hb⟩; refine ⟨_, rfl, ?_⟩; have n0_ := Aside0.mk (Kd.R_below (by (with_reducible repeat (first | apply Kd.R_alloc | apply Kd.R_drewN | apply Kd.R_drew)); exact HO130.out) hb); have n1_ := Aside0.mk (below_step (by repeat (first | (with_reducible first | exact HB.out | apply below_alloc | apply pw_below_drewN | apply below_drew1) | exact HB.out)) hb); clear HO130; clear HB; have HO130 := n0_; have HB := n1_; clear n0_ n1_; (try clear hb); (try clear hb2); (try clear hk); (try clear hi)))
         go_meet
         case rel => exact ⟨_, (t132), (by first | rfl | (simp; done) | (simp [*]; done)), H', ⟨by first | omega | exact Nat.le_refl _⟩, ⟨by repeat (first | (with_reducible first | exact HB.out | apply below_alloc | apply pw_below_drewN | apply below_drew1) | exact HB.out)⟩⟩
        ·rw [if_neg c29] at H
         have c29b0 : ((bt a1 0) == 49) = false := beq_eq_false_iff_ne.mpr c29
         have c29b1 : ((bt a1 0) != 49) = true := bne_iff_ne.mpr c29
         (first | rw [c29b0] | (simp only [i64_w]; rw [c29b0]) | skip)
         have H' := Aside0.mk H
         clear H
         go_wp2
         go_meet
         case rel => exact ⟨_, (rdOf ByteArray.empty t128 (ji20)), (by first | rfl | (simp; done) | (simp only [← hji20] <;> (first | rfl | simp)) | (simp [*]; done)), H', ⟨by first | omega | exact Nat.le_refl _⟩, ⟨by repeat (first | (with_reducible first | exact HB.out | apply below_alloc | apply pw_below_drewN | apply below_drew1) | exact HB.out)⟩⟩
       case rest =>
        clear HC25
        obtain ⟨kq, x5_24, rfl, HA, HJ24, HB⟩ := hcut
        cases kq with
        | zero => exact absurd HA.out (by simp [ean_symbol.j0])
        | succ kj24 =>
         have H := HA.out
         clear HA
         simp only [ean_symbol.j0] at H
         by_cases c32 : 1 ≤ 7
         ·rw [if_pos c32] at H
          have c32b0 := eq_true c32
          (try (have h_ := of_eq_true c32b0; simp only [ByteArray.size_append, ByteArray.size_extract, Nat.min_self, Int.toNat_natCast, Nat.sub_zero, Int.natCast_add, size_lit, List.length_cons, List.length_nil, Nat.zero_add, Nat.reduceAdd, Int.natCast_one, Int.cast_ofNat_Int] at h_; have c32b0s := eq_true h_; clear h_))
          have c32b1 : decide (1 ≤ 7) = true := decide_eq_true c32
          clear c32
          by_cases c33 : 7 ≤ (a1.size : Int)
          ·rw [if_pos c33] at H
           have c33b0 := eq_true c33
           (try (have h_ := of_eq_true c33b0; simp only [ByteArray.size_append, ByteArray.size_extract, Nat.min_self, Int.toNat_natCast, Nat.sub_zero, Int.natCast_add, size_lit, List.length_cons, List.length_nil, Nat.zero_add, Nat.reduceAdd, Int.natCast_one, Int.cast_ofNat_Int] at h_; have c33b0s := eq_true h_; clear h_))
           have c33b1 : decide (7 ≤ (a1.size : Int)) = true := decide_eq_true c33
           clear c33
           replace H := Option.bind_eq_some_iff.mp H
           obtain ⟨t133, A340, H⟩ := H
           replace H : (if 3 + t133.size ≤ 9223372036854775807 then (if ((⟨#[49, 48, 49]⟩ : ByteArray) ++ t133).size + 6 ≤ 9223372036854775807 then (some (((⟨#[49, 48, 49]⟩ : ByteArray) ++ t133) ++ (⟨#[48, 49, 48, 49, 48, 49]⟩ : ByteArray))) else (none)) else (none)) = some r := H
           have A34 := Aside0.mk A340
           clear A340
           by_cases c35 : 3 + t133.size ≤ 9223372036854775807
           ·rw [if_pos c35] at H
            have c35b0 := eq_true c35
            (try (have h_ := of_eq_true c35b0; simp only [ByteArray.size_append, ByteArray.size_extract, Nat.min_self, Int.toNat_natCast, Nat.sub_zero, Int.natCast_add, size_lit, List.length_cons, List.length_nil, Nat.zero_add, Nat.reduceAdd, Int.natCast_one, Int.cast_ofNat_Int] at h_; have c35b0s := eq_true h_; clear h_))
            have c35b1 : decide (3 + t133.size ≤ 9223372036854775807) = true := decide_eq_true c35
            try have c35b2 : (9223372036854775807 < 3 + t133.size) = False := eq_false (Nat.not_lt.2 c35)
            by_cases c36 : ((⟨#[49, 48, 49]⟩ : ByteArray) ++ t133).size + 6 ≤ 9223372036854775807
            ·rw [if_pos c36] at H
             have c36b0 := eq_true c36
             (try (have h_ := of_eq_true c36b0; simp only [ByteArray.size_append, ByteArray.size_extract, Nat.min_self, Int.toNat_natCast, Nat.sub_zero, Int.natCast_add, size_lit, List.length_cons, List.length_nil, Nat.zero_add, Nat.reduceAdd, Int.natCast_one, Int.cast_ofNat_Int] at h_; have c36b0s := eq_true h_; clear h_))
             have c36b1 : decide (((⟨#[49, 48, 49]⟩ : ByteArray) ++ t133).size + 6 ≤ 9223372036854775807) = true := decide_eq_true c36
             (try (have c36b1s := c36b1; simp only [ByteArray.size_append, ByteArray.size_extract, Nat.min_self, Int.toNat_natCast, Nat.sub_zero, Int.natCast_add, size_lit, List.length_cons, List.length_nil, Nat.zero_add, Nat.reduceAdd, Int.natCast_one, Int.cast_ofNat_Int] at c36b1s))
             (try (have h_ := of_decide_eq_true c36b1; simp only [ByteArray.size_append, ByteArray.size_extract, Nat.min_self, Int.toNat_natCast, Nat.sub_zero, Int.natCast_add, size_lit, List.length_cons, List.length_nil, Nat.zero_add, Nat.reduceAdd, Int.natCast_one, Int.cast_ofNat_Int] at h_; have c36b1t := eq_true h_; clear h_))
             try have c36b2 : (9223372036854775807 < ((⟨#[49, 48, 49]⟩ : ByteArray) ++ t133).size + 6) = False := eq_false (Nat.not_lt.2 c36)
             (try (have h_ := of_eq_false c36b2; simp only [ByteArray.size_append, ByteArray.size_extract, Nat.min_self, Int.toNat_natCast, Nat.sub_zero, Int.natCast_add, size_lit, List.length_cons, List.length_nil, Nat.zero_add, Nat.reduceAdd, Int.natCast_one, Int.cast_ofNat_Int] at h_; have c36b2s := eq_false h_; clear h_))
             obtain rfl := Option.some.inj H
             go_wp2_with (first | ((with_reducible refine gate_callee (f := 31) rfl ?_); refine goesL_ (some 35) rfl rfl Tryz.func31 (by kernel_rfl) rfl #[.string (a1.extract 1 7), .string x5_24, .string (⟨#[]⟩ : ByteArray)] rfl (by (try simp only [List.map_toArray, List.map_cons, List.map_nil]); first | done | rfl | (simp only [List.length_drop, List.length_take]; rfl) | (go_simp; done) | (go_simp; rfl)) ?_; (with_reducible refine (ean_drawn.calls kj24 (a1.extract 1 7) x5_24 (⟨#[]⟩ : ByteArray) t133 _ A34.out).mono ?_); rintro e w37 ⟨rfl, hb⟩; refine ⟨_, rfl, ?_⟩; have n0_ := Aside0.mk (below_step (by repeat (first | (with_reducible first | exact HB.out | apply below_alloc | apply pw_below_drewN | apply below_drew1) | exact HB.out)) hb); clear HB; have HB := n0_; clear n0_; (try clear hb); (try clear hb2); (try clear hk); (try clear hi)))
             go_ret
             exact ⟨by first | rfl | (simp [errW_none, errW_some] <;> rfl) | (simp only [← hji20]; first | rfl | (simp [errW_none, errW_some] <;> rfl)) | (simp [*, errW_none, errW_some] <;> rfl), by repeat (first | (with_reducible first | exact HB.out | apply below_alloc | apply pw_below_drewN | apply below_drew1) | exact HB.out)⟩
            ·rw [if_neg c36] at H
             exact absurd H (by simp)
           ·rw [if_neg c35] at H
            exact absurd H (by simp)
          ·rw [if_neg c33] at H
           exact absurd H (by simp)
         ·rw [if_neg c32] at H
          exact absurd H (by simp)
      ·rw [if_neg c23] at H
       exact absurd H (by simp)
     ·rw [if_neg c22] at H
      exact absurd H (by simp)
    ·rw [if_neg c21] at H
     exact absurd H (by simp)
   ·rw [if_neg c18] at H
    exact absurd H (by simp)
  ·rw [if_neg c16] at H
   have c16b0 : (a0 == 4) = false := beq_eq_false_iff_ne.mpr c16
   have c16b1 : (a0 != 4) = true := bne_iff_ne.mpr c16
   by_cases c38 : a0 = 3
   ·rw [if_pos c38] at H
    have c38b0 : (a0 == 3) = true := beq_iff_eq.mpr c38
    have c38b1 : (a0 != 3) = false := bne_eq_false_iff_eq.mpr c38
    clear c38
    by_cases c39 : 1 + a1.size ≤ 9223372036854775807
    ·rw [if_pos c39] at H
     have c39b0 := eq_true c39
     (try (have h_ := of_eq_true c39b0; simp only [ByteArray.size_append, ByteArray.size_extract, Nat.min_self, Int.toNat_natCast, Nat.sub_zero, Int.natCast_add, size_lit, List.length_cons, List.length_nil, Nat.zero_add, Nat.reduceAdd, Int.natCast_one, Int.cast_ofNat_Int] at h_; have c39b0s := eq_true h_; clear h_))
     have c39b1 : decide (1 + a1.size ≤ 9223372036854775807) = true := decide_eq_true c39
     try have c39b2 : (9223372036854775807 < 1 + a1.size) = False := eq_false (Nat.not_lt.2 c39)
     by_cases c40 : 1 ≤ 7
     ·rw [if_pos c40] at H
      have c40b0 := eq_true c40
      (try (have h_ := of_eq_true c40b0; simp only [ByteArray.size_append, ByteArray.size_extract, Nat.min_self, Int.toNat_natCast, Nat.sub_zero, Int.natCast_add, size_lit, List.length_cons, List.length_nil, Nat.zero_add, Nat.reduceAdd, Int.natCast_one, Int.cast_ofNat_Int] at h_; have c40b0s := eq_true h_; clear h_))
      have c40b1 : decide (1 ≤ 7) = true := decide_eq_true c40
      clear c40
      by_cases c41 : 7 ≤ (((⟨#[48]⟩ : ByteArray) ++ a1).size : Int)
      ·rw [if_pos c41] at H
       have c41b0 := eq_true c41
       (try (have h_ := of_eq_true c41b0; simp only [ByteArray.size_append, ByteArray.size_extract, Nat.min_self, Int.toNat_natCast, Nat.sub_zero, Int.natCast_add, size_lit, List.length_cons, List.length_nil, Nat.zero_add, Nat.reduceAdd, Int.natCast_one, Int.cast_ofNat_Int] at h_; have c41b0s := eq_true h_; clear h_))
       have c41b1 : decide (7 ≤ (((⟨#[48]⟩ : ByteArray) ++ a1).size : Int)) = true := decide_eq_true c41
       (try (have c41b1s := c41b1; simp only [ByteArray.size_append, ByteArray.size_extract, Nat.min_self, Int.toNat_natCast, Nat.sub_zero, Int.natCast_add, size_lit, List.length_cons, List.length_nil, Nat.zero_add, Nat.reduceAdd, Int.natCast_one, Int.cast_ofNat_Int] at c41b1s))
       (try (have h_ := of_decide_eq_true c41b1; simp only [ByteArray.size_append, ByteArray.size_extract, Nat.min_self, Int.toNat_natCast, Nat.sub_zero, Int.natCast_add, size_lit, List.length_cons, List.length_nil, Nat.zero_add, Nat.reduceAdd, Int.natCast_one, Int.cast_ofNat_Int] at h_; have c41b1t := eq_true h_; clear h_))
       replace H := Option.bind_eq_some_iff.mp H
       obtain ⟨t134, A420, H⟩ := H
       replace H : (if 0 < (((⟨#[48]⟩ : ByteArray) ++ a1).size : Int) then (if 0 ≤ (((bt ((⟨#[48]⟩ : ByteArray) ++ a1) 0) - 48) % 256) then (if (((bt ((⟨#[48]⟩ : ByteArray) ++ a1) 0) - 48) % 256) < (t134.length : Int) then ((ean_drawn.f k (((⟨#[48]⟩ : ByteArray) ++ a1).extract 1 7) (rdOf ByteArray.empty t134 (((bt ((⟨#[48]⟩ : ByteArray) ++ a1) 0) - 48) % 256)) (⟨#[]⟩ : ByteArray)).bind fun t138 => (if 3 + t138.size ≤ 9223372036854775807 then (if ((⟨#[49, 48, 49]⟩ : ByteArray) ++ t138).size + 5 ≤ 9223372036854775807 then ((ean_drawn.f k (((⟨#[48]⟩ : ByteArray) ++ a1).extract 7 ((⟨#[48]⟩ : ByteArray) ++ a1).size) (⟨#[67, 67, 67, 67, 67, 67]⟩ : ByteArray) (⟨#[]⟩ : ByteArray)).bind fun t139 => (if (((⟨#[49, 48, 49]⟩ : ByteArray) ++ t138) ++ (⟨#[48, 49, 48, 49, 48]⟩ : ByteArray)).size + t139.size ≤ 9223372036854775807 then (if ((((⟨#[49, 48, 49]⟩ : ByteArray) ++ t138) ++ (⟨#[48, 49, 48, 49, 48]⟩ : ByteArray)) ++ t139).size + 3 ≤ 9223372036854775807 then (some (((((⟨#[49, 48, 49]⟩ : ByteArray) ++ t138) ++ (⟨#[48, 49, 48, 49, 48]⟩ : ByteArray)) ++ t139) ++ (⟨#[49, 48, 49]⟩ : ByteArray))) else (none)) else (none))) else (none)) else (none))) else (none)) else (none)) else (none)) = some r := H
       have A42 := Aside0.mk A420
       clear A420
       by_cases c43 : 0 < (((⟨#[48]⟩ : ByteArray) ++ a1).size : Int)
       ·rw [if_pos c43] at H
        have c43b0 : decide (0 < (((⟨#[48]⟩ : ByteArray) ++ a1).size : Int)) = true := decide_eq_true c43
        (try (have c43b0s := c43b0; simp only [ByteArray.size_append, ByteArray.size_extract, Nat.min_self, Int.toNat_natCast, Nat.sub_zero, Int.natCast_add, size_lit, List.length_cons, List.length_nil, Nat.zero_add, Nat.reduceAdd, Int.natCast_one, Int.cast_ofNat_Int] at c43b0s))
        (try (have h_ := of_decide_eq_true c43b0; simp only [ByteArray.size_append, ByteArray.size_extract, Nat.min_self, Int.toNat_natCast, Nat.sub_zero, Int.natCast_add, size_lit, List.length_cons, List.length_nil, Nat.zero_add, Nat.reduceAdd, Int.natCast_one, Int.cast_ofNat_Int] at h_; have c43b0t := eq_true h_; clear h_))
        have c43b1 : decide (0 < ((⟨#[48]⟩ : ByteArray) ++ a1).size) = true := decide_eq_true (by omega)
        (try (have c43b1s := c43b1; simp only [ByteArray.size_append, ByteArray.size_extract, Nat.min_self, Int.toNat_natCast, Nat.sub_zero, Int.natCast_add, size_lit, List.length_cons, List.length_nil, Nat.zero_add, Nat.reduceAdd, Int.natCast_one, Int.cast_ofNat_Int] at c43b1s))
        (try (have h_ := of_decide_eq_true c43b1; simp only [ByteArray.size_append, ByteArray.size_extract, Nat.min_self, Int.toNat_natCast, Nat.sub_zero, Int.natCast_add, size_lit, List.length_cons, List.length_nil, Nat.zero_add, Nat.reduceAdd, Int.natCast_one, Int.cast_ofNat_Int] at h_; have c43b1t := eq_true h_; clear h_))
        clear c43
        obtain ⟨ji45, hji45⟩ : ∃ j_ : Int, (((bt ((⟨#[48]⟩ : ByteArray) ++ a1) 0) - 48) % 256) = j_ := ⟨_, rfl⟩
        replace H : (if 0 ≤ (ji45) then (if (ji45) < (t134.length : Int) then ((ean_drawn.f k (((⟨#[48]⟩ : ByteArray) ++ a1).extract 1 7) (rdOf ByteArray.empty t134 (ji45)) (⟨#[]⟩ : ByteArray)).bind fun t138 => (if 3 + t138.size ≤ 9223372036854775807 then (if ((⟨#[49, 48, 49]⟩ : ByteArray) ++ t138).size + 5 ≤ 9223372036854775807 then ((ean_drawn.f k (((⟨#[48]⟩ : ByteArray) ++ a1).extract 7 ((⟨#[48]⟩ : ByteArray) ++ a1).size) (⟨#[67, 67, 67, 67, 67, 67]⟩ : ByteArray) (⟨#[]⟩ : ByteArray)).bind fun t139 => (if (((⟨#[49, 48, 49]⟩ : ByteArray) ++ t138) ++ (⟨#[48, 49, 48, 49, 48]⟩ : ByteArray)).size + t139.size ≤ 9223372036854775807 then (if ((((⟨#[49, 48, 49]⟩ : ByteArray) ++ t138) ++ (⟨#[48, 49, 48, 49, 48]⟩ : ByteArray)) ++ t139).size + 3 ≤ 9223372036854775807 then (some (((((⟨#[49, 48, 49]⟩ : ByteArray) ++ t138) ++ (⟨#[48, 49, 48, 49, 48]⟩ : ByteArray)) ++ t139) ++ (⟨#[49, 48, 49]⟩ : ByteArray))) else (none)) else (none))) else (none)) else (none))) else (none)) else (none)) = some r := by first | (rw [hji45] at H; exact H) | (simp only [hji45] at H ⊢; exact H)
        (try rw [hji45] at A42)
        by_cases c46 : 0 ≤ (ji45)
        ·rw [if_pos c46] at H
         have c46b0 : decide (0 ≤ (ji45)) = true := decide_eq_true c46
         clear c46
         by_cases c47 : (ji45) < (t134.length : Int)
         ·rw [if_pos c47] at H
          have c47b0 : decide ((ji45) < (t134.length : Int)) = true := decide_eq_true c47
          clear c47
          replace H := Option.bind_eq_some_iff.mp H
          obtain ⟨t138, A480, H⟩ := H
          replace H : (if 3 + t138.size ≤ 9223372036854775807 then (if ((⟨#[49, 48, 49]⟩ : ByteArray) ++ t138).size + 5 ≤ 9223372036854775807 then ((ean_drawn.f k (((⟨#[48]⟩ : ByteArray) ++ a1).extract 7 ((⟨#[48]⟩ : ByteArray) ++ a1).size) (⟨#[67, 67, 67, 67, 67, 67]⟩ : ByteArray) (⟨#[]⟩ : ByteArray)).bind fun t139 => (if (((⟨#[49, 48, 49]⟩ : ByteArray) ++ t138) ++ (⟨#[48, 49, 48, 49, 48]⟩ : ByteArray)).size + t139.size ≤ 9223372036854775807 then (if ((((⟨#[49, 48, 49]⟩ : ByteArray) ++ t138) ++ (⟨#[48, 49, 48, 49, 48]⟩ : ByteArray)) ++ t139).size + 3 ≤ 9223372036854775807 then (some (((((⟨#[49, 48, 49]⟩ : ByteArray) ++ t138) ++ (⟨#[48, 49, 48, 49, 48]⟩ : ByteArray)) ++ t139) ++ (⟨#[49, 48, 49]⟩ : ByteArray))) else (none)) else (none))) else (none)) else (none)) = some r := H
          have A48 := Aside0.mk A480
          clear A480
          by_cases c49 : 3 + t138.size ≤ 9223372036854775807
          ·rw [if_pos c49] at H
           have c49b0 := eq_true c49
           (try (have h_ := of_eq_true c49b0; simp only [ByteArray.size_append, ByteArray.size_extract, Nat.min_self, Int.toNat_natCast, Nat.sub_zero, Int.natCast_add, size_lit, List.length_cons, List.length_nil, Nat.zero_add, Nat.reduceAdd, Int.natCast_one, Int.cast_ofNat_Int] at h_; have c49b0s := eq_true h_; clear h_))
           have c49b1 : decide (3 + t138.size ≤ 9223372036854775807) = true := decide_eq_true c49
           try have c49b2 : (9223372036854775807 < 3 + t138.size) = False := eq_false (Nat.not_lt.2 c49)
           by_cases c50 : ((⟨#[49, 48, 49]⟩ : ByteArray) ++ t138).size + 5 ≤ 9223372036854775807
           ·rw [if_pos c50] at H
            have c50b0 := eq_true c50
            (try (have h_ := of_eq_true c50b0; simp only [ByteArray.size_append, ByteArray.size_extract, Nat.min_self, Int.toNat_natCast, Nat.sub_zero, Int.natCast_add, size_lit, List.length_cons, List.length_nil, Nat.zero_add, Nat.reduceAdd, Int.natCast_one, Int.cast_ofNat_Int] at h_; have c50b0s := eq_true h_; clear h_))
            have c50b1 : decide (((⟨#[49, 48, 49]⟩ : ByteArray) ++ t138).size + 5 ≤ 9223372036854775807) = true := decide_eq_true c50
            (try (have c50b1s := c50b1; simp only [ByteArray.size_append, ByteArray.size_extract, Nat.min_self, Int.toNat_natCast, Nat.sub_zero, Int.natCast_add, size_lit, List.length_cons, List.length_nil, Nat.zero_add, Nat.reduceAdd, Int.natCast_one, Int.cast_ofNat_Int] at c50b1s))
            (try (have h_ := of_decide_eq_true c50b1; simp only [ByteArray.size_append, ByteArray.size_extract, Nat.min_self, Int.toNat_natCast, Nat.sub_zero, Int.natCast_add, size_lit, List.length_cons, List.length_nil, Nat.zero_add, Nat.reduceAdd, Int.natCast_one, Int.cast_ofNat_Int] at h_; have c50b1t := eq_true h_; clear h_))
            try have c50b2 : (9223372036854775807 < ((⟨#[49, 48, 49]⟩ : ByteArray) ++ t138).size + 5) = False := eq_false (Nat.not_lt.2 c50)
            (try (have h_ := of_eq_false c50b2; simp only [ByteArray.size_append, ByteArray.size_extract, Nat.min_self, Int.toNat_natCast, Nat.sub_zero, Int.natCast_add, size_lit, List.length_cons, List.length_nil, Nat.zero_add, Nat.reduceAdd, Int.natCast_one, Int.cast_ofNat_Int] at h_; have c50b2s := eq_false h_; clear h_))
            have c51b0 := eq_true (of_decide_eq_true (by first | (with_reducible assumption) | assumption) : 7 ≤ (((⟨#[48]⟩ : ByteArray) ++ a1).size : Int))
            (try (have h_ := of_eq_true c51b0; simp only [ByteArray.size_append, ByteArray.size_extract, Nat.min_self, Int.toNat_natCast, Nat.sub_zero, Int.natCast_add, size_lit, List.length_cons, List.length_nil, Nat.zero_add, Nat.reduceAdd, Int.natCast_one, Int.cast_ofNat_Int] at h_; have c51b0s := eq_true h_; clear h_))
            replace H := Option.bind_eq_some_iff.mp H
            obtain ⟨t139, A520, H⟩ := H
            replace H : (if (((⟨#[49, 48, 49]⟩ : ByteArray) ++ t138) ++ (⟨#[48, 49, 48, 49, 48]⟩ : ByteArray)).size + t139.size ≤ 9223372036854775807 then (if ((((⟨#[49, 48, 49]⟩ : ByteArray) ++ t138) ++ (⟨#[48, 49, 48, 49, 48]⟩ : ByteArray)) ++ t139).size + 3 ≤ 9223372036854775807 then (some (((((⟨#[49, 48, 49]⟩ : ByteArray) ++ t138) ++ (⟨#[48, 49, 48, 49, 48]⟩ : ByteArray)) ++ t139) ++ (⟨#[49, 48, 49]⟩ : ByteArray))) else (none)) else (none)) = some r := H
            have A52 := Aside0.mk A520
            clear A520
            by_cases c53 : (((⟨#[49, 48, 49]⟩ : ByteArray) ++ t138) ++ (⟨#[48, 49, 48, 49, 48]⟩ : ByteArray)).size + t139.size ≤ 9223372036854775807
            ·rw [if_pos c53] at H
             have c53b0 := eq_true c53
             (try (have h_ := of_eq_true c53b0; simp only [ByteArray.size_append, ByteArray.size_extract, Nat.min_self, Int.toNat_natCast, Nat.sub_zero, Int.natCast_add, size_lit, List.length_cons, List.length_nil, Nat.zero_add, Nat.reduceAdd, Int.natCast_one, Int.cast_ofNat_Int] at h_; have c53b0s := eq_true h_; clear h_))
             have c53b1 : decide ((((⟨#[49, 48, 49]⟩ : ByteArray) ++ t138) ++ (⟨#[48, 49, 48, 49, 48]⟩ : ByteArray)).size + t139.size ≤ 9223372036854775807) = true := decide_eq_true c53
             (try (have c53b1s := c53b1; simp only [ByteArray.size_append, ByteArray.size_extract, Nat.min_self, Int.toNat_natCast, Nat.sub_zero, Int.natCast_add, size_lit, List.length_cons, List.length_nil, Nat.zero_add, Nat.reduceAdd, Int.natCast_one, Int.cast_ofNat_Int] at c53b1s))
             (try (have h_ := of_decide_eq_true c53b1; simp only [ByteArray.size_append, ByteArray.size_extract, Nat.min_self, Int.toNat_natCast, Nat.sub_zero, Int.natCast_add, size_lit, List.length_cons, List.length_nil, Nat.zero_add, Nat.reduceAdd, Int.natCast_one, Int.cast_ofNat_Int] at h_; have c53b1t := eq_true h_; clear h_))
             try have c53b2 : (9223372036854775807 < (((⟨#[49, 48, 49]⟩ : ByteArray) ++ t138) ++ (⟨#[48, 49, 48, 49, 48]⟩ : ByteArray)).size + t139.size) = False := eq_false (Nat.not_lt.2 c53)
             (try (have h_ := of_eq_false c53b2; simp only [ByteArray.size_append, ByteArray.size_extract, Nat.min_self, Int.toNat_natCast, Nat.sub_zero, Int.natCast_add, size_lit, List.length_cons, List.length_nil, Nat.zero_add, Nat.reduceAdd, Int.natCast_one, Int.cast_ofNat_Int] at h_; have c53b2s := eq_false h_; clear h_))
             by_cases c54 : ((((⟨#[49, 48, 49]⟩ : ByteArray) ++ t138) ++ (⟨#[48, 49, 48, 49, 48]⟩ : ByteArray)) ++ t139).size + 3 ≤ 9223372036854775807
             ·rw [if_pos c54] at H
              have c54b0 := eq_true c54
              (try (have h_ := of_eq_true c54b0; simp only [ByteArray.size_append, ByteArray.size_extract, Nat.min_self, Int.toNat_natCast, Nat.sub_zero, Int.natCast_add, size_lit, List.length_cons, List.length_nil, Nat.zero_add, Nat.reduceAdd, Int.natCast_one, Int.cast_ofNat_Int] at h_; have c54b0s := eq_true h_; clear h_))
              have c54b1 : decide (((((⟨#[49, 48, 49]⟩ : ByteArray) ++ t138) ++ (⟨#[48, 49, 48, 49, 48]⟩ : ByteArray)) ++ t139).size + 3 ≤ 9223372036854775807) = true := decide_eq_true c54
              (try (have c54b1s := c54b1; simp only [ByteArray.size_append, ByteArray.size_extract, Nat.min_self, Int.toNat_natCast, Nat.sub_zero, Int.natCast_add, size_lit, List.length_cons, List.length_nil, Nat.zero_add, Nat.reduceAdd, Int.natCast_one, Int.cast_ofNat_Int] at c54b1s))
              (try (have h_ := of_decide_eq_true c54b1; simp only [ByteArray.size_append, ByteArray.size_extract, Nat.min_self, Int.toNat_natCast, Nat.sub_zero, Int.natCast_add, size_lit, List.length_cons, List.length_nil, Nat.zero_add, Nat.reduceAdd, Int.natCast_one, Int.cast_ofNat_Int] at h_; have c54b1t := eq_true h_; clear h_))
              try have c54b2 : (9223372036854775807 < ((((⟨#[49, 48, 49]⟩ : ByteArray) ++ t138) ++ (⟨#[48, 49, 48, 49, 48]⟩ : ByteArray)) ++ t139).size + 3) = False := eq_false (Nat.not_lt.2 c54)
              (try (have h_ := of_eq_false c54b2; simp only [ByteArray.size_append, ByteArray.size_extract, Nat.min_self, Int.toNat_natCast, Nat.sub_zero, Int.natCast_add, size_lit, List.length_cons, List.length_nil, Nat.zero_add, Nat.reduceAdd, Int.natCast_one, Int.cast_ofNat_Int] at h_; have c54b2s := eq_false h_; clear h_))
              obtain rfl := Option.some.inj H
              go_enter Tryz.func30, Tryz.ntmps30
              try go_wp2
              have n0_ := Aside0.mk (below_drew1 HB.out)
              clear HB
              have HB := n0_
              clear n0_
              have p44 : 0 ≤ (0 : Int) := (by omega)
              have q44 : 0 < ((⟨#[48]⟩ : ByteArray) ++ a1).size := (by have : (0 : Int) < (((⟨#[48]⟩ : ByteArray) ++ a1).size : Int) := of_decide_eq_true (by first | (with_reducible assumption) | assumption); omega)
              (try (have q44s := q44; simp only [ByteArray.size_append, ByteArray.size_extract, Nat.min_self, Int.toNat_natCast, Nat.sub_zero, Int.natCast_add, size_lit, List.length_cons, List.length_nil, Nat.zero_add, Nat.reduceAdd, Int.natCast_one, Int.cast_ofNat_Int] at q44s))
              have hx44 : ∀ h : 0 < ((⟨#[48]⟩ : ByteArray) ++ a1).size, ((((⟨#[48]⟩ : ByteArray) ++ a1)[0]'h).toNat : Int) = bt ((⟨#[48]⟩ : ByteArray) ++ a1) 0 := bt_at ((⟨#[48]⟩ : ByteArray) ++ a1) 0
              have hz_ : ∀ h : 0 < (⟨#[48]⟩ : ByteArray).size, ((((⟨#[48]⟩ : ByteArray)[0]'h).toNat : Nat) : Int) = bt ((⟨#[48]⟩ : ByteArray) ++ a1) 0 := fun h => zero_at a1 h
              clear p44
              have qi44 : (0 < (((⟨#[48]⟩ : ByteArray) ++ a1).size : Int)) = True := eq_true (of_decide_eq_true (by first | (with_reducible assumption) | assumption))
              replace q44 := eq_true q44
              (try (have h_ := of_eq_true q44; simp only [ByteArray.size_append, ByteArray.size_extract, Nat.min_self, Int.toNat_natCast, Nat.sub_zero, Int.natCast_add, size_lit, List.length_cons, List.length_nil, Nat.zero_add, Nat.reduceAdd, Int.natCast_one, Int.cast_ofNat_Int] at h_; have q44s := eq_true h_; clear h_))
              refine start_ (n := 17) (S := fun _ => True) (ds := []) #[false, false, false, false, false, false, false, false, false, false, false, false, false, false, false, false, false] (by kernel_rfl) rfl rfl trivial (fun hHeld => ?_); refine with_tabW ean_symbol.tab11 ean_symbol.bits11 (fun HT_ HW_ => ?_)
              generalize w.drew = w55 at HB hHeld ⊢
              refine pure_ (i := 0) (N := some 42) (v := ?_) (a' := ?_) #[true, false, false, false, false, false, false, false, false, false, false, false, false, false, false, false, false] rfl rfl (any_of HT_.out (by kernel_rfl)) (fun _ _ _ h => h) (Or.inl ⟨by rfl, ?_⟩) ?_ ?_
              rotate_left
              ·intro w'
               go_simp
               try go_bits
               with_reducible rfl
              rotate_left
              ·simp only [Act.put, List.setIfInBounds_toArray, List.set_cons_zero, List.set_cons_succ, i64_w]
               rfl
              refine pure_ (i := 1) (N := some 43) (v := ?_) (a' := ?_) #[true, true, false, false, false, false, false, false, false, false, false, false, false, false, false, false, false] rfl rfl (any_of HT_.out (by kernel_rfl)) (fun _ _ _ h => h) (Or.inl ⟨by rfl, ?_⟩) ?_ ?_
              rotate_left
              ·intro w'
               go_simp
               try go_bits
               with_reducible rfl
              rotate_left
              ·simp only [Act.put, List.setIfInBounds_toArray, List.set_cons_zero, List.set_cons_succ, i64_w]
               rfl
              refine pure_ (i := 3) (N := some 45) (v := ?_) (a' := ?_) #[true, true, false, true, false, false, false, false, false, false, false, false, false, false, false, false, false] rfl rfl (any_of HT_.out (by kernel_rfl)) (fun _ _ _ h => h) (Or.inl ⟨by rfl, ?_⟩) ?_ ?_
              rotate_left
              ·intro w'
               go_simp
               try go_bits
               with_reducible rfl
              rotate_left
              ·simp only [Act.put, List.setIfInBounds_toArray, List.set_cons_zero, List.set_cons_succ, i64_w]
               rfl
              refine pure_ (i := 11) (N := some 53) (v := ?_) (a' := ?_) #[true, true, false, true, false, false, false, false, false, false, false, true, false, false, false, false, false] rfl rfl (any_of HT_.out (by kernel_rfl)) (fun _ _ _ h => h) (Or.inl ⟨by rfl, ?_⟩) ?_ ?_
              rotate_left
              ·intro w'
               go_simp
               try go_bits
               with_reducible rfl
              rotate_left
              ·simp only [Act.put, List.setIfInBounds_toArray, List.set_cons_zero, List.set_cons_succ, i64_w]
               rfl
              refine pure_ (i := 12) (N := some 54) (v := ?_) (a' := ?_) #[true, true, false, true, false, false, false, false, false, false, false, true, true, false, false, false, false] rfl rfl (any_of HT_.out (by kernel_rfl)) (fun _ _ _ h => h) (Or.inl ⟨by rfl, ?_⟩) ?_ ?_
              rotate_left
              ·intro w'
               go_simp
               try go_bits
               with_reducible rfl
              rotate_left
              ·simp only [Act.put, List.setIfInBounds_toArray, List.set_cons_zero, List.set_cons_succ, i64_w]
               rfl
              refine take_ (i := 4) (N := some 46) (v := ?_) (a' := ?_) #[true, true, false, true, true, false, false, false, false, false, false, true, true, false, false, false, false] rfl rfl (take_ofW HT_.out HW_.out (by kernel_rfl)) (fun _ _ _ h => h) (Or.inl ⟨by rfl, ?_⟩) hHeld ?_ ?_
              rotate_left
              ·intro w' s0
               go_simp
               try go_bits
               with_reducible rfl
              rotate_left
              ·simp only [Act.put, List.setIfInBounds_toArray, List.set_cons_zero, List.set_cons_succ, i64_w]
               rfl
              refine pure_ (i := 5) (N := some 47) (v := ?_) (a' := ?_) #[true, true, false, true, true, true, false, false, false, false, false, true, true, false, false, false, false] rfl rfl (any_of HT_.out (by kernel_rfl)) (fun _ _ _ h => h) (Or.inl ⟨by rfl, ?_⟩) ?_ ?_
              rotate_left
              ·intro w'
               go_simp
               try go_bits
               with_reducible rfl
              rotate_left
              ·simp only [Act.put, List.setIfInBounds_toArray, List.set_cons_zero, List.set_cons_succ, i64_w]
               rfl
              refine one_ (i := 2) (N := some 44) #[true, true, true, true, true, true, false, false, false, false, false, true, true, false, false, false, false] rfl rfl (one_of HT_.out (by kernel_rfl)) (by decide) (fun K hK => ?_)
              refine goes_ Tryz.func63 (by kernel_rfl) rfl #[] (by rfl) rfl rfl (by (try simp only [List.map_toArray, List.map_cons, List.map_nil]); first | done | rfl | (simp only [List.length_drop, List.length_take]; rfl) | (go_simp; done) | (go_simp; rfl)) ?_
              with_reducible refine (ean_parity13.calls  t134 _ A42.out).mono ?_
              rintro e w56 ⟨v135, rfl, ho0, hb⟩
              refine ⟨_, rfl, ?_⟩
              have n0_ := Aside0.mk (Kd.R_lower ho0 (below_size (by repeat (first | (with_reducible first | exact HB.out | apply below_alloc | apply pw_below_drewN | apply below_drew1) | exact HB.out))))
              have n1_ := Aside0.mk (below_step (by repeat (first | (with_reducible first | exact HB.out | apply below_alloc | apply pw_below_drewN | apply below_drew1) | exact HB.out)) hb)
              clear HB
              have HO136 := n0_
              have HB := n1_
              clear n0_ n1_
              (try clear hb)
              (try clear hb2)
              (try clear hk)
              (try clear hi)
              (try clear ho0)
              obtain ⟨Ao57, co57, eo57⟩ := Kd.R_slice HO136.out
              (first | subst eo57 | (injection eo57 with f1_ f2_ f3_; have f4_ := f1_.symm; have f5_ := f3_.symm; clear f1_ f2_ f3_; subst f4_; subst f5_))
              have p137 : 0 ≤ ((ji45) : Int) := of_decide_eq_true (by first | (with_reducible assumption) | assumption)
              have q137 : (ji45) < (t134.length : Int) := of_decide_eq_true (by first | (with_reducible assumption) | assumption)
              obtain ⟨ad137, e137, hx137_0⟩ := Kd.at_string (Kd.R_reads' HO136.out).2.2 (ji45) p137 q137
              cases e137
              replace p137 := eq_true p137
              replace q137 := eq_true q137
              (try (have h_ := of_eq_true q137; simp only [ByteArray.size_append, ByteArray.size_extract, Nat.min_self, Int.toNat_natCast, Nat.sub_zero, Int.natCast_add, size_lit, List.length_cons, List.length_nil, Nat.zero_add, Nat.reduceAdd, Int.natCast_one, Int.cast_ofNat_Int] at h_; have q137s := eq_true h_; clear h_))
              refine hK.out _ _ trivial (fun hHeld => ?_)
              clear hK K
              refine norm_ (a' := ?_) ?_ ?_
              rotate_left
              ·show Act.put _ (some 44) _ = _
               simp only [Act.put, List.setIfInBounds_toArray, List.set_cons_zero, List.set_cons_succ, i64_w]
               rfl
              refine pure_ (i := 6) (N := some 48) (v := ?_) (a' := ?_) #[true, true, true, true, true, true, true, false, false, false, false, true, true, false, false, false, false] rfl rfl (any_of HT_.out (by kernel_rfl)) (fun _ _ _ h => h) (Or.inl ⟨by rfl, ?_⟩) ?_ ?_
              rotate_left
              ·intro w'
               go_simp
               try go_bits
               with_reducible rfl
              rotate_left
              ·simp only [Act.put, List.setIfInBounds_toArray, List.set_cons_zero, List.set_cons_succ, i64_w]
               rfl
              refine one_ (i := 7) (N := some 49) #[true, true, true, true, true, true, true, true, false, false, false, true, true, false, false, false, false] rfl rfl (by first | exact one_of HT_.out (by kernel_rfl) | kernel_rfl) (by decide) (fun K hK => ?_)
              refine valQ_ (v := .string (rdOf ByteArray.empty t134 (ji45))) (by rfl) rfl (by go_simp; first | done | rfl) ?_
              refine hK.out _ _ trivial (fun hHeld => ?_)
              clear hK K
              refine norm_ (a' := ?_) ?_ ?_
              rotate_left
              ·show Act.put _ (some 49) _ = _
               simp only [Act.put, List.setIfInBounds_toArray, List.set_cons_zero, List.set_cons_succ, i64_w]
               rfl
              refine one_ (i := 8) (N := some 50) #[true, true, true, true, true, true, true, true, true, false, false, true, true, false, false, false, false] rfl rfl (one_of HT_.out (by kernel_rfl)) (by decide) (fun K hK => ?_)
              refine goes_ Tryz.func31 (by kernel_rfl) rfl #[.string (((⟨#[48]⟩ : ByteArray) ++ a1).extract 1 7), .string (rdOf ByteArray.empty t134 (ji45)), .string (⟨#[]⟩ : ByteArray)] (by rfl) rfl rfl (by (try simp only [List.map_toArray, List.map_cons, List.map_nil]); first | done | (simp only [hji45]; rfl) | rfl | (simp only [List.length_drop, List.length_take]; rfl) | (go_simp; done) | (go_simp; rfl)) ?_
              with_reducible refine (ean_drawn.calls k (((⟨#[48]⟩ : ByteArray) ++ a1).extract 1 7) (rdOf ByteArray.empty t134 (ji45)) (⟨#[]⟩ : ByteArray) t138 _ A48.out).mono ?_
              rintro e w58 ⟨rfl, hb⟩
              refine ⟨_, rfl, ?_⟩
              have n0_ := Aside0.mk (Kd.R_below (by (with_reducible repeat (first | apply Kd.R_alloc | apply Kd.R_drewN | apply Kd.R_drew)); exact HO136.out) hb)
              have n1_ := Aside0.mk (below_step (by repeat (first | (with_reducible first | exact HB.out | apply below_alloc | apply pw_below_drewN | apply below_drew1) | exact HB.out)) hb)
              clear HO136
              clear HB
              have HO136 := n0_
              have HB := n1_
              clear n0_ n1_
              (try clear hb)
              (try clear hb2)
              (try clear hk)
              (try clear hi)
              refine hK.out _ _ trivial (fun hHeld => ?_)
              clear hK K
              refine norm_ (a' := ?_) ?_ ?_
              rotate_left
              ·show Act.put _ (some 50) _ = _
               simp only [Act.put, List.setIfInBounds_toArray, List.set_cons_zero, List.set_cons_succ, i64_w]
               rfl
              refine pure_ (i := 9) (N := some 51) (v := ?_) (a' := ?_) #[true, true, true, true, true, true, true, true, true, true, false, true, true, false, false, false, false] rfl rfl (any_of HT_.out (by kernel_rfl)) (fun _ _ _ h => h) (Or.inl ⟨by rfl, ?_⟩) ?_ ?_
              rotate_left
              ·intro w'
               go_simp
               try go_bits
               with_reducible rfl
              rotate_left
              ·simp only [Act.put, List.setIfInBounds_toArray, List.set_cons_zero, List.set_cons_succ, i64_w]
               rfl
              refine pure_ (i := 10) (N := some 52) (v := ?_) (a' := ?_) #[true, true, true, true, true, true, true, true, true, true, true, true, true, false, false, false, false] rfl rfl (any_of HT_.out (by kernel_rfl)) (fun _ _ _ h => h) (Or.inl ⟨by rfl, ?_⟩) ?_ ?_
              rotate_left
              ·intro w'
               go_simp
               try go_bits
               with_reducible rfl
              rotate_left
              ·simp only [Act.put, List.setIfInBounds_toArray, List.set_cons_zero, List.set_cons_succ, i64_w]
               rfl
              refine one_ (i := 13) (N := some 55) #[true, true, true, true, true, true, true, true, true, true, true, true, true, true, false, false, false] rfl rfl (one_of HT_.out (by kernel_rfl)) (by decide) (fun K hK => ?_)
              refine goes_ Tryz.func31 (by kernel_rfl) rfl #[.string (((⟨#[48]⟩ : ByteArray) ++ a1).extract 7 ((⟨#[48]⟩ : ByteArray) ++ a1).size), .string (⟨#[67, 67, 67, 67, 67, 67]⟩ : ByteArray), .string (⟨#[]⟩ : ByteArray)] (by rfl) rfl rfl (by (try simp only [List.map_toArray, List.map_cons, List.map_nil]); first | done | rfl | (simp only [List.length_drop, List.length_take]; rfl) | (go_simp; done) | (go_simp; rfl)) ?_
              with_reducible refine (ean_drawn.calls k (((⟨#[48]⟩ : ByteArray) ++ a1).extract 7 ((⟨#[48]⟩ : ByteArray) ++ a1).size) (⟨#[67, 67, 67, 67, 67, 67]⟩ : ByteArray) (⟨#[]⟩ : ByteArray) t139 _ A52.out).mono ?_
              rintro e w59 ⟨rfl, hb⟩
              refine ⟨_, rfl, ?_⟩
              have n0_ := Aside0.mk (Kd.R_below (by (with_reducible repeat (first | apply Kd.R_alloc | apply Kd.R_drewN | apply Kd.R_drew)); exact HO136.out) hb)
              have n1_ := Aside0.mk (below_step (by repeat (first | (with_reducible first | exact HB.out | apply below_alloc | apply pw_below_drewN | apply below_drew1) | exact HB.out)) hb)
              clear HO136
              clear HB
              have HO136 := n0_
              have HB := n1_
              clear n0_ n1_
              (try clear hb)
              (try clear hb2)
              (try clear hk)
              (try clear hi)
              refine hK.out _ _ trivial (fun hHeld => ?_)
              clear hK K
              refine norm_ (a' := ?_) ?_ ?_
              rotate_left
              ·show Act.put _ (some 55) _ = _
               simp only [Act.put, List.setIfInBounds_toArray, List.set_cons_zero, List.set_cons_succ, i64_w]
               rfl
              refine pure_ (i := 14) (N := some 56) (v := ?_) (a' := ?_) #[true, true, true, true, true, true, true, true, true, true, true, true, true, true, true, false, false] rfl rfl (any_of HT_.out (by kernel_rfl)) (fun _ _ _ h => h) (Or.inl ⟨by rfl, ?_⟩) ?_ ?_
              rotate_left
              ·intro w'
               go_simp
               try go_bits
               with_reducible rfl
              rotate_left
              ·simp only [Act.put, List.setIfInBounds_toArray, List.set_cons_zero, List.set_cons_succ, i64_w]
               rfl
              refine pure_ (i := 15) (N := some 57) (v := ?_) (a' := ?_) #[true, true, true, true, true, true, true, true, true, true, true, true, true, true, true, true, false] rfl rfl (any_of HT_.out (by kernel_rfl)) (fun _ _ _ h => h) (Or.inl ⟨by rfl, ?_⟩) ?_ ?_
              rotate_left
              ·intro w'
               go_simp
               try go_bits
               with_reducible rfl
              rotate_left
              ·simp only [Act.put, List.setIfInBounds_toArray, List.set_cons_zero, List.set_cons_succ, i64_w]
               rfl
              refine pure_ (i := 16) (N := some 4) (v := ?_) (a' := ?_) #[true, true, true, true, true, true, true, true, true, true, true, true, true, true, true, true, true] rfl rfl (any_of HT_.out (by kernel_rfl)) (fun _ _ _ h => h) (Or.inl ⟨by rfl, ?_⟩) ?_ ?_
              rotate_left
              ·intro w'
               go_simp
               try go_bits
               with_reducible rfl
              rotate_left
              ·simp only [Act.put, List.setIfInBounds_toArray, List.set_cons_zero, List.set_cons_succ, i64_w]
               rfl
              refine done_ (done_of HT_.out (by kernel_rfl)) ?_
              try go_wp2
              go_ret
              exact ⟨by first | rfl | (simp [errW_none, errW_some] <;> rfl) | (simp only [← hji45]; first | rfl | (simp [errW_none, errW_some] <;> rfl)) | (simp [*, errW_none, errW_some] <;> rfl), by repeat (first | (with_reducible first | exact HB.out | apply below_alloc | apply pw_below_drewN | apply below_drew1) | exact HB.out)⟩
             ·rw [if_neg c54] at H
              exact absurd H (by simp)
            ·rw [if_neg c53] at H
             exact absurd H (by simp)
           ·rw [if_neg c50] at H
            exact absurd H (by simp)
          ·rw [if_neg c49] at H
           exact absurd H (by simp)
         ·rw [if_neg c47] at H
          exact absurd H (by simp)
        ·rw [if_neg c46] at H
         exact absurd H (by simp)
       ·rw [if_neg c43] at H
        exact absurd H (by simp)
      ·rw [if_neg c41] at H
       exact absurd H (by simp)
     ·rw [if_neg c40] at H
      exact absurd H (by simp)
    ·rw [if_neg c39] at H
     exact absurd H (by simp)
   ·rw [if_neg c38] at H
    have c38b0 : (a0 == 3) = false := beq_eq_false_iff_ne.mpr c38
    have c38b1 : (a0 != 3) = true := bne_iff_ne.mpr c38
    by_cases c60 : 1 ≤ 7
    ·rw [if_pos c60] at H
     have c60b0 := eq_true c60
     (try (have h_ := of_eq_true c60b0; simp only [ByteArray.size_append, ByteArray.size_extract, Nat.min_self, Int.toNat_natCast, Nat.sub_zero, Int.natCast_add, size_lit, List.length_cons, List.length_nil, Nat.zero_add, Nat.reduceAdd, Int.natCast_one, Int.cast_ofNat_Int] at h_; have c60b0s := eq_true h_; clear h_))
     have c60b1 : decide (1 ≤ 7) = true := decide_eq_true c60
     clear c60
     by_cases c61 : 7 ≤ (a1.size : Int)
     ·rw [if_pos c61] at H
      have c61b0 := eq_true c61
      (try (have h_ := of_eq_true c61b0; simp only [ByteArray.size_append, ByteArray.size_extract, Nat.min_self, Int.toNat_natCast, Nat.sub_zero, Int.natCast_add, size_lit, List.length_cons, List.length_nil, Nat.zero_add, Nat.reduceAdd, Int.natCast_one, Int.cast_ofNat_Int] at h_; have c61b0s := eq_true h_; clear h_))
      have c61b1 : decide (7 ≤ (a1.size : Int)) = true := decide_eq_true c61
      clear c61
      replace H := Option.bind_eq_some_iff.mp H
      obtain ⟨t140, A620, H⟩ := H
      replace H : (if 0 < (a1.size : Int) then (if 0 ≤ (((bt a1 0) - 48) % 256) then (if (((bt a1 0) - 48) % 256) < (t140.length : Int) then ((ean_drawn.f k (a1.extract 1 7) (rdOf ByteArray.empty t140 (((bt a1 0) - 48) % 256)) (⟨#[]⟩ : ByteArray)).bind fun t144 => (if 3 + t144.size ≤ 9223372036854775807 then (if ((⟨#[49, 48, 49]⟩ : ByteArray) ++ t144).size + 5 ≤ 9223372036854775807 then ((ean_drawn.f k (a1.extract 7 a1.size) (⟨#[67, 67, 67, 67, 67, 67]⟩ : ByteArray) (⟨#[]⟩ : ByteArray)).bind fun t145 => (if (((⟨#[49, 48, 49]⟩ : ByteArray) ++ t144) ++ (⟨#[48, 49, 48, 49, 48]⟩ : ByteArray)).size + t145.size ≤ 9223372036854775807 then (if ((((⟨#[49, 48, 49]⟩ : ByteArray) ++ t144) ++ (⟨#[48, 49, 48, 49, 48]⟩ : ByteArray)) ++ t145).size + 3 ≤ 9223372036854775807 then (some (((((⟨#[49, 48, 49]⟩ : ByteArray) ++ t144) ++ (⟨#[48, 49, 48, 49, 48]⟩ : ByteArray)) ++ t145) ++ (⟨#[49, 48, 49]⟩ : ByteArray))) else (none)) else (none))) else (none)) else (none))) else (none)) else (none)) else (none)) = some r := H
      have A62 := Aside0.mk A620
      clear A620
      by_cases c63 : 0 < (a1.size : Int)
      ·rw [if_pos c63] at H
       have c63b0 : decide (0 < (a1.size : Int)) = true := decide_eq_true c63
       have c63b1 : decide (0 < a1.size) = true := decide_eq_true (by omega)
       clear c63
       obtain ⟨ji65, hji65⟩ : ∃ j_ : Int, (((bt a1 0) - 48) % 256) = j_ := ⟨_, rfl⟩
       replace H : (if 0 ≤ (ji65) then (if (ji65) < (t140.length : Int) then ((ean_drawn.f k (a1.extract 1 7) (rdOf ByteArray.empty t140 (ji65)) (⟨#[]⟩ : ByteArray)).bind fun t144 => (if 3 + t144.size ≤ 9223372036854775807 then (if ((⟨#[49, 48, 49]⟩ : ByteArray) ++ t144).size + 5 ≤ 9223372036854775807 then ((ean_drawn.f k (a1.extract 7 a1.size) (⟨#[67, 67, 67, 67, 67, 67]⟩ : ByteArray) (⟨#[]⟩ : ByteArray)).bind fun t145 => (if (((⟨#[49, 48, 49]⟩ : ByteArray) ++ t144) ++ (⟨#[48, 49, 48, 49, 48]⟩ : ByteArray)).size + t145.size ≤ 9223372036854775807 then (if ((((⟨#[49, 48, 49]⟩ : ByteArray) ++ t144) ++ (⟨#[48, 49, 48, 49, 48]⟩ : ByteArray)) ++ t145).size + 3 ≤ 9223372036854775807 then (some (((((⟨#[49, 48, 49]⟩ : ByteArray) ++ t144) ++ (⟨#[48, 49, 48, 49, 48]⟩ : ByteArray)) ++ t145) ++ (⟨#[49, 48, 49]⟩ : ByteArray))) else (none)) else (none))) else (none)) else (none))) else (none)) else (none)) = some r := by first | (rw [hji65] at H; exact H) | (simp only [hji65] at H ⊢; exact H)
       (try rw [hji65] at A62)
       by_cases c66 : 0 ≤ (ji65)
       ·rw [if_pos c66] at H
        have c66b0 : decide (0 ≤ (ji65)) = true := decide_eq_true c66
        clear c66
        by_cases c67 : (ji65) < (t140.length : Int)
        ·rw [if_pos c67] at H
         have c67b0 : decide ((ji65) < (t140.length : Int)) = true := decide_eq_true c67
         clear c67
         replace H := Option.bind_eq_some_iff.mp H
         obtain ⟨t144, A680, H⟩ := H
         replace H : (if 3 + t144.size ≤ 9223372036854775807 then (if ((⟨#[49, 48, 49]⟩ : ByteArray) ++ t144).size + 5 ≤ 9223372036854775807 then ((ean_drawn.f k (a1.extract 7 a1.size) (⟨#[67, 67, 67, 67, 67, 67]⟩ : ByteArray) (⟨#[]⟩ : ByteArray)).bind fun t145 => (if (((⟨#[49, 48, 49]⟩ : ByteArray) ++ t144) ++ (⟨#[48, 49, 48, 49, 48]⟩ : ByteArray)).size + t145.size ≤ 9223372036854775807 then (if ((((⟨#[49, 48, 49]⟩ : ByteArray) ++ t144) ++ (⟨#[48, 49, 48, 49, 48]⟩ : ByteArray)) ++ t145).size + 3 ≤ 9223372036854775807 then (some (((((⟨#[49, 48, 49]⟩ : ByteArray) ++ t144) ++ (⟨#[48, 49, 48, 49, 48]⟩ : ByteArray)) ++ t145) ++ (⟨#[49, 48, 49]⟩ : ByteArray))) else (none)) else (none))) else (none)) else (none)) = some r := H
         have A68 := Aside0.mk A680
         clear A680
         by_cases c69 : 3 + t144.size ≤ 9223372036854775807
         ·rw [if_pos c69] at H
          have c69b0 := eq_true c69
          (try (have h_ := of_eq_true c69b0; simp only [ByteArray.size_append, ByteArray.size_extract, Nat.min_self, Int.toNat_natCast, Nat.sub_zero, Int.natCast_add, size_lit, List.length_cons, List.length_nil, Nat.zero_add, Nat.reduceAdd, Int.natCast_one, Int.cast_ofNat_Int] at h_; have c69b0s := eq_true h_; clear h_))
          have c69b1 : decide (3 + t144.size ≤ 9223372036854775807) = true := decide_eq_true c69
          try have c69b2 : (9223372036854775807 < 3 + t144.size) = False := eq_false (Nat.not_lt.2 c69)
          by_cases c70 : ((⟨#[49, 48, 49]⟩ : ByteArray) ++ t144).size + 5 ≤ 9223372036854775807
          ·rw [if_pos c70] at H
           have c70b0 := eq_true c70
           (try (have h_ := of_eq_true c70b0; simp only [ByteArray.size_append, ByteArray.size_extract, Nat.min_self, Int.toNat_natCast, Nat.sub_zero, Int.natCast_add, size_lit, List.length_cons, List.length_nil, Nat.zero_add, Nat.reduceAdd, Int.natCast_one, Int.cast_ofNat_Int] at h_; have c70b0s := eq_true h_; clear h_))
           have c70b1 : decide (((⟨#[49, 48, 49]⟩ : ByteArray) ++ t144).size + 5 ≤ 9223372036854775807) = true := decide_eq_true c70
           (try (have c70b1s := c70b1; simp only [ByteArray.size_append, ByteArray.size_extract, Nat.min_self, Int.toNat_natCast, Nat.sub_zero, Int.natCast_add, size_lit, List.length_cons, List.length_nil, Nat.zero_add, Nat.reduceAdd, Int.natCast_one, Int.cast_ofNat_Int] at c70b1s))
           (try (have h_ := of_decide_eq_true c70b1; simp only [ByteArray.size_append, ByteArray.size_extract, Nat.min_self, Int.toNat_natCast, Nat.sub_zero, Int.natCast_add, size_lit, List.length_cons, List.length_nil, Nat.zero_add, Nat.reduceAdd, Int.natCast_one, Int.cast_ofNat_Int] at h_; have c70b1t := eq_true h_; clear h_))
           try have c70b2 : (9223372036854775807 < ((⟨#[49, 48, 49]⟩ : ByteArray) ++ t144).size + 5) = False := eq_false (Nat.not_lt.2 c70)
           (try (have h_ := of_eq_false c70b2; simp only [ByteArray.size_append, ByteArray.size_extract, Nat.min_self, Int.toNat_natCast, Nat.sub_zero, Int.natCast_add, size_lit, List.length_cons, List.length_nil, Nat.zero_add, Nat.reduceAdd, Int.natCast_one, Int.cast_ofNat_Int] at h_; have c70b2s := eq_false h_; clear h_))
           have c71b0 := eq_true (of_decide_eq_true (by first | (with_reducible assumption) | assumption) : 7 ≤ (a1.size : Int))
           (try (have h_ := of_eq_true c71b0; simp only [ByteArray.size_append, ByteArray.size_extract, Nat.min_self, Int.toNat_natCast, Nat.sub_zero, Int.natCast_add, size_lit, List.length_cons, List.length_nil, Nat.zero_add, Nat.reduceAdd, Int.natCast_one, Int.cast_ofNat_Int] at h_; have c71b0s := eq_true h_; clear h_))
           replace H := Option.bind_eq_some_iff.mp H
           obtain ⟨t145, A720, H⟩ := H
           replace H : (if (((⟨#[49, 48, 49]⟩ : ByteArray) ++ t144) ++ (⟨#[48, 49, 48, 49, 48]⟩ : ByteArray)).size + t145.size ≤ 9223372036854775807 then (if ((((⟨#[49, 48, 49]⟩ : ByteArray) ++ t144) ++ (⟨#[48, 49, 48, 49, 48]⟩ : ByteArray)) ++ t145).size + 3 ≤ 9223372036854775807 then (some (((((⟨#[49, 48, 49]⟩ : ByteArray) ++ t144) ++ (⟨#[48, 49, 48, 49, 48]⟩ : ByteArray)) ++ t145) ++ (⟨#[49, 48, 49]⟩ : ByteArray))) else (none)) else (none)) = some r := H
           have A72 := Aside0.mk A720
           clear A720
           by_cases c73 : (((⟨#[49, 48, 49]⟩ : ByteArray) ++ t144) ++ (⟨#[48, 49, 48, 49, 48]⟩ : ByteArray)).size + t145.size ≤ 9223372036854775807
           ·rw [if_pos c73] at H
            have c73b0 := eq_true c73
            (try (have h_ := of_eq_true c73b0; simp only [ByteArray.size_append, ByteArray.size_extract, Nat.min_self, Int.toNat_natCast, Nat.sub_zero, Int.natCast_add, size_lit, List.length_cons, List.length_nil, Nat.zero_add, Nat.reduceAdd, Int.natCast_one, Int.cast_ofNat_Int] at h_; have c73b0s := eq_true h_; clear h_))
            have c73b1 : decide ((((⟨#[49, 48, 49]⟩ : ByteArray) ++ t144) ++ (⟨#[48, 49, 48, 49, 48]⟩ : ByteArray)).size + t145.size ≤ 9223372036854775807) = true := decide_eq_true c73
            (try (have c73b1s := c73b1; simp only [ByteArray.size_append, ByteArray.size_extract, Nat.min_self, Int.toNat_natCast, Nat.sub_zero, Int.natCast_add, size_lit, List.length_cons, List.length_nil, Nat.zero_add, Nat.reduceAdd, Int.natCast_one, Int.cast_ofNat_Int] at c73b1s))
            (try (have h_ := of_decide_eq_true c73b1; simp only [ByteArray.size_append, ByteArray.size_extract, Nat.min_self, Int.toNat_natCast, Nat.sub_zero, Int.natCast_add, size_lit, List.length_cons, List.length_nil, Nat.zero_add, Nat.reduceAdd, Int.natCast_one, Int.cast_ofNat_Int] at h_; have c73b1t := eq_true h_; clear h_))
            try have c73b2 : (9223372036854775807 < (((⟨#[49, 48, 49]⟩ : ByteArray) ++ t144) ++ (⟨#[48, 49, 48, 49, 48]⟩ : ByteArray)).size + t145.size) = False := eq_false (Nat.not_lt.2 c73)
            (try (have h_ := of_eq_false c73b2; simp only [ByteArray.size_append, ByteArray.size_extract, Nat.min_self, Int.toNat_natCast, Nat.sub_zero, Int.natCast_add, size_lit, List.length_cons, List.length_nil, Nat.zero_add, Nat.reduceAdd, Int.natCast_one, Int.cast_ofNat_Int] at h_; have c73b2s := eq_false h_; clear h_))
            by_cases c74 : ((((⟨#[49, 48, 49]⟩ : ByteArray) ++ t144) ++ (⟨#[48, 49, 48, 49, 48]⟩ : ByteArray)) ++ t145).size + 3 ≤ 9223372036854775807
            ·rw [if_pos c74] at H
             have c74b0 := eq_true c74
             (try (have h_ := of_eq_true c74b0; simp only [ByteArray.size_append, ByteArray.size_extract, Nat.min_self, Int.toNat_natCast, Nat.sub_zero, Int.natCast_add, size_lit, List.length_cons, List.length_nil, Nat.zero_add, Nat.reduceAdd, Int.natCast_one, Int.cast_ofNat_Int] at h_; have c74b0s := eq_true h_; clear h_))
             have c74b1 : decide (((((⟨#[49, 48, 49]⟩ : ByteArray) ++ t144) ++ (⟨#[48, 49, 48, 49, 48]⟩ : ByteArray)) ++ t145).size + 3 ≤ 9223372036854775807) = true := decide_eq_true c74
             (try (have c74b1s := c74b1; simp only [ByteArray.size_append, ByteArray.size_extract, Nat.min_self, Int.toNat_natCast, Nat.sub_zero, Int.natCast_add, size_lit, List.length_cons, List.length_nil, Nat.zero_add, Nat.reduceAdd, Int.natCast_one, Int.cast_ofNat_Int] at c74b1s))
             (try (have h_ := of_decide_eq_true c74b1; simp only [ByteArray.size_append, ByteArray.size_extract, Nat.min_self, Int.toNat_natCast, Nat.sub_zero, Int.natCast_add, size_lit, List.length_cons, List.length_nil, Nat.zero_add, Nat.reduceAdd, Int.natCast_one, Int.cast_ofNat_Int] at h_; have c74b1t := eq_true h_; clear h_))
             try have c74b2 : (9223372036854775807 < ((((⟨#[49, 48, 49]⟩ : ByteArray) ++ t144) ++ (⟨#[48, 49, 48, 49, 48]⟩ : ByteArray)) ++ t145).size + 3) = False := eq_false (Nat.not_lt.2 c74)
             (try (have h_ := of_eq_false c74b2; simp only [ByteArray.size_append, ByteArray.size_extract, Nat.min_self, Int.toNat_natCast, Nat.sub_zero, Int.natCast_add, size_lit, List.length_cons, List.length_nil, Nat.zero_add, Nat.reduceAdd, Int.natCast_one, Int.cast_ofNat_Int] at h_; have c74b2s := eq_false h_; clear h_))
             obtain rfl := Option.some.inj H
             go_enter Tryz.func30, Tryz.ntmps30
             try go_wp2
             have n0_ := Aside0.mk (below_drew1 HB.out)
             clear HB
             have HB := n0_
             clear n0_
             have p64 : 0 ≤ (0 : Int) := (by omega)
             have q64 : 0 < a1.size := (by have : (0 : Int) < (a1.size : Int) := of_decide_eq_true (by first | (with_reducible assumption) | assumption); omega)
             have hx64 : ∀ h : 0 < a1.size, ((a1[0]'h).toNat : Int) = bt a1 0 := bt_at a1 0
             clear p64
             have qi64 : (0 < (a1.size : Int)) = True := eq_true (of_decide_eq_true (by first | (with_reducible assumption) | assumption))
             replace q64 := eq_true q64
             (try (have h_ := of_eq_true q64; simp only [ByteArray.size_append, ByteArray.size_extract, Nat.min_self, Int.toNat_natCast, Nat.sub_zero, Int.natCast_add, size_lit, List.length_cons, List.length_nil, Nat.zero_add, Nat.reduceAdd, Int.natCast_one, Int.cast_ofNat_Int] at h_; have q64s := eq_true h_; clear h_))
             refine start_ (n := 17) (S := fun _ => True) (ds := []) #[false, false, false, false, false, false, false, false, false, false, false, false, false, false, false, false, false] (by kernel_rfl) rfl rfl trivial (fun hHeld => ?_); refine with_tabW ean_symbol.tab11 ean_symbol.bits11 (fun HT_ HW_ => ?_)
             generalize w.drew = w75 at HB hHeld ⊢
             refine pure_ (i := 0) (N := some 42) (v := ?_) (a' := ?_) #[true, false, false, false, false, false, false, false, false, false, false, false, false, false, false, false, false] rfl rfl (any_of HT_.out (by kernel_rfl)) (fun _ _ _ h => h) (Or.inl ⟨by rfl, ?_⟩) ?_ ?_
             rotate_left
             ·intro w'
              go_simp
              try go_bits
              with_reducible rfl
             rotate_left
             ·simp only [Act.put, List.setIfInBounds_toArray, List.set_cons_zero, List.set_cons_succ, i64_w]
              rfl
             refine pure_ (i := 1) (N := some 43) (v := ?_) (a' := ?_) #[true, true, false, false, false, false, false, false, false, false, false, false, false, false, false, false, false] rfl rfl (any_of HT_.out (by kernel_rfl)) (fun _ _ _ h => h) (Or.inl ⟨by rfl, ?_⟩) ?_ ?_
             rotate_left
             ·intro w'
              go_simp
              try go_bits
              with_reducible rfl
             rotate_left
             ·simp only [Act.put, List.setIfInBounds_toArray, List.set_cons_zero, List.set_cons_succ, i64_w]
              rfl
             refine pure_ (i := 3) (N := some 45) (v := ?_) (a' := ?_) #[true, true, false, true, false, false, false, false, false, false, false, false, false, false, false, false, false] rfl rfl (any_of HT_.out (by kernel_rfl)) (fun _ _ _ h => h) (Or.inl ⟨by rfl, ?_⟩) ?_ ?_
             rotate_left
             ·intro w'
              go_simp
              try go_bits
              with_reducible rfl
             rotate_left
             ·simp only [Act.put, List.setIfInBounds_toArray, List.set_cons_zero, List.set_cons_succ, i64_w]
              rfl
             refine pure_ (i := 11) (N := some 53) (v := ?_) (a' := ?_) #[true, true, false, true, false, false, false, false, false, false, false, true, false, false, false, false, false] rfl rfl (any_of HT_.out (by kernel_rfl)) (fun _ _ _ h => h) (Or.inl ⟨by rfl, ?_⟩) ?_ ?_
             rotate_left
             ·intro w'
              go_simp
              try go_bits
              with_reducible rfl
             rotate_left
             ·simp only [Act.put, List.setIfInBounds_toArray, List.set_cons_zero, List.set_cons_succ, i64_w]
              rfl
             refine pure_ (i := 12) (N := some 54) (v := ?_) (a' := ?_) #[true, true, false, true, false, false, false, false, false, false, false, true, true, false, false, false, false] rfl rfl (any_of HT_.out (by kernel_rfl)) (fun _ _ _ h => h) (Or.inl ⟨by rfl, ?_⟩) ?_ ?_
             rotate_left
             ·intro w'
              go_simp
              try go_bits
              with_reducible rfl
             rotate_left
             ·simp only [Act.put, List.setIfInBounds_toArray, List.set_cons_zero, List.set_cons_succ, i64_w]
              rfl
             refine take_ (i := 4) (N := some 46) (v := ?_) (a' := ?_) #[true, true, false, true, true, false, false, false, false, false, false, true, true, false, false, false, false] rfl rfl (take_ofW HT_.out HW_.out (by kernel_rfl)) (fun _ _ _ h => h) (Or.inl ⟨by rfl, ?_⟩) hHeld ?_ ?_
             rotate_left
             ·intro w' s0
              go_simp
              try go_bits
              with_reducible rfl
             rotate_left
             ·simp only [Act.put, List.setIfInBounds_toArray, List.set_cons_zero, List.set_cons_succ, i64_w]
              rfl
             refine pure_ (i := 5) (N := some 47) (v := ?_) (a' := ?_) #[true, true, false, true, true, true, false, false, false, false, false, true, true, false, false, false, false] rfl rfl (any_of HT_.out (by kernel_rfl)) (fun _ _ _ h => h) (Or.inl ⟨by rfl, ?_⟩) ?_ ?_
             rotate_left
             ·intro w'
              go_simp
              try go_bits
              with_reducible rfl
             rotate_left
             ·simp only [Act.put, List.setIfInBounds_toArray, List.set_cons_zero, List.set_cons_succ, i64_w]
              rfl
             refine one_ (i := 2) (N := some 44) #[true, true, true, true, true, true, false, false, false, false, false, true, true, false, false, false, false] rfl rfl (one_of HT_.out (by kernel_rfl)) (by decide) (fun K hK => ?_)
             refine goes_ Tryz.func63 (by kernel_rfl) rfl #[] (by rfl) rfl rfl (by (try simp only [List.map_toArray, List.map_cons, List.map_nil]); first | done | rfl | (simp only [List.length_drop, List.length_take]; rfl) | (go_simp; done) | (go_simp; rfl)) ?_
             with_reducible refine (ean_parity13.calls  t140 _ A62.out).mono ?_
             rintro e w76 ⟨v141, rfl, ho0, hb⟩
             refine ⟨_, rfl, ?_⟩
             have n0_ := Aside0.mk (Kd.R_lower ho0 (below_size (by repeat (first | (with_reducible first | exact HB.out | apply below_alloc | apply pw_below_drewN | apply below_drew1) | exact HB.out))))
             have n1_ := Aside0.mk (below_step (by repeat (first | (with_reducible first | exact HB.out | apply below_alloc | apply pw_below_drewN | apply below_drew1) | exact HB.out)) hb)
             clear HB
             have HO142 := n0_
             have HB := n1_
             clear n0_ n1_
             (try clear hb)
             (try clear hb2)
             (try clear hk)
             (try clear hi)
             (try clear ho0)
             obtain ⟨Ao77, co77, eo77⟩ := Kd.R_slice HO142.out
             (first | subst eo77 | (injection eo77 with f1_ f2_ f3_; have f4_ := f1_.symm; have f5_ := f3_.symm; clear f1_ f2_ f3_; subst f4_; subst f5_))
             have p143 : 0 ≤ ((ji65) : Int) := of_decide_eq_true (by first | (with_reducible assumption) | assumption)
             have q143 : (ji65) < (t140.length : Int) := of_decide_eq_true (by first | (with_reducible assumption) | assumption)
             obtain ⟨ad143, e143, hx143_0⟩ := Kd.at_string (Kd.R_reads' HO142.out).2.2 (ji65) p143 q143
             cases e143
             replace p143 := eq_true p143
             replace q143 := eq_true q143
             (try (have h_ := of_eq_true q143; simp only [ByteArray.size_append, ByteArray.size_extract, Nat.min_self, Int.toNat_natCast, Nat.sub_zero, Int.natCast_add, size_lit, List.length_cons, List.length_nil, Nat.zero_add, Nat.reduceAdd, Int.natCast_one, Int.cast_ofNat_Int] at h_; have q143s := eq_true h_; clear h_))
             refine hK.out _ _ trivial (fun hHeld => ?_)
             clear hK K
             refine norm_ (a' := ?_) ?_ ?_
             rotate_left
             ·show Act.put _ (some 44) _ = _
              simp only [Act.put, List.setIfInBounds_toArray, List.set_cons_zero, List.set_cons_succ, i64_w]
              rfl
             refine pure_ (i := 6) (N := some 48) (v := ?_) (a' := ?_) #[true, true, true, true, true, true, true, false, false, false, false, true, true, false, false, false, false] rfl rfl (any_of HT_.out (by kernel_rfl)) (fun _ _ _ h => h) (Or.inl ⟨by rfl, ?_⟩) ?_ ?_
             rotate_left
             ·intro w'
              go_simp
              try go_bits
              with_reducible rfl
             rotate_left
             ·simp only [Act.put, List.setIfInBounds_toArray, List.set_cons_zero, List.set_cons_succ, i64_w]
              rfl
             refine one_ (i := 7) (N := some 49) #[true, true, true, true, true, true, true, true, false, false, false, true, true, false, false, false, false] rfl rfl (by first | exact one_of HT_.out (by kernel_rfl) | kernel_rfl) (by decide) (fun K hK => ?_)
             refine valQ_ (v := .string (rdOf ByteArray.empty t140 (ji65))) (by rfl) rfl (by go_simp; first | done | rfl) ?_
             refine hK.out _ _ trivial (fun hHeld => ?_)
             clear hK K
             refine norm_ (a' := ?_) ?_ ?_
             rotate_left
             ·show Act.put _ (some 49) _ = _
              simp only [Act.put, List.setIfInBounds_toArray, List.set_cons_zero, List.set_cons_succ, i64_w]
              rfl
             refine one_ (i := 8) (N := some 50) #[true, true, true, true, true, true, true, true, true, false, false, true, true, false, false, false, false] rfl rfl (one_of HT_.out (by kernel_rfl)) (by decide) (fun K hK => ?_)
             refine goes_ Tryz.func31 (by kernel_rfl) rfl #[.string (a1.extract 1 7), .string (rdOf ByteArray.empty t140 (ji65)), .string (⟨#[]⟩ : ByteArray)] (by rfl) rfl rfl (by (try simp only [List.map_toArray, List.map_cons, List.map_nil]); first | done | (simp only [hji65]; rfl) | rfl | (simp only [List.length_drop, List.length_take]; rfl) | (go_simp; done) | (go_simp; rfl)) ?_
             with_reducible refine (ean_drawn.calls k (a1.extract 1 7) (rdOf ByteArray.empty t140 (ji65)) (⟨#[]⟩ : ByteArray) t144 _ A68.out).mono ?_
             rintro e w78 ⟨rfl, hb⟩
             refine ⟨_, rfl, ?_⟩
             have n0_ := Aside0.mk (Kd.R_below (by (with_reducible repeat (first | apply Kd.R_alloc | apply Kd.R_drewN | apply Kd.R_drew)); exact HO142.out) hb)
             have n1_ := Aside0.mk (below_step (by repeat (first | (with_reducible first | exact HB.out | apply below_alloc | apply pw_below_drewN | apply below_drew1) | exact HB.out)) hb)
             clear HO142
             clear HB
             have HO142 := n0_
             have HB := n1_
             clear n0_ n1_
             (try clear hb)
             (try clear hb2)
             (try clear hk)
             (try clear hi)
             refine hK.out _ _ trivial (fun hHeld => ?_)
             clear hK K
             refine norm_ (a' := ?_) ?_ ?_
             rotate_left
             ·show Act.put _ (some 50) _ = _
              simp only [Act.put, List.setIfInBounds_toArray, List.set_cons_zero, List.set_cons_succ, i64_w]
              rfl
             refine pure_ (i := 9) (N := some 51) (v := ?_) (a' := ?_) #[true, true, true, true, true, true, true, true, true, true, false, true, true, false, false, false, false] rfl rfl (any_of HT_.out (by kernel_rfl)) (fun _ _ _ h => h) (Or.inl ⟨by rfl, ?_⟩) ?_ ?_
             rotate_left
             ·intro w'
              go_simp
              try go_bits
              with_reducible rfl
             rotate_left
             ·simp only [Act.put, List.setIfInBounds_toArray, List.set_cons_zero, List.set_cons_succ, i64_w]
              rfl
             refine pure_ (i := 10) (N := some 52) (v := ?_) (a' := ?_) #[true, true, true, true, true, true, true, true, true, true, true, true, true, false, false, false, false] rfl rfl (any_of HT_.out (by kernel_rfl)) (fun _ _ _ h => h) (Or.inl ⟨by rfl, ?_⟩) ?_ ?_
             rotate_left
             ·intro w'
              go_simp
              try go_bits
              with_reducible rfl
             rotate_left
             ·simp only [Act.put, List.setIfInBounds_toArray, List.set_cons_zero, List.set_cons_succ, i64_w]
              rfl
             refine one_ (i := 13) (N := some 55) #[true, true, true, true, true, true, true, true, true, true, true, true, true, true, false, false, false] rfl rfl (one_of HT_.out (by kernel_rfl)) (by decide) (fun K hK => ?_)
             refine goes_ Tryz.func31 (by kernel_rfl) rfl #[.string (a1.extract 7 a1.size), .string (⟨#[67, 67, 67, 67, 67, 67]⟩ : ByteArray), .string (⟨#[]⟩ : ByteArray)] (by rfl) rfl rfl (by (try simp only [List.map_toArray, List.map_cons, List.map_nil]); first | done | rfl | (simp only [List.length_drop, List.length_take]; rfl) | (go_simp; done) | (go_simp; rfl)) ?_
             with_reducible refine (ean_drawn.calls k (a1.extract 7 a1.size) (⟨#[67, 67, 67, 67, 67, 67]⟩ : ByteArray) (⟨#[]⟩ : ByteArray) t145 _ A72.out).mono ?_
             rintro e w79 ⟨rfl, hb⟩
             refine ⟨_, rfl, ?_⟩
             have n0_ := Aside0.mk (Kd.R_below (by (with_reducible repeat (first | apply Kd.R_alloc | apply Kd.R_drewN | apply Kd.R_drew)); exact HO142.out) hb)
             have n1_ := Aside0.mk (below_step (by repeat (first | (with_reducible first | exact HB.out | apply below_alloc | apply pw_below_drewN | apply below_drew1) | exact HB.out)) hb)
             clear HO142
             clear HB
             have HO142 := n0_
             have HB := n1_
             clear n0_ n1_
             (try clear hb)
             (try clear hb2)
             (try clear hk)
             (try clear hi)
             refine hK.out _ _ trivial (fun hHeld => ?_)
             clear hK K
             refine norm_ (a' := ?_) ?_ ?_
             rotate_left
             ·show Act.put _ (some 55) _ = _
              simp only [Act.put, List.setIfInBounds_toArray, List.set_cons_zero, List.set_cons_succ, i64_w]
              rfl
             refine pure_ (i := 14) (N := some 56) (v := ?_) (a' := ?_) #[true, true, true, true, true, true, true, true, true, true, true, true, true, true, true, false, false] rfl rfl (any_of HT_.out (by kernel_rfl)) (fun _ _ _ h => h) (Or.inl ⟨by rfl, ?_⟩) ?_ ?_
             rotate_left
             ·intro w'
              go_simp
              try go_bits
              with_reducible rfl
             rotate_left
             ·simp only [Act.put, List.setIfInBounds_toArray, List.set_cons_zero, List.set_cons_succ, i64_w]
              rfl
             refine pure_ (i := 15) (N := some 57) (v := ?_) (a' := ?_) #[true, true, true, true, true, true, true, true, true, true, true, true, true, true, true, true, false] rfl rfl (any_of HT_.out (by kernel_rfl)) (fun _ _ _ h => h) (Or.inl ⟨by rfl, ?_⟩) ?_ ?_
             rotate_left
             ·intro w'
              go_simp
              try go_bits
              with_reducible rfl
             rotate_left
             ·simp only [Act.put, List.setIfInBounds_toArray, List.set_cons_zero, List.set_cons_succ, i64_w]
              rfl
             refine pure_ (i := 16) (N := some 4) (v := ?_) (a' := ?_) #[true, true, true, true, true, true, true, true, true, true, true, true, true, true, true, true, true] rfl rfl (any_of HT_.out (by kernel_rfl)) (fun _ _ _ h => h) (Or.inl ⟨by rfl, ?_⟩) ?_ ?_
             rotate_left
             ·intro w'
              go_simp
              try go_bits
              with_reducible rfl
             rotate_left
             ·simp only [Act.put, List.setIfInBounds_toArray, List.set_cons_zero, List.set_cons_succ, i64_w]
              rfl
             refine done_ (done_of HT_.out (by kernel_rfl)) ?_
             try go_wp2
             go_ret
             exact ⟨by first | rfl | (simp [errW_none, errW_some] <;> rfl) | (simp only [← hji65]; first | rfl | (simp [errW_none, errW_some] <;> rfl)) | (simp [*, errW_none, errW_some] <;> rfl), by repeat (first | (with_reducible first | exact HB.out | apply below_alloc | apply pw_below_drewN | apply below_drew1) | exact HB.out)⟩
            ·rw [if_neg c74] at H
             exact absurd H (by simp)
           ·rw [if_neg c73] at H
            exact absurd H (by simp)
          ·rw [if_neg c70] at H
           exact absurd H (by simp)
         ·rw [if_neg c69] at H
          exact absurd H (by simp)
        ·rw [if_neg c67] at H
         exact absurd H (by simp)
       ·rw [if_neg c66] at H
        exact absurd H (by simp)
      ·rw [if_neg c63] at H
       exact absurd H (by simp)
     ·rw [if_neg c61] at H
      exact absurd H (by simp)
    ·rw [if_neg c60] at H
     exact absurd H (by simp)

end Go.Proofs.YtjmeekceecpemaaGreatDoor.Q

namespace Go.Proofs.YtjmeekceecpemaaGreatDoor.Q
open Go.RowKit Go.Proofs.YtjmeekceecpemaaGreatDoorW.PrintWords Go.Proofs.YtjmeekceecpemaaGreatDoorW.PrintLast Go.Proofs.YtjmeekceecpemaaGreatDoorW.PrintMore

set_option linter.unusedVariables false
set_option linter.unusedSimpArgs false

/-! ### ean_parity2: function 65 -/
def ean_parity2.f  : Option (List ByteArray) := some (([(⟨#[65, 65]⟩ : ByteArray), (⟨#[65, 66]⟩ : ByteArray), (⟨#[66, 65]⟩ : ByteArray), (⟨#[66, 66]⟩ : ByteArray)] : List ByteArray))
set_option maxHeartbeats 8000000 in
set_option maxRecDepth 100000 in
theorem ean_parity2.calls  (r : List ByteArray) (w : World) (h : ean_parity2.f  = some r) :
    Calls Tryz.prog 65 #[] w fun e w' => ∃ v0_ : Value, e = .returned (v0_) ∧ Kd.R Kd.string 9 w' w.heap.size (fun _ => True) v0_ r ∧ Below w.heap.size w w' := by
  have HB := Aside0.mk (Below.refl w.heap.size w)
  have H : (some (([(⟨#[65, 65]⟩ : ByteArray), (⟨#[65, 66]⟩ : ByteArray), (⟨#[66, 65]⟩ : ByteArray), (⟨#[66, 66]⟩ : ByteArray)] : List ByteArray))) = some r := h
  clear h
  obtain ⟨y146, hy146⟩ : ∃ y_ : List ByteArray, y_ = (([(⟨#[65, 65]⟩ : ByteArray), (⟨#[65, 66]⟩ : ByteArray), (⟨#[66, 65]⟩ : ByteArray), (⟨#[66, 66]⟩ : ByteArray)] : List ByteArray)) := ⟨_, rfl⟩
  replace H : (some y146) = some r := by first | (rw [hy146]; with_reducible exact H) | (have H2_ := (Option.bind_some _ _).symm.trans H; rw [hy146]; with_reducible exact H2_) | (have H2_ := (Option.bind_some _ _).symm.trans H; with_reducible exact H2_) | with_reducible exact H | (rw [hy146]; exact H) | exact H
  have Ny146 := Aside0.mk hy146
  clear hy146
  obtain rfl := Option.some.inj H
  go_enter Tryz.func65, Tryz.ntmps65
  go_wp2_with (first | ((with_reducible refine gate_dst (N := 1) rfl ?_); refine Kd.R_lit Kd.string _ 9 ?hg (N := 1) ?hd (xs := ([(⟨#[65, 65]⟩ : ByteArray), (⟨#[65, 66]⟩ : ByteArray), (⟨#[66, 65]⟩ : ByteArray), (⟨#[66, 66]⟩ : ByteArray)] : List ByteArray)) (inner := [.string (⟨#[65, 65]⟩ : ByteArray), .string (⟨#[65, 66]⟩ : ByteArray), .string (⟨#[66, 65]⟩ : ByteArray), .string (⟨#[66, 66]⟩ : ByteArray)]) (ok := fun _ => True) (okp := fun _ => True) ?hr ?hp (fun _ hk => hk) trivial (Below.refl _ _) (Nat.le_refl _) (by simp) ?_; (case hd => rfl); (case hg => rfl); (case hr => first | (go_simp; done) | (go_simp; rfl)); (case hp => exact (Reps.one (show Kd.M Kd.string _ _ _ (⟨#[65, 65]⟩ : ByteArray) [.string (⟨#[65, 65]⟩ : ByteArray)] from rfl) (Reps.one (show Kd.M Kd.string _ _ _ (⟨#[65, 66]⟩ : ByteArray) [.string (⟨#[65, 66]⟩ : ByteArray)] from rfl) (Reps.one (show Kd.M Kd.string _ _ _ (⟨#[66, 65]⟩ : ByteArray) [.string (⟨#[66, 65]⟩ : ByteArray)] from rfl) (Reps.one (show Kd.M Kd.string _ _ _ (⟨#[66, 66]⟩ : ByteArray) [.string (⟨#[66, 66]⟩ : ByteArray)] from rfl) (Reps.none _ _)))))); intro v147 w1 ho2 hb hg_ hnew_; clear hg_ hnew_; (first | rw [← Ny146.out] at ho2 | (simp only [Int.reduceToNat] at ho2; rw [← Ny146.out] at ho2)); have n0_ := Aside0.mk (Kd.R_lower ho2 (below_size (by repeat (first | (with_reducible first | exact HB.out | apply below_alloc | apply pw_below_drewN | apply below_drew1) | exact HB.out)))); have n1_ := Aside0.mk (below_step (by repeat (first | (with_reducible first | exact HB.out | apply below_alloc | apply pw_below_drewN | apply below_drew1) | exact HB.out)) hb); clear HB; have HO148 := n0_; have HB := n1_; clear n0_ n1_; clear hb ho2))
  go_ret
  exact ⟨_, by first | rfl | (simp [errW_none, errW_some] <;> rfl) | (simp [*, errW_none, errW_some] <;> rfl), by (with_reducible repeat (first | apply Kd.R_alloc | apply Kd.R_drewN | apply Kd.R_drew)); exact HO148.out, by repeat (first | (with_reducible first | exact HB.out | apply below_alloc | apply pw_below_drewN | apply below_drew1) | exact HB.out)⟩

end Go.Proofs.YtjmeekceecpemaaGreatDoor.Q

namespace Go.Proofs.YtjmeekceecpemaaGreatDoor.Q
open Go.RowKit Go.Proofs.YtjmeekceecpemaaGreatDoorW.PrintWords Go.Proofs.YtjmeekceecpemaaGreatDoorW.PrintLast Go.Proofs.YtjmeekceecpemaaGreatDoorW.PrintMore

set_option linter.unusedVariables false
set_option linter.unusedSimpArgs false

/-! ### ean_parity5: function 66 -/
def ean_parity5.f  : Option (List ByteArray) := some (([(⟨#[66, 66, 65, 65, 65]⟩ : ByteArray), (⟨#[66, 65, 66, 65, 65]⟩ : ByteArray), (⟨#[66, 65, 65, 66, 65]⟩ : ByteArray), (⟨#[66, 65, 65, 65, 66]⟩ : ByteArray), (⟨#[65, 66, 66, 65, 65]⟩ : ByteArray), (⟨#[65, 65, 66, 66, 65]⟩ : ByteArray), (⟨#[65, 65, 65, 66, 66]⟩ : ByteArray), (⟨#[65, 66, 65, 66, 65]⟩ : ByteArray), (⟨#[65, 66, 65, 65, 66]⟩ : ByteArray), (⟨#[65, 65, 66, 65, 66]⟩ : ByteArray)] : List ByteArray))
set_option maxHeartbeats 8000000 in
set_option maxRecDepth 100000 in
theorem ean_parity5.calls  (r : List ByteArray) (w : World) (h : ean_parity5.f  = some r) :
    Calls Tryz.prog 66 #[] w fun e w' => ∃ v0_ : Value, e = .returned (v0_) ∧ Kd.R Kd.string 9 w' w.heap.size (fun _ => True) v0_ r ∧ Below w.heap.size w w' := by
  have HB := Aside0.mk (Below.refl w.heap.size w)
  have H : (some (([(⟨#[66, 66, 65, 65, 65]⟩ : ByteArray), (⟨#[66, 65, 66, 65, 65]⟩ : ByteArray), (⟨#[66, 65, 65, 66, 65]⟩ : ByteArray), (⟨#[66, 65, 65, 65, 66]⟩ : ByteArray), (⟨#[65, 66, 66, 65, 65]⟩ : ByteArray), (⟨#[65, 65, 66, 66, 65]⟩ : ByteArray), (⟨#[65, 65, 65, 66, 66]⟩ : ByteArray), (⟨#[65, 66, 65, 66, 65]⟩ : ByteArray), (⟨#[65, 66, 65, 65, 66]⟩ : ByteArray), (⟨#[65, 65, 66, 65, 66]⟩ : ByteArray)] : List ByteArray))) = some r := h
  clear h
  obtain ⟨y149, hy149⟩ : ∃ y_ : List ByteArray, y_ = (([(⟨#[66, 66, 65, 65, 65]⟩ : ByteArray), (⟨#[66, 65, 66, 65, 65]⟩ : ByteArray), (⟨#[66, 65, 65, 66, 65]⟩ : ByteArray), (⟨#[66, 65, 65, 65, 66]⟩ : ByteArray), (⟨#[65, 66, 66, 65, 65]⟩ : ByteArray), (⟨#[65, 65, 66, 66, 65]⟩ : ByteArray), (⟨#[65, 65, 65, 66, 66]⟩ : ByteArray), (⟨#[65, 66, 65, 66, 65]⟩ : ByteArray), (⟨#[65, 66, 65, 65, 66]⟩ : ByteArray), (⟨#[65, 65, 66, 65, 66]⟩ : ByteArray)] : List ByteArray)) := ⟨_, rfl⟩
  replace H : (some y149) = some r := by first | (rw [hy149]; with_reducible exact H) | (have H2_ := (Option.bind_some _ _).symm.trans H; rw [hy149]; with_reducible exact H2_) | (have H2_ := (Option.bind_some _ _).symm.trans H; with_reducible exact H2_) | with_reducible exact H | (rw [hy149]; exact H) | exact H
  have Ny149 := Aside0.mk hy149
  clear hy149
  obtain rfl := Option.some.inj H
  go_enter Tryz.func66, Tryz.ntmps66
  go_wp2_with (first | ((with_reducible refine gate_dst (N := 1) rfl ?_); refine Kd.R_lit Kd.string _ 9 ?hg (N := 1) ?hd (xs := ([(⟨#[66, 66, 65, 65, 65]⟩ : ByteArray), (⟨#[66, 65, 66, 65, 65]⟩ : ByteArray), (⟨#[66, 65, 65, 66, 65]⟩ : ByteArray), (⟨#[66, 65, 65, 65, 66]⟩ : ByteArray), (⟨#[65, 66, 66, 65, 65]⟩ : ByteArray), (⟨#[65, 65, 66, 66, 65]⟩ : ByteArray), (⟨#[65, 65, 65, 66, 66]⟩ : ByteArray), (⟨#[65, 66, 65, 66, 65]⟩ : ByteArray), (⟨#[65, 66, 65, 65, 66]⟩ : ByteArray), (⟨#[65, 65, 66, 65, 66]⟩ : ByteArray)] : List ByteArray)) (inner := [.string (⟨#[66, 66, 65, 65, 65]⟩ : ByteArray), .string (⟨#[66, 65, 66, 65, 65]⟩ : ByteArray), .string (⟨#[66, 65, 65, 66, 65]⟩ : ByteArray), .string (⟨#[66, 65, 65, 65, 66]⟩ : ByteArray), .string (⟨#[65, 66, 66, 65, 65]⟩ : ByteArray), .string (⟨#[65, 65, 66, 66, 65]⟩ : ByteArray), .string (⟨#[65, 65, 65, 66, 66]⟩ : ByteArray), .string (⟨#[65, 66, 65, 66, 65]⟩ : ByteArray), .string (⟨#[65, 66, 65, 65, 66]⟩ : ByteArray), .string (⟨#[65, 65, 66, 65, 66]⟩ : ByteArray)]) (ok := fun _ => True) (okp := fun _ => True) ?hr ?hp (fun _ hk => hk) trivial (Below.refl _ _) (Nat.le_refl _) (by simp) ?_; (case hd => rfl); (case hg => rfl); (case hr => first | (go_simp; done) | (go_simp; rfl)); (case hp => exact (Reps.one (show Kd.M Kd.string _ _ _ (⟨#[66, 66, 65, 65, 65]⟩ : ByteArray) [.string (⟨#[66, 66, 65, 65, 65]⟩ : ByteArray)] from rfl) (Reps.one (show Kd.M Kd.string _ _ _ (⟨#[66, 65, 66, 65, 65]⟩ : ByteArray) [.string (⟨#[66, 65, 66, 65, 65]⟩ : ByteArray)] from rfl) (Reps.one (show Kd.M Kd.string _ _ _ (⟨#[66, 65, 65, 66, 65]⟩ : ByteArray) [.string (⟨#[66, 65, 65, 66, 65]⟩ : ByteArray)] from rfl) (Reps.one (show Kd.M Kd.string _ _ _ (⟨#[66, 65, 65, 65, 66]⟩ : ByteArray) [.string (⟨#[66, 65, 65, 65, 66]⟩ : ByteArray)] from rfl) (Reps.one (show Kd.M Kd.string _ _ _ (⟨#[65, 66, 66, 65, 65]⟩ : ByteArray) [.string (⟨#[65, 66, 66, 65, 65]⟩ : ByteArray)] from rfl) (Reps.one (show Kd.M Kd.string _ _ _ (⟨#[65, 65, 66, 66, 65]⟩ : ByteArray) [.string (⟨#[65, 65, 66, 66, 65]⟩ : ByteArray)] from rfl) (Reps.one (show Kd.M Kd.string _ _ _ (⟨#[65, 65, 65, 66, 66]⟩ : ByteArray) [.string (⟨#[65, 65, 65, 66, 66]⟩ : ByteArray)] from rfl) (Reps.one (show Kd.M Kd.string _ _ _ (⟨#[65, 66, 65, 66, 65]⟩ : ByteArray) [.string (⟨#[65, 66, 65, 66, 65]⟩ : ByteArray)] from rfl) (Reps.one (show Kd.M Kd.string _ _ _ (⟨#[65, 66, 65, 65, 66]⟩ : ByteArray) [.string (⟨#[65, 66, 65, 65, 66]⟩ : ByteArray)] from rfl) (Reps.one (show Kd.M Kd.string _ _ _ (⟨#[65, 65, 66, 65, 66]⟩ : ByteArray) [.string (⟨#[65, 65, 66, 65, 66]⟩ : ByteArray)] from rfl) (Reps.none _ _)))))))))))); intro v150 w1 ho2 hb hg_ hnew_; clear hg_ hnew_; (first | rw [← Ny149.out] at ho2 | (simp only [Int.reduceToNat] at ho2; rw [← Ny149.out] at ho2)); have n0_ := Aside0.mk (Kd.R_lower ho2 (below_size (by repeat (first | (with_reducible first | exact HB.out | apply below_alloc | apply pw_below_drewN | apply below_drew1) | exact HB.out)))); have n1_ := Aside0.mk (below_step (by repeat (first | (with_reducible first | exact HB.out | apply below_alloc | apply pw_below_drewN | apply below_drew1) | exact HB.out)) hb); clear HB; have HO151 := n0_; have HB := n1_; clear n0_ n1_; clear hb ho2))
  go_ret
  exact ⟨_, by first | rfl | (simp [errW_none, errW_some] <;> rfl) | (simp [*, errW_none, errW_some] <;> rfl), by (with_reducible repeat (first | apply Kd.R_alloc | apply Kd.R_drewN | apply Kd.R_drew)); exact HO151.out, by repeat (first | (with_reducible first | exact HB.out | apply below_alloc | apply pw_below_drewN | apply below_drew1) | exact HB.out)⟩

end Go.Proofs.YtjmeekceecpemaaGreatDoor.Q
