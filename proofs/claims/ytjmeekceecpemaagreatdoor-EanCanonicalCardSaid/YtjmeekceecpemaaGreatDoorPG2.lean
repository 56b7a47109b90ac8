/- Joined by a program of this work (pack.py) out of the texts QeanparityE, Qeanparity13, Qeansymbol, Qeanparity2, Qeanparity5, QeansetsOf, Qeanmodules, QeanEncode, Qeantext, QeanreadDigits, QslicesIndexstringstring, QeanreadE of this seat, in build order. -/
import Derived.Test.YtjmeekceecpemaaGreatDoorPG1
namespace Go.Proofs.YtjmeekceecpemaaGreatDoor.Q
open Go.RowKit Go.Proofs.YtjmeekceecpemaaGreatDoorW.PrintWords Go.Proofs.YtjmeekceecpemaaGreatDoorW.PrintLast Go.Proofs.YtjmeekceecpemaaGreatDoorW.PrintMore

set_option linter.unusedVariables false
set_option linter.unusedSimpArgs false

/-! ### ean_parityE: function 61 -/
def ean_parityE.f  : Option (List ByteArray) := some (([(⟨#[66, 66, 66, 65, 65, 65]⟩ : ByteArray), (⟨#[66, 66, 65, 66, 65, 65]⟩ : ByteArray), (⟨#[66, 66, 65, 65, 66, 65]⟩ : ByteArray), (⟨#[66, 66, 65, 65, 65, 66]⟩ : ByteArray), (⟨#[66, 65, 66, 66, 65, 65]⟩ : ByteArray), (⟨#[66, 65, 65, 66, 66, 65]⟩ : ByteArray), (⟨#[66, 65, 65, 65, 66, 66]⟩ : ByteArray), (⟨#[66, 65, 66, 65, 66, 65]⟩ : ByteArray), (⟨#[66, 65, 66, 65, 65, 66]⟩ : ByteArray), (⟨#[66, 65, 65, 66, 65, 66]⟩ : ByteArray)] : List ByteArray))
set_option maxHeartbeats 8000000 in
set_option maxRecDepth 100000 in
theorem ean_parityE.calls  (r : List ByteArray) (w : World) (h : ean_parityE.f  = some r) :
    Calls Tryz.prog 61 #[] w fun e w' => ∃ v0_ : Value, e = .returned (v0_) ∧ Kd.R Kd.string 9 w' w.heap.size (fun _ => True) v0_ r ∧ Below w.heap.size w w' := by
 have HB := Aside0.mk (Below.refl w.heap.size w)
 have H := h
 clear h
 unfold ean_parityE.f at H
 obtain ⟨y120, hy120⟩ : ∃ y_ : List ByteArray, y_ = (([(⟨#[66, 66, 66, 65, 65, 65]⟩ : ByteArray), (⟨#[66, 66, 65, 66, 65, 65]⟩ : ByteArray), (⟨#[66, 66, 65, 65, 66, 65]⟩ : ByteArray), (⟨#[66, 66, 65, 65, 65, 66]⟩ : ByteArray), (⟨#[66, 65, 66, 66, 65, 65]⟩ : ByteArray), (⟨#[66, 65, 65, 66, 66, 65]⟩ : ByteArray), (⟨#[66, 65, 65, 65, 66, 66]⟩ : ByteArray), (⟨#[66, 65, 66, 65, 66, 65]⟩ : ByteArray), (⟨#[66, 65, 66, 65, 65, 66]⟩ : ByteArray), (⟨#[66, 65, 65, 66, 65, 66]⟩ : ByteArray)] : List ByteArray)) := ⟨_, rfl⟩
 replace H : (some y120) = some r := by first | (rw [hy120]; with_reducible exact H) | (have H2_ := (Option.bind_some _ _).symm.trans H; rw [hy120]; with_reducible exact H2_) | (have H2_ := (Option.bind_some _ _).symm.trans H; with_reducible exact H2_) | with_reducible exact H | (rw [hy120]; exact H) | exact H
 have Ny120 := Aside0.mk hy120
 clear hy120
 obtain rfl := Option.some.inj H
 go_enter Tryz.func61, Tryz.ntmps61
 go_wp2_with (first | ((with_reducible refine gate_dst (N := 1) rfl ?_); refine Kd.R_lit Kd.string _ 9 ?hg (N := 1) ?hd (xs := ([(⟨#[66, 66, 66, 65, 65, 65]⟩ : ByteArray), (⟨#[66, 66, 65, 66, 65, 65]⟩ : ByteArray), (⟨#[66, 66, 65, 65, 66, 65]⟩ : ByteArray), (⟨#[66, 66, 65, 65, 65, 66]⟩ : ByteArray), (⟨#[66, 65, 66, 66, 65, 65]⟩ : ByteArray), (⟨#[66, 65, 65, 66, 66, 65]⟩ : ByteArray), (⟨#[66, 65, 65, 65, 66, 66]⟩ : ByteArray), (⟨#[66, 65, 66, 65, 66, 65]⟩ : ByteArray), (⟨#[66, 65, 66, 65, 65, 66]⟩ : ByteArray), (⟨#[66, 65, 65, 66, 65, 66]⟩ : ByteArray)] : List ByteArray)) (inner := [.string (⟨#[66, 66, 66, 65, 65, 65]⟩ : ByteArray), .string (⟨#[66, 66, 65, 66, 65, 65]⟩ : ByteArray), .string (⟨#[66, 66, 65, 65, 66, 65]⟩ : ByteArray), .string (⟨#[66, 66, 65, 65, 65, 66]⟩ : ByteArray), .string (⟨#[66, 65, 66, 66, 65, 65]⟩ : ByteArray), .string (⟨#[66, 65, 65, 66, 66, 65]⟩ : ByteArray), .string (⟨#[66, 65, 65, 65, 66, 66]⟩ : ByteArray), .string (⟨#[66, 65, 66, 65, 66, 65]⟩ : ByteArray), .string (⟨#[66, 65, 66, 65, 65, 66]⟩ : ByteArray), .string (⟨#[66, 65, 65, 66, 65, 66]⟩ : ByteArray)]) (ok := fun _ => True) (okp := fun _ => True) ?hr ?hp (fun _ hk => hk) trivial (Below.refl _ _) (Nat.le_refl _) (by simp) ?_; (case hd => rfl); (case hg => rfl); (case hr => first | (go_simp; done) | (go_simp; rfl)); (case hp => exact (Reps.one (show Kd.M Kd.string _ _ _ (⟨#[66, 66, 66, 65, 65, 65]⟩ : ByteArray) [.string (⟨#[66, 66, 66, 65, 65, 65]⟩ : ByteArray)] from rfl) (Reps.one (show Kd.M Kd.string _ _ _ (⟨#[66, 66, 65, 66, 65, 65]⟩ : ByteArray) [.string (⟨#[66, 66, 65, 66, 65, 65]⟩ : ByteArray)] from rfl) (Reps.one (show Kd.M Kd.string _ _ _ (⟨#[66, 66, 65, 65, 66, 65]⟩ : ByteArray) [.string (⟨#[66, 66, 65, 65, 66, 65]⟩ : ByteArray)] from rfl) (Reps.one (show Kd.M Kd.string _ _ _ (⟨#[66, 66, 65, 65, 65, 66]⟩ : ByteArray) [.string (⟨#[66, 66, 65, 65, 65, 66]⟩ : ByteArray)] from rfl) (Reps.one (show Kd.M Kd.string _ _ _ (⟨#[66, 65, 66, 66, 65, 65]⟩ : ByteArray) [.string (⟨#[66, 65, 66, 66, 65, 65]⟩ : ByteArray)] from rfl) (Reps.one (show Kd.M Kd.string _ _ _ (⟨#[66, 65, 65, 66, 66, 65]⟩ : ByteArray) [.string (⟨#[66, 65, 65, 66, 66, 65]⟩ : ByteArray)] from rfl) (Reps.one (show Kd.M Kd.string _ _ _ (⟨#[66, 65, 65, 65, 66, 66]⟩ : ByteArray) [.string (⟨#[66, 65, 65, 65, 66, 66]⟩ : ByteArray)] from rfl) (Reps.one (show Kd.M Kd.string _ _ _ (⟨#[66, 65, 66, 65, 66, 65]⟩ : ByteArray) [.string (⟨#[66, 65, 66, 65, 66, 65]⟩ : ByteArray)] from rfl) (Reps.one (show Kd.M Kd.string _ _ _ (⟨#[66, 65, 66, 65, 65, 66]⟩ : ByteArray) [.string (⟨#[66, 65, 66, 65, 65, 66]⟩ : ByteArray)] from rfl) (Reps.one (show Kd.M Kd.string _ _ _ (⟨#[66, 65, 65, 66, 65, 66]⟩ : ByteArray) [.string (⟨#[66, 65, 65, 66, 65, 66]⟩ : ByteArray)] from rfl) (Reps.none _ _)))))))))))); intro v121 w1 ho2 hb hg_ hnew_; clear hg_ hnew_; (first | rw [← Ny120.out] at ho2 | (simp only [Int.reduceToNat] at ho2; rw [← Ny120.out] at ho2)); have n0_ := Aside0.mk (Kd.R_lower ho2 (below_size bw)); have n1_ := Aside0.mk (below_step bw hb); clear HB; have HO122 := n0_; have HB := n1_; clear n0_ n1_; clear hb ho2))
 go_ret
 exact ⟨_, es, kd HO122, bw⟩

end Go.Proofs.YtjmeekceecpemaaGreatDoor.Q

namespace Go.Proofs.YtjmeekceecpemaaGreatDoor.Q
open Go.RowKit Go.Proofs.YtjmeekceecpemaaGreatDoorW.PrintWords Go.Proofs.YtjmeekceecpemaaGreatDoorW.PrintLast Go.Proofs.YtjmeekceecpemaaGreatDoorW.PrintMore

set_option linter.unusedVariables false
set_option linter.unusedSimpArgs false

/-! ### ean_parity13: function 63 -/
def ean_parity13.f  : Option (List ByteArray) := some (([(⟨#[65, 65, 65, 65, 65, 65]⟩ : ByteArray), (⟨#[65, 65, 66, 65, 66, 66]⟩ : ByteArray), (⟨#[65, 65, 66, 66, 65, 66]⟩ : ByteArray), (⟨#[65, 65, 66, 66, 66, 65]⟩ : ByteArray), (⟨#[65, 66, 65, 65, 66, 66]⟩ : ByteArray), (⟨#[65, 66, 66, 65, 65, 66]⟩ : ByteArray), (⟨#[65, 66, 66, 66, 65, 65]⟩ : ByteArray), (⟨#[65, 66, 65, 66, 65, 66]⟩ : ByteArray), (⟨#[65, 66, 65, 66, 66, 65]⟩ : ByteArray), (⟨#[65, 66, 66, 65, 66, 65]⟩ : ByteArray)] : List ByteArray))
set_option maxHeartbeats 8000000 in
set_option maxRecDepth 100000 in
theorem ean_parity13.calls  (r : List ByteArray) (w : World) (h : ean_parity13.f  = some r) :
    Calls Tryz.prog 63 #[] w fun e w' => ∃ v0_ : Value, e = .returned (v0_) ∧ Kd.R Kd.string 9 w' w.heap.size (fun _ => True) v0_ r ∧ Below w.heap.size w w' := by
 have HB := Aside0.mk (Below.refl w.heap.size w)
 have H := h
 clear h
 unfold ean_parity13.f at H
 obtain ⟨y123, hy123⟩ : ∃ y_ : List ByteArray, y_ = (([(⟨#[65, 65, 65, 65, 65, 65]⟩ : ByteArray), (⟨#[65, 65, 66, 65, 66, 66]⟩ : ByteArray), (⟨#[65, 65, 66, 66, 65, 66]⟩ : ByteArray), (⟨#[65, 65, 66, 66, 66, 65]⟩ : ByteArray), (⟨#[65, 66, 65, 65, 66, 66]⟩ : ByteArray), (⟨#[65, 66, 66, 65, 65, 66]⟩ : ByteArray), (⟨#[65, 66, 66, 66, 65, 65]⟩ : ByteArray), (⟨#[65, 66, 65, 66, 65, 66]⟩ : ByteArray), (⟨#[65, 66, 65, 66, 66, 65]⟩ : ByteArray), (⟨#[65, 66, 66, 65, 66, 65]⟩ : ByteArray)] : List ByteArray)) := ⟨_, rfl⟩
 replace H : (some y123) = some r := by first | (rw [hy123]; with_reducible exact H) | (have H2_ := (Option.bind_some _ _).symm.trans H; rw [hy123]; with_reducible exact H2_) | (have H2_ := (Option.bind_some _ _).symm.trans H; with_reducible exact H2_) | with_reducible exact H | (rw [hy123]; exact H) | exact H
 have Ny123 := Aside0.mk hy123
 clear hy123
 obtain rfl := Option.some.inj H
 go_enter Tryz.func63, Tryz.ntmps63
 go_wp2_with (first | ((with_reducible refine gate_dst (N := 1) rfl ?_); refine Kd.R_lit Kd.string _ 9 ?hg (N := 1) ?hd (xs := ([(⟨#[65, 65, 65, 65, 65, 65]⟩ : ByteArray), (⟨#[65, 65, 66, 65, 66, 66]⟩ : ByteArray), (⟨#[65, 65, 66, 66, 65, 66]⟩ : ByteArray), (⟨#[65, 65, 66, 66, 66, 65]⟩ : ByteArray), (⟨#[65, 66, 65, 65, 66, 66]⟩ : ByteArray), (⟨#[65, 66, 66, 65, 65, 66]⟩ : ByteArray), (⟨#[65, 66, 66, 66, 65, 65]⟩ : ByteArray), (⟨#[65, 66, 65, 66, 65, 66]⟩ : ByteArray), (⟨#[65, 66, 65, 66, 66, 65]⟩ : ByteArray), (⟨#[65, 66, 66, 65, 66, 65]⟩ : ByteArray)] : List ByteArray)) (inner := [.string (⟨#[65, 65, 65, 65, 65, 65]⟩ : ByteArray), .string (⟨#[65, 65, 66, 65, 66, 66]⟩ : ByteArray), .string (⟨#[65, 65, 66, 66, 65, 66]⟩ : ByteArray), .string (⟨#[65, 65, 66, 66, 66, 65]⟩ : ByteArray), .string (⟨#[65, 66, 65, 65, 66, 66]⟩ : ByteArray), .string (⟨#[65, 66, 66, 65, 65, 66]⟩ : ByteArray), .string (⟨#[65, 66, 66, 66, 65, 65]⟩ : ByteArray), .string (⟨#[65, 66, 65, 66, 65, 66]⟩ : ByteArray), .string (⟨#[65, 66, 65, 66, 66, 65]⟩ : ByteArray), .string (⟨#[65, 66, 66, 65, 66, 65]⟩ : ByteArray)]) (ok := fun _ => True) (okp := fun _ => True) ?hr ?hp (fun _ hk => hk) trivial (Below.refl _ _) (Nat.le_refl _) (by simp) ?_; (case hd => rfl); (case hg => rfl); (case hr => first | (go_simp; done) | (go_simp; rfl)); (case hp => exact (Reps.one (show Kd.M Kd.string _ _ _ (⟨#[65, 65, 65, 65, 65, 65]⟩ : ByteArray) [.string (⟨#[65, 65, 65, 65, 65, 65]⟩ : ByteArray)] from rfl) (Reps.one (show Kd.M Kd.string _ _ _ (⟨#[65, 65, 66, 65, 66, 66]⟩ : ByteArray) [.string (⟨#[65, 65, 66, 65, 66, 66]⟩ : ByteArray)] from rfl) (Reps.one (show Kd.M Kd.string _ _ _ (⟨#[65, 65, 66, 66, 65, 66]⟩ : ByteArray) [.string (⟨#[65, 65, 66, 66, 65, 66]⟩ : ByteArray)] from rfl) (Reps.one (show Kd.M Kd.string _ _ _ (⟨#[65, 65, 66, 66, 66, 65]⟩ : ByteArray) [.string (⟨#[65, 65, 66, 66, 66, 65]⟩ : ByteArray)] from rfl) (Reps.one (show Kd.M Kd.string _ _ _ (⟨#[65, 66, 65, 65, 66, 66]⟩ : ByteArray) [.string (⟨#[65, 66, 65, 65, 66, 66]⟩ : ByteArray)] from rfl) (Reps.one (show Kd.M Kd.string _ _ _ (⟨#[65, 66, 66, 65, 65, 66]⟩ : ByteArray) [.string (⟨#[65, 66, 66, 65, 65, 66]⟩ : ByteArray)] from rfl) (Reps.one (show Kd.M Kd.string _ _ _ (⟨#[65, 66, 66, 66, 65, 65]⟩ : ByteArray) [.string (⟨#[65, 66, 66, 66, 65, 65]⟩ : ByteArray)] from rfl) (Reps.one (show Kd.M Kd.string _ _ _ (⟨#[65, 66, 65, 66, 65, 66]⟩ : ByteArray) [.string (⟨#[65, 66, 65, 66, 65, 66]⟩ : ByteArray)] from rfl) (Reps.one (show Kd.M Kd.string _ _ _ (⟨#[65, 66, 65, 66, 66, 65]⟩ : ByteArray) [.string (⟨#[65, 66, 65, 66, 66, 65]⟩ : ByteArray)] from rfl) (Reps.one (show Kd.M Kd.string _ _ _ (⟨#[65, 66, 66, 65, 66, 65]⟩ : ByteArray) [.string (⟨#[65, 66, 66, 65, 66, 65]⟩ : ByteArray)] from rfl) (Reps.none _ _)))))))))))); intro v124 w1 ho2 hb hg_ hnew_; clear hg_ hnew_; (first | rw [← Ny123.out] at ho2 | (simp only [Int.reduceToNat] at ho2; rw [← Ny123.out] at ho2)); have n0_ := Aside0.mk (Kd.R_lower ho2 (below_size bw)); have n1_ := Aside0.mk (below_step bw hb); clear HB; have HO125 := n0_; have HB := n1_; clear n0_ n1_; clear hb ho2))
 go_ret
 exact ⟨_, es, kd HO125, bw⟩

end Go.Proofs.YtjmeekceecpemaaGreatDoor.Q

namespace Go.Proofs.YtjmeekceecpemaaGreatDoor.Q
open Go.RowKit Go.Proofs.YtjmeekceecpemaaGreatDoorW.PrintWords Go.Proofs.YtjmeekceecpemaaGreatDoorW.PrintLast Go.Proofs.YtjmeekceecpemaaGreatDoorW.PrintMore
theorem zero_at (a1 : ByteArray) (h : 0 < (⟨#[48]⟩ : ByteArray).size) : ((((⟨#[48]⟩ : ByteArray)[0]'h).toNat : Nat) : Int) = bt ((⟨#[48]⟩ : ByteArray) ++ a1) 0 := by
 have e : bs ((⟨#[48]⟩ : ByteArray) ++ a1) = 48 :: bs a1 := by rw [bs_append]; rfl
 have hl : 0 < (bs ((⟨#[48]⟩ : ByteArray) ++ a1)).length := by rw [e]; simp
 have h2 := bt_nat ((⟨#[48]⟩ : ByteArray) ++ a1) 0 hl
 rw [show ((0 : Nat) : Int) = 0 from rfl] at h2
 rw [h2]
 simp only [e]
 rfl
theorem valQ_ {P : Program} {ops : Array Oper} {Q : Exit → Act → World → Prop} {oi : Oper} {N : Option Tmp} {a : Act} {w : World} {K : Act → World → Prop} {v : Value} (hw : Region.wanted oi (yielded ops a.tmps) = true) (hN : oi.dst = N) (hrun : (execOp a.eval oi).run P w = .ok (.value v) w)
  (h : K (a.put N v) w) : if Region.wanted oi (yielded ops a.tmps) = true then Oper.wp P oi a w K Q else K (a.put N undef) w := by
 rw [if_pos hw]
 subst hN
 unfold Oper.wp
 rw [hrun]
 exact h

set_option linter.unusedVariables false
set_option linter.unusedSimpArgs false

/-! ### ean_symbol: function 30 -/
def ean_symbol.j0 : Nat → ByteArray → ByteArray → Option (ByteArray)
 | 0, _, _ => none
 | k + 1, x1, x5 => if 1 ≤ 7 then (if 7 ≤ (x1.size : Int) then ((ean_drawn.f k (x1.extract 1 7) x5 (⟨#[]⟩ : ByteArray)).bind fun t133 => (if 3 + t133.size ≤ 9223372036854775807 then (if ((⟨#[49, 48, 49]⟩ : ByteArray) ++ t133).size + 6 ≤ 9223372036854775807 then (some (((⟨#[49, 48, 49]⟩ : ByteArray) ++ t133) ++ (⟨#[48, 49, 48, 49, 48, 49]⟩ : ByteArray))) else (none)) else (none))) else (none)) else (none)
def ean_symbol.f (k : Nat) (a0 : Int) (a1 : ByteArray) : Option (ByteArray) := if a0 = 2 then (if 0 ≤ 4 then (if 4 ≤ (a1.size : Int) then ((ean_drawn.f k (a1.extract 0 4) (⟨#[65, 65, 65, 65]⟩ : ByteArray) (⟨#[]⟩ : ByteArray)).bind fun t126 => (if 3 + t126.size ≤ 9223372036854775807 then (if ((⟨#[49, 48, 49]⟩ : ByteArray) ++ t126).size + 5 ≤ 9223372036854775807 then ((ean_drawn.f k (a1.extract 4 a1.size) (⟨#[67, 67, 67, 67]⟩ : ByteArray) (⟨#[]⟩ : ByteArray)).bind fun t127 => (if (((⟨#[49, 48, 49]⟩ : ByteArray) ++ t126) ++ (⟨#[48, 49, 48, 49, 48]⟩ : ByteArray)).size + t127.size ≤ 9223372036854775807 then (if ((((⟨#[49, 48, 49]⟩ : ByteArray) ++ t126) ++ (⟨#[48, 49, 48, 49, 48]⟩ : ByteArray)) ++ t127).size + 3 ≤ 9223372036854775807 then (some (((((⟨#[49, 48, 49]⟩ : ByteArray) ++ t126) ++ (⟨#[48, 49, 48, 49, 48]⟩ : ByteArray)) ++ t127) ++ (⟨#[49, 48, 49]⟩ : ByteArray))) else (none)) else (none))) else (none)) else (none))) else (none)) else (none)) else (if a0 = 4 then ((ean_parityE.f).bind fun t128 => (if 7 < (a1.size : Int) then (if 0 ≤ (((bt a1 7) - 48) % 256) then (if (((bt a1 7) - 48) % 256) < (t128.length : Int) then (if 0 < (a1.size : Int) then (if (bt a1 0) = 49 then ((ean_flipped.f (rdOf ByteArray.empty t128 (((bt a1 7) - 48) % 256)) (⟨#[65]⟩ : ByteArray) (⟨#[66]⟩ : ByteArray)).bind fun t132 => (ean_symbol.j0 k a1 t132)) else (ean_symbol.j0 k a1 (rdOf ByteArray.empty t128 (((bt a1 7) - 48) % 256)))) else (none)) else (none)) else (none)) else (none))) else (if a0 = 3 then (if 1 + a1.size ≤ 9223372036854775807 then (if 1 ≤ 7 then (if 7 ≤ (((⟨#[48]⟩ : ByteArray) ++ a1).size : Int) then ((ean_parity13.f).bind fun t134 => (if 0 < (((⟨#[48]⟩ : ByteArray) ++ a1).size : Int) then (if 0 ≤ (((bt ((⟨#[48]⟩ : ByteArray) ++ a1) 0) - 48) % 256) then (if (((bt ((⟨#[48]⟩ : ByteArray) ++ a1) 0) - 48) % 256) < (t134.length : Int) then ((ean_drawn.f k (((⟨#[48]⟩ : ByteArray) ++ a1).extract 1 7) (rdOf ByteArray.empty t134 (((bt ((⟨#[48]⟩ : ByteArray) ++ a1) 0) - 48) % 256)) (⟨#[]⟩ : ByteArray)).bind fun t138 => (if 3 + t138.size ≤ 9223372036854775807 then (if ((⟨#[49, 48, 49]⟩ : ByteArray) ++ t138).size + 5 ≤ 9223372036854775807 then ((ean_drawn.f k (((⟨#[48]⟩ : ByteArray) ++ a1).extract 7 ((⟨#[48]⟩ : ByteArray) ++ a1).size) (⟨#[67, 67, 67, 67, 67, 67]⟩ : ByteArray) (⟨#[]⟩ : ByteArray)).bind fun t139 => (if (((⟨#[49, 48, 49]⟩ : ByteArray) ++ t138) ++ (⟨#[48, 49, 48, 49, 48]⟩ : ByteArray)).size + t139.size ≤ 9223372036854775807 then (if ((((⟨#[49, 48, 49]⟩ : ByteArray) ++ t138) ++ (⟨#[48, 49, 48, 49, 48]⟩ : ByteArray)) ++ t139).size + 3 ≤ 9223372036854775807 then (some (((((⟨#[49, 48, 49]⟩ : ByteArray) ++ t138) ++ (⟨#[48, 49, 48, 49, 48]⟩ : ByteArray)) ++ t139) ++ (⟨#[49, 48, 49]⟩ : ByteArray))) else (none)) else (none))) else (none)) else (none))) else (none)) else (none)) else (none))) else (none)) else (none)) else (none)) else (if 1 ≤ 7 then (if 7 ≤ (a1.size : Int) then ((ean_parity13.f).bind fun t140 => (if 0 < (a1.size : Int) then (if 0 ≤ (((bt a1 0) - 48) % 256) then (if (((bt a1 0) - 48) % 256) < (t140.length : Int) then ((ean_drawn.f k (a1.extract 1 7) (rdOf ByteArray.empty t140 (((bt a1 0) - 48) % 256)) (⟨#[]⟩ : ByteArray)).bind fun t144 => (if 3 + t144.size ≤ 9223372036854775807 then (if ((⟨#[49, 48, 49]⟩ : ByteArray) ++ t144).size + 5 ≤ 9223372036854775807 then ((ean_drawn.f k (a1.extract 7 a1.size) (⟨#[67, 67, 67, 67, 67, 67]⟩ : ByteArray) (⟨#[]⟩ : ByteArray)).bind fun t145 => (if (((⟨#[49, 48, 49]⟩ : ByteArray) ++ t144) ++ (⟨#[48, 49, 48, 49, 48]⟩ : ByteArray)).size + t145.size ≤ 9223372036854775807 then (if ((((⟨#[49, 48, 49]⟩ : ByteArray) ++ t144) ++ (⟨#[48, 49, 48, 49, 48]⟩ : ByteArray)) ++ t145).size + 3 ≤ 9223372036854775807 then (some (((((⟨#[49, 48, 49]⟩ : ByteArray) ++ t144) ++ (⟨#[48, 49, 48, 49, 48]⟩ : ByteArray)) ++ t145) ++ (⟨#[49, 48, 49]⟩ : ByteArray))) else (none)) else (none))) else (none)) else (none))) else (none)) else (none)) else (none))) else (none)) else (none))))
theorem ean_symbol.mono_l : ∀ k, (∀ y0 y1, LeO (ean_symbol.j0 k y0 y1) (ean_symbol.j0 (k + 1) y0 y1))
 | 0 => fun _ _ r h => by simp [ean_symbol.j0] at h
 | k + 1 => by
  have ih0 := ean_symbol.mono_l k
  ·intro y0 y1
   unfold ean_symbol.j0
   repeat' with_reducible first | exact ih0 _ _ | exact ean_drawn.mono _ _ _ _ | exact LeO.refl _ | exact LeO.none _ | refine LeO.ite ?_ ?_ | refine LeO.bind ?_ (fun _ => ?_)
theorem ean_symbol.mono : ∀ a0 a1 k, LeO (ean_symbol.f k a0 a1) (ean_symbol.f (k + 1) a0 a1) := by
 intro a0 a1 k
 have ih0 := ean_symbol.mono_l k
 unfold ean_symbol.f
 repeat' with_reducible first | exact ih0 _ _ | exact ean_drawn.mono _ _ _ _ | exact LeO.refl _ | exact LeO.none _ | refine LeO.ite ?_ ?_ | refine LeO.bind ?_ (fun _ => ?_)
def ean_symbol.T3 : Bool × List (List Nat × List Nat) := (true, [([], []), ([0], [0]), ([1], [1]), ([2], [2]), ([3], [3]), ([], []), ([5], [5]), ([6, 2], [6]), ([4, 7], [4, 7]), ([8], [8]), ([9, 7, 0, 1, 2, 3, 4, 5, 6, 7, 8, 9], [9])])
def ean_symbol.B3 : List Nat := [0, 1, 3, 7, 15, 0, 32, 103, 255, 511, 1023]
theorem ean_symbol.tab3 : rtab .any (opsOf Tryz.f30 3) = ean_symbol.T3 := kr
theorem ean_symbol.bits3 : waitsOk ean_symbol.T3.2 ean_symbol.B3 = true := kr
def ean_symbol.T11 : Bool × List (List Nat × List Nat) := (true, [([], []), ([0], [0]), ([], []), ([], []), ([3], [3]), ([4], [4]), ([2, 5], [2, 5]), ([6], [6]), ([1, 7, 2], [1, 7]), ([8], [8]), ([9], [9]), ([], []), ([11], [11]), ([12, 8], [12]), ([10, 13], [10, 13]), ([14], [14]), ([15, 13, 0, 1, 2, 3, 4, 5, 6, 7, 8, 9, 10, 11, 12, 13, 14, 15], [15])])
def ean_symbol.B11 : List Nat := [0, 1, 0, 0, 8, 24, 60, 124, 255, 511, 1023, 0, 2048, 6655, 16383, 32767, 65535]
theorem ean_symbol.tab11 : rtab .any (opsOf Tryz.f30 11) = ean_symbol.T11 := kr
theorem ean_symbol.bits11 : waitsOk ean_symbol.T11.2 ean_symbol.B11 = true := kr
set_option maxHeartbeats 8000000 in
set_option maxRecDepth 100000 in
theorem ean_symbol.calls (k : Nat) (a0 : Int) (a1 : ByteArray) (r : ByteArray) (w : World) (h : ean_symbol.f k a0 a1 = some r) :
  Calls Tryz.prog 30 #[.int .i64 a0, .string a1] w fun e w' => e = .returned (.string r) ∧ Below w.heap.size w w' := by
 have HB := Aside0.mk (Below.refl w.heap.size w)
 have H := h
 clear h
 unfold ean_symbol.f at H
 replace H := ifc H
 obtain ⟨c3, H⟩ | ⟨c3, H⟩ := H
 ·have c3b0 : (a0 == 2) = true := beq_iff_eq.mpr c3
  have c3b1 : (a0 != 2) = false := bne_eq_false_iff_eq.mpr c3
  clear c3
  replace H := ifn H
  obtain ⟨c4, H⟩ := H
  have c4b0 := eq_true c4
  try have c4b0s := s1 c4b0
  have c4b1 : decide (0 ≤ 4) = true := decide_eq_true c4
  clear c4
  by_cases c5 : 4 ≤ (a1.size : Int)
  rotate_left
  ·rw [if_neg c5] at H
   exact absurd H (by simp)
  rw [if_pos c5] at H
  have c5b0 := eq_true c5
  try have c5b0s := s1 c5b0
  have c5b1 : decide (4 ≤ (a1.size : Int)) = true := decide_eq_true c5
  clear c5
  replace H := bd H
  obtain ⟨t126, A6, H⟩ := H
  replace H := ifn H
  obtain ⟨c7, H⟩ := H
  have c7b0 := eq_true c7
  try have c7b0s := s1 c7b0
  have c7b1 : decide (3 + t126.size ≤ 9223372036854775807) = true := decide_eq_true c7
  try have c7b2 : (9223372036854775807 < 3 + t126.size) = False := eq_false (Nat.not_lt.2 c7)
  by_cases c8 : ((⟨#[49, 48, 49]⟩ : ByteArray) ++ t126).size + 5 ≤ 9223372036854775807
  rotate_left
  ·rw [if_neg c8] at H
   exact absurd H (by simp)
  rw [if_pos c8] at H
  have c8b0 := eq_true c8
  try have c8b0s := s1 c8b0
  have c8b1 : decide (((⟨#[49, 48, 49]⟩ : ByteArray) ++ t126).size + 5 ≤ 9223372036854775807) = true := decide_eq_true c8
  try have c8b1s := s4 c8b1
  try have c8b1t := s3 c8b1
  try have c8b2 : (9223372036854775807 < ((⟨#[49, 48, 49]⟩ : ByteArray) ++ t126).size + 5) = False := eq_false (Nat.not_lt.2 c8)
  try have c8b2s := s2 c8b2
  have c9b0 := eq_true (of_decide_eq_true am : 4 ≤ (a1.size : Int))
  try have c9b0s := s1 c9b0
  replace H := bd H
  obtain ⟨t127, A10, H⟩ := H
  replace H := ifn H
  obtain ⟨c11, H⟩ := H
  have c11b0 := eq_true c11
  try have c11b0s := s1 c11b0
  have c11b1 : decide ((((⟨#[49, 48, 49]⟩ : ByteArray) ++ t126) ++ (⟨#[48, 49, 48, 49, 48]⟩ : ByteArray)).size + t127.size ≤ 9223372036854775807) = true := decide_eq_true c11
  try have c11b1s := s4 c11b1
  try have c11b1t := s3 c11b1
  try have c11b2 : (9223372036854775807 < (((⟨#[49, 48, 49]⟩ : ByteArray) ++ t126) ++ (⟨#[48, 49, 48, 49, 48]⟩ : ByteArray)).size + t127.size) = False := eq_false (Nat.not_lt.2 c11)
  try have c11b2s := s2 c11b2
  by_cases c12 : ((((⟨#[49, 48, 49]⟩ : ByteArray) ++ t126) ++ (⟨#[48, 49, 48, 49, 48]⟩ : ByteArray)) ++ t127).size + 3 ≤ 9223372036854775807
  rotate_left
  ·rw [if_neg c12] at H
   exact absurd H (by simp)
  rw [if_pos c12] at H
  have c12b0 := eq_true c12
  try have c12b0s := s1 c12b0
  have c12b1 : decide (((((⟨#[49, 48, 49]⟩ : ByteArray) ++ t126) ++ (⟨#[48, 49, 48, 49, 48]⟩ : ByteArray)) ++ t127).size + 3 ≤ 9223372036854775807) = true := decide_eq_true c12
  try have c12b1s := s4 c12b1
  try have c12b1t := s3 c12b1
  try have c12b2 : (9223372036854775807 < ((((⟨#[49, 48, 49]⟩ : ByteArray) ++ t126) ++ (⟨#[48, 49, 48, 49, 48]⟩ : ByteArray)) ++ t127).size + 3) = False := eq_false (Nat.not_lt.2 c12)
  try have c12b2s := s2 c12b2
  obtain rfl := Option.some.inj H
  go_enter Tryz.func30, Tryz.ntmps30
  try go_wp2
  have n0_ := Aside0.mk (below_drew1 HB.out)
  clear HB
  have HB := n0_
  clear n0_
  refine start_ (n := 11) (S := fun w' => True) (ds := []) #[false, false, false, false, false, false, false, false, false, false, false] kr rfl rfl trivial (fun hHeld => ?_); refine with_tabW ean_symbol.tab3 ean_symbol.bits3 (fun HT_ HW_ => ?_)
  generalize w.drew = w13 at HB hHeld ⊢
  refine pu HT_ 0 9 (h := ?_)
  refine pu HT_ 1 10 (h := ?_)
  refine pu HT_ 5 14 (h := ?_)
  refine pu HT_ 6 15 (h := ?_)
  refine on HT_ 2 11 (h := fun K hK => ?_)
  refine goes_ Tryz.func31 kr rfl #[.string (a1.extract 0 4), .string (⟨#[65, 65, 65, 65]⟩ : ByteArray), .string (⟨#[]⟩ : ByteArray)] (by rfl) rfl rfl (by (try simp only [List.map_toArray, List.map_cons, List.map_nil]); first | done | rfl | (simp only [List.length_drop, List.length_take]; rfl) | (go_simp; done) | (go_simp; rfl)) ?_
  with_reducible refine (ean_drawn.calls k (a1.extract 0 4) (⟨#[65, 65, 65, 65]⟩ : ByteArray) (⟨#[]⟩ : ByteArray) t126 _ A6.out).mono ?_
  rintro e w14 ⟨rfl, hb⟩
  refine ⟨_, rfl, ?_⟩
  have n0_ := Aside0.mk (below_step bw hb)
  clear HB
  have HB := n0_
  clear n0_
  (try clear hb)
  (try clear hb2)
  (try clear hk)
  (try clear hi)
  refine hK.out _ _ trivial (fun hHeld => ?_)
  clear hK K
  refine nm (h := ?_)
  refine pu HT_ 3 12 (h := ?_)
  refine pu HT_ 4 13 (h := ?_)
  refine on HT_ 7 16 (h := fun K hK => ?_)
  refine goes_ Tryz.func31 kr rfl #[.string (a1.extract 4 a1.size), .string (⟨#[67, 67, 67, 67]⟩ : ByteArray), .string (⟨#[]⟩ : ByteArray)] (by rfl) rfl rfl (by (try simp only [List.map_toArray, List.map_cons, List.map_nil]); first | done | rfl | (simp only [List.length_drop, List.length_take]; rfl) | (go_simp; done) | (go_simp; rfl)) ?_
  with_reducible refine (ean_drawn.calls k (a1.extract 4 a1.size) (⟨#[67, 67, 67, 67]⟩ : ByteArray) (⟨#[]⟩ : ByteArray) t127 _ A10.out).mono ?_
  rintro e w15 ⟨rfl, hb⟩
  refine ⟨_, rfl, ?_⟩
  have n0_ := Aside0.mk (below_step bw hb)
  clear HB
  have HB := n0_
  clear n0_
  (try clear hb)
  (try clear hb2)
  (try clear hk)
  (try clear hi)
  refine hK.out _ _ trivial (fun hHeld => ?_)
  clear hK K
  refine nm (h := ?_)
  refine pu HT_ 8 17 (h := ?_)
  refine pu HT_ 9 18 (h := ?_)
  refine pu HT_ 10 4 (h := ?_)
  refine done_ (done_of HT_.out kr) ?_
  try go_wp2
  go_ret
  exact ⟨es, bw⟩
 have c3b0 : (a0 == 2) = false := beq_eq_false_iff_ne.mpr c3
 have c3b1 : (a0 != 2) = true := bne_iff_ne.mpr c3
 replace H := ifc H
 obtain ⟨c16, H⟩ | ⟨c16, H⟩ := H
 ·have c16b0 : (a0 == 4) = true := beq_iff_eq.mpr c16
  have c16b1 : (a0 != 4) = false := bne_eq_false_iff_eq.mpr c16
  clear c16
  replace H := bd H
  obtain ⟨t128, A17, H⟩ := H
  replace H := ifn H
  obtain ⟨c18, H⟩ := H
  have c18b0 : decide (7 < (a1.size : Int)) = true := decide_eq_true c18
  have c18b1 : decide (7 < a1.size) = true := decide_eq_true om
  clear c18
  obtain ⟨ji20, hji20⟩ : ∃ j_ : Int, (((bt a1 7) - 48) % 256) = j_ := ⟨_, rfl⟩
  replace H : (if 0 ≤ (ji20) then (if (ji20) < (t128.length : Int) then (if 0 < (a1.size : Int) then (if (bt a1 0) = 49 then ((ean_flipped.f (rdOf ByteArray.empty t128 (ji20)) (⟨#[65]⟩ : ByteArray) (⟨#[66]⟩ : ByteArray)).bind fun t132 => (ean_symbol.j0 k a1 t132)) else (ean_symbol.j0 k a1 (rdOf ByteArray.empty t128 (ji20)))) else (none)) else (none)) else (none)) = some r := by first | (rw [hji20] at H; exact H) | (simp only [hji20] at H ⊢; exact H)
  (try rw [hji20] at A17)
  by_cases c21 : 0 ≤ (ji20)
  rotate_left
  ·rw [if_neg c21] at H
   exact absurd H (by simp)
  rw [if_pos c21] at H
  have c21b0 : decide (0 ≤ (ji20)) = true := decide_eq_true c21
  clear c21
  replace H := ifn H
  obtain ⟨c22, H⟩ := H
  have c22b0 : decide ((ji20) < (t128.length : Int)) = true := decide_eq_true c22
  clear c22
  by_cases c23 : 0 < (a1.size : Int)
  rotate_left
  ·rw [if_neg c23] at H
   exact absurd H (by simp)
  rw [if_pos c23] at H
  have c23b0 : decide (0 < (a1.size : Int)) = true := decide_eq_true c23
  have c23b1 : decide (0 < a1.size) = true := decide_eq_true om
  clear c23
  have HC25 := Aside0.mk H
  clear H
  go_enter Tryz.func30, Tryz.ntmps30
  try go_wp2
  have n0_ := Aside0.mk (below_drew1 HB.out)
  clear HB
  have HB := n0_
  clear n0_
  have p19 : 0 ≤ (7 : Int) := om
  have q19 : 7 < a1.size := (by have : (7 : Int) < (a1.size : Int) := of_decide_eq_true am; omega)
  have hx19 : ∀ h : 7 < a1.size, ((a1[7]'h).toNat : Int) = bt a1 7 := bt_at a1 7
  clear p19
  have qi19 : (7 < (a1.size : Int)) = True := eq_true (of_decide_eq_true am)
  replace q19 := eq_true q19
  try have q19s := s1 q19
  refine start_ (n := 7) (S := fun _ => True) (ds := []) #[false, false, false, false, false, false, false] kr rfl rfl trivial (fun hHeld => ?_)
  generalize w.drew = w26 at HB hHeld ⊢
  refine pure_ (i := 1) (N := some 22) (v := ?_) (a' := ?_) #[false, true, false, false, false, false, false] rfl rfl kr (fun _ _ _ h => h) (Or.inl ⟨by rfl, ?_⟩) ?_ ?_
  rotate_left
  ·intro w'
   go_simp
   try go_bits
   with_reducible rfl
  rotate_left
  ·simp only [Act.put, List.setIfInBounds_toArray, List.set_cons_zero, List.set_cons_succ, i64_w]
   rfl
  refine take_ (i := 2) (N := some 23) (v := ?_) (a' := ?_) #[false, true, true, false, false, false, false] rfl rfl kr (fun _ _ _ h => h) (Or.inl ⟨by rfl, ?_⟩) hHeld ?_ ?_
  rotate_left
  ·intro w' s0
   go_simp
   try go_bits
   with_reducible rfl
  rotate_left
  ·simp only [Act.put, List.setIfInBounds_toArray, List.set_cons_zero, List.set_cons_succ, i64_w]
   rfl
  refine pure_ (i := 3) (N := some 24) (v := ?_) (a' := ?_) #[false, true, true, true, false, false, false] rfl rfl kr (fun _ _ _ h => h) (Or.inl ⟨by rfl, ?_⟩) ?_ ?_
  rotate_left
  ·intro w'
   go_simp
   try go_bits
   with_reducible rfl
  rotate_left
  ·simp only [Act.put, List.setIfInBounds_toArray, List.set_cons_zero, List.set_cons_succ, i64_w]
   rfl
  refine one_ (i := 0) (N := some 21) #[true, true, true, true, false, false, false] rfl rfl kr (by decide) (fun K hK => ?_)
  refine goes_ Tryz.func61 kr rfl #[] (by rfl) rfl rfl (by (try simp only [List.map_toArray, List.map_cons, List.map_nil]); first | done | rfl | (simp only [List.length_drop, List.length_take]; rfl) | (go_simp; done) | (go_simp; rfl)) ?_
  with_reducible refine (ean_parityE.calls  t128 _ A17.out).mono ?_
  rintro e w27 ⟨v129, rfl, ho0, hb⟩
  refine ⟨_, rfl, ?_⟩
  have n0_ := Aside0.mk (Kd.R_lower ho0 (below_size bw))
  have n1_ := Aside0.mk (below_step bw hb)
  clear HB
  have HO130 := n0_
  have HB := n1_
  clear n0_ n1_
  (try clear hb)
  (try clear hb2)
  (try clear hk)
  (try clear hi)
  (try clear ho0)
  obtain ⟨Ao28, co28, eo28⟩ := Kd.R_slice HO130.out
  (first | subst eo28 | (injection eo28 with f1_ f2_ f3_; have f4_ := f1_.symm; have f5_ := f3_.symm; clear f1_ f2_ f3_; subst f4_; subst f5_))
  have p131 : 0 ≤ ((ji20) : Int) := of_decide_eq_true am
  have q131 : (ji20) < (t128.length : Int) := of_decide_eq_true am
  obtain ⟨ad131, e131, hx131_0⟩ := Kd.at_string (Kd.R_reads' HO130.out).2.2 (ji20) p131 q131
  cases e131
  replace p131 := eq_true p131
  replace q131 := eq_true q131
  try have q131s := s1 q131
  refine hK.out _ _ trivial (fun hHeld => ?_)
  clear hK K
  refine nm (h := ?_)
  refine pure_ (i := 4) (N := some 25) (v := ?_) (a' := ?_) #[true, true, true, true, true, false, false] rfl rfl kr (fun _ _ _ h => h) (Or.inl ⟨by rfl, ?_⟩) ?_ ?_
  rotate_left
  ·intro w'
   go_simp
   try go_bits
   with_reducible rfl
  rotate_left
  ·simp only [Act.put, List.setIfInBounds_toArray, List.set_cons_zero, List.set_cons_succ, i64_w]
   rfl
  refine one_ (i := 5) (N := some 26) #[true, true, true, true, true, true, false] rfl rfl (by first | exact one_of HT_.out kr | kernel_rfl) (by decide) (fun K hK => ?_)
  refine valQ_ (v := .string (rdOf ByteArray.empty t128 (ji20))) (by rfl) rfl (by go_simp; first | done | rfl) ?_
  refine hK.out _ _ trivial (fun hHeld => ?_)
  clear hK K
  refine nm (h := ?_)
  refine pure_ (i := 6) (N := some 5) (v := ?_) (a' := ?_) #[true, true, true, true, true, true, true] rfl rfl kr (fun _ _ _ h => h) (Or.inl ⟨by rfl, ?_⟩) ?_ ?_
  rotate_left
  ·intro w'
   go_simp
   try go_bits
   with_reducible rfl
  rotate_left
  ·simp only [Act.put, List.setIfInBounds_toArray, List.set_cons_zero, List.set_cons_succ, i64_w]
   rfl
  refine done_ kr ?_
  have p24 : 0 ≤ (0 : Int) := om
  have q24 : 0 < a1.size := (by have : (0 : Int) < (a1.size : Int) := of_decide_eq_true am; omega)
  have hx24 : ∀ h : 0 < a1.size, ((a1[0]'h).toNat : Int) = bt a1 0 := bt_at a1 0
  clear p24
  have qi24 : (0 < (a1.size : Int)) = True := eq_true (of_decide_eq_true am)
  replace q24 := eq_true q24
  try have q24s := s1 q24
  go_upto_if 29 with (fail)
  go_cut [5] (fun v5 wc => ∃ (kq : Nat) (x5_24 : ByteArray), v5 = .string x5_24 ∧ Aside0 (ean_symbol.j0 kq a1 x5_24 = some r) ∧ Aside0 (kq ≤ k) ∧ Aside0 (Below w.heap.size w wc))
  case first =>
   have H := HC25.out
   clear HC25
   replace H := ifc H
   obtain ⟨c29, H⟩ | ⟨c29, H⟩ := H
   rotate_left
   ·have c29b0 : ((bt a1 0) == 49) = false := beq_eq_false_iff_ne.mpr c29
    have c29b1 : ((bt a1 0) != 49) = true := bne_iff_ne.mpr c29
    (first | rw [c29b0] | (simp only [i64_w]; rw [c29b0]) | skip)
    have H' := Aside0.mk H
    clear H
    go_wp2
    go_meet
    case rel => exact ⟨_, (rdOf ByteArray.empty t128 (ji20)), (by first | rfl | (simp; done) | (simp only [← hji20] <;> (first | rfl | simp)) | (simp [*]; done)), H', ⟨la⟩, ⟨bw⟩⟩
   have c29b0 : ((bt a1 0) == 49) = true := beq_iff_eq.mpr c29
   have c29b1 : ((bt a1 0) != 49) = false := bne_eq_false_iff_eq.mpr c29
   clear c29
   (first | rw [c29b0] | (simp only [i64_w]; rw [c29b0]) | skip)
   replace H := bd H
   obtain ⟨t132, A30, H⟩ := H
   have H' := Aside0.mk H
   clear H
   go_wp2_with (first | ((with_reducible refine gate_callee (f := 62) rfl ?_); refine goesL_ (some 31) rfl rfl Tryz.func62 kr rfl #[.string (rdOf ByteArray.empty t128 (ji20)), .string (⟨#[65]⟩ : ByteArray), .string (⟨#[66]⟩ : ByteArray)] rfl (by (try simp only [List.map_toArray, List.map_cons, List.map_nil]); first | done | (simp only [hji20]; rfl) | rfl | (simp only [List.length_drop, List.length_take]; rfl) | (go_simp; done) | (go_simp; rfl)) ?_; (with_reducible refine (ean_flipped.calls (rdOf ByteArray.empty t128 (ji20)) (⟨#[65]⟩ : ByteArray) (⟨#[66]⟩ : ByteArray) t132 _ A30.out).mono ?_); rintro e w31 ⟨rfl, hb⟩; refine ⟨_, rfl, ?_⟩; replace HO130 := Aside0.mk (Kd.R_below (kd HO130) hb); replace HB := Aside0.mk (below_step bw hb); clear hb))
   go_meet
   case rel => exact ⟨_, (t132), rs, H', ⟨la⟩, ⟨bw⟩⟩
  case rest =>
   clear HC25
   obtain ⟨kq, x5_24, rfl, HA, HJ24, HB⟩ := hcut
   cases kq with
   | zero => exact absurd HA.out (by simp [ean_symbol.j0])
   | succ kj24 =>
    have H := HA.out
    clear HA
    simp only [ean_symbol.j0] at H
    replace H := ifn H
    obtain ⟨c32, H⟩ := H
    have c32b0 := eq_true c32
    try have c32b0s := s1 c32b0
    have c32b1 : decide (1 ≤ 7) = true := decide_eq_true c32
    clear c32
    by_cases c33 : 7 ≤ (a1.size : Int)
    rotate_left
    ·rw [if_neg c33] at H
     exact absurd H (by simp)
    rw [if_pos c33] at H
    have c33b0 := eq_true c33
    try have c33b0s := s1 c33b0
    have c33b1 : decide (7 ≤ (a1.size : Int)) = true := decide_eq_true c33
    clear c33
    replace H := bd H
    obtain ⟨t133, A34, H⟩ := H
    replace H := ifn H
    obtain ⟨c35, H⟩ := H
    have c35b0 := eq_true c35
    try have c35b0s := s1 c35b0
    have c35b1 : decide (3 + t133.size ≤ 9223372036854775807) = true := decide_eq_true c35
    try have c35b2 : (9223372036854775807 < 3 + t133.size) = False := eq_false (Nat.not_lt.2 c35)
    by_cases c36 : ((⟨#[49, 48, 49]⟩ : ByteArray) ++ t133).size + 6 ≤ 9223372036854775807
    rotate_left
    ·rw [if_neg c36] at H
     exact absurd H (by simp)
    rw [if_pos c36] at H
    have c36b0 := eq_true c36
    try have c36b0s := s1 c36b0
    have c36b1 : decide (((⟨#[49, 48, 49]⟩ : ByteArray) ++ t133).size + 6 ≤ 9223372036854775807) = true := decide_eq_true c36
    try have c36b1s := s4 c36b1
    try have c36b1t := s3 c36b1
    try have c36b2 : (9223372036854775807 < ((⟨#[49, 48, 49]⟩ : ByteArray) ++ t133).size + 6) = False := eq_false (Nat.not_lt.2 c36)
    try have c36b2s := s2 c36b2
    obtain rfl := Option.some.inj H
    go_wp2_with (first | ((with_reducible refine gate_callee (f := 31) rfl ?_); refine goesL_ (some 35) rfl rfl Tryz.func31 kr rfl #[.string (a1.extract 1 7), .string x5_24, .string (⟨#[]⟩ : ByteArray)] rfl (by (try simp only [List.map_toArray, List.map_cons, List.map_nil]); first | done | rfl | (simp only [List.length_drop, List.length_take]; rfl) | (go_simp; done) | (go_simp; rfl)) ?_; (with_reducible refine (ean_drawn.calls kj24 (a1.extract 1 7) x5_24 (⟨#[]⟩ : ByteArray) t133 _ A34.out).mono ?_); rintro e w37 ⟨rfl, hb⟩; refine ⟨_, rfl, ?_⟩; replace HB := Aside0.mk (below_step bw hb); clear hb))
    go_ret
    exact ⟨by first | rfl | (simp [errW_none, errW_some] <;> rfl) | (simp only [← hji20]; first | rfl | (simp [errW_none, errW_some] <;> rfl)) | (simp [*, errW_none, errW_some] <;> rfl), bw⟩
 have c16b0 : (a0 == 4) = false := beq_eq_false_iff_ne.mpr c16
 have c16b1 : (a0 != 4) = true := bne_iff_ne.mpr c16
 replace H := ifc H
 obtain ⟨c38, H⟩ | ⟨c38, H⟩ := H
 rotate_left
 ·have c38b0 : (a0 == 3) = false := beq_eq_false_iff_ne.mpr c38
  have c38b1 : (a0 != 3) = true := bne_iff_ne.mpr c38
  replace H := ifc H
  obtain ⟨c60, H⟩ | ⟨c60, H⟩ := H
  rotate_left
  ·exact absurd H (by simp)
  have c60b0 := eq_true c60
  try have c60b0s := s1 c60b0
  have c60b1 : decide (1 ≤ 7) = true := decide_eq_true c60
  clear c60
  replace H := ifn H
  obtain ⟨c61, H⟩ := H
  have c61b0 := eq_true c61
  try have c61b0s := s1 c61b0
  have c61b1 : decide (7 ≤ (a1.size : Int)) = true := decide_eq_true c61
  clear c61
  replace H := bd H
  obtain ⟨t140, A62, H⟩ := H
  by_cases c63 : 0 < (a1.size : Int)
  rotate_left
  ·rw [if_neg c63] at H
   exact absurd H (by simp)
  rw [if_pos c63] at H
  have c63b0 : decide (0 < (a1.size : Int)) = true := decide_eq_true c63
  have c63b1 : decide (0 < a1.size) = true := decide_eq_true om
  clear c63
  obtain ⟨ji65, hji65⟩ : ∃ j_ : Int, (((bt a1 0) - 48) % 256) = j_ := ⟨_, rfl⟩
  replace H : (if 0 ≤ (ji65) then (if (ji65) < (t140.length : Int) then ((ean_drawn.f k (a1.extract 1 7) (rdOf ByteArray.empty t140 (ji65)) (⟨#[]⟩ : ByteArray)).bind fun t144 => (if 3 + t144.size ≤ 9223372036854775807 then (if ((⟨#[49, 48, 49]⟩ : ByteArray) ++ t144).size + 5 ≤ 9223372036854775807 then ((ean_drawn.f k (a1.extract 7 a1.size) (⟨#[67, 67, 67, 67, 67, 67]⟩ : ByteArray) (⟨#[]⟩ : ByteArray)).bind fun t145 => (if (((⟨#[49, 48, 49]⟩ : ByteArray) ++ t144) ++ (⟨#[48, 49, 48, 49, 48]⟩ : ByteArray)).size + t145.size ≤ 9223372036854775807 then (if ((((⟨#[49, 48, 49]⟩ : ByteArray) ++ t144) ++ (⟨#[48, 49, 48, 49, 48]⟩ : ByteArray)) ++ t145).size + 3 ≤ 9223372036854775807 then (some (((((⟨#[49, 48, 49]⟩ : ByteArray) ++ t144) ++ (⟨#[48, 49, 48, 49, 48]⟩ : ByteArray)) ++ t145) ++ (⟨#[49, 48, 49]⟩ : ByteArray))) else (none)) else (none))) else (none)) else (none))) else (none)) else (none)) = some r := by first | (rw [hji65] at H; exact H) | (simp only [hji65] at H ⊢; exact H)
  (try rw [hji65] at A62)
  replace H := ifn H
  obtain ⟨c66, H⟩ := H
  have c66b0 : decide (0 ≤ (ji65)) = true := decide_eq_true c66
  clear c66
  by_cases c67 : (ji65) < (t140.length : Int)
  rotate_left
  ·rw [if_neg c67] at H
   exact absurd H (by simp)
  rw [if_pos c67] at H
  have c67b0 : decide ((ji65) < (t140.length : Int)) = true := decide_eq_true c67
  clear c67
  replace H := bd H
  obtain ⟨t144, A68, H⟩ := H
  replace H := ifn H
  obtain ⟨c69, H⟩ := H
  have c69b0 := eq_true c69
  try have c69b0s := s1 c69b0
  have c69b1 : decide (3 + t144.size ≤ 9223372036854775807) = true := decide_eq_true c69
  try have c69b2 : (9223372036854775807 < 3 + t144.size) = False := eq_false (Nat.not_lt.2 c69)
  by_cases c70 : ((⟨#[49, 48, 49]⟩ : ByteArray) ++ t144).size + 5 ≤ 9223372036854775807
  rotate_left
  ·rw [if_neg c70] at H
   exact absurd H (by simp)
  rw [if_pos c70] at H
  have c70b0 := eq_true c70
  try have c70b0s := s1 c70b0
  have c70b1 : decide (((⟨#[49, 48, 49]⟩ : ByteArray) ++ t144).size + 5 ≤ 9223372036854775807) = true := decide_eq_true c70
  try have c70b1s := s4 c70b1
  try have c70b1t := s3 c70b1
  try have c70b2 : (9223372036854775807 < ((⟨#[49, 48, 49]⟩ : ByteArray) ++ t144).size + 5) = False := eq_false (Nat.not_lt.2 c70)
  try have c70b2s := s2 c70b2
  have c71b0 := eq_true (of_decide_eq_true am : 7 ≤ (a1.size : Int))
  try have c71b0s := s1 c71b0
  replace H := bd H
  obtain ⟨t145, A72, H⟩ := H
  replace H := ifn H
  obtain ⟨c73, H⟩ := H
  have c73b0 := eq_true c73
  try have c73b0s := s1 c73b0
  have c73b1 : decide ((((⟨#[49, 48, 49]⟩ : ByteArray) ++ t144) ++ (⟨#[48, 49, 48, 49, 48]⟩ : ByteArray)).size + t145.size ≤ 9223372036854775807) = true := decide_eq_true c73
  try have c73b1s := s4 c73b1
  try have c73b1t := s3 c73b1
  try have c73b2 : (9223372036854775807 < (((⟨#[49, 48, 49]⟩ : ByteArray) ++ t144) ++ (⟨#[48, 49, 48, 49, 48]⟩ : ByteArray)).size + t145.size) = False := eq_false (Nat.not_lt.2 c73)
  try have c73b2s := s2 c73b2
  by_cases c74 : ((((⟨#[49, 48, 49]⟩ : ByteArray) ++ t144) ++ (⟨#[48, 49, 48, 49, 48]⟩ : ByteArray)) ++ t145).size + 3 ≤ 9223372036854775807
  rotate_left
  ·rw [if_neg c74] at H
   exact absurd H (by simp)
  rw [if_pos c74] at H
  have c74b0 := eq_true c74
  try have c74b0s := s1 c74b0
  have c74b1 : decide (((((⟨#[49, 48, 49]⟩ : ByteArray) ++ t144) ++ (⟨#[48, 49, 48, 49, 48]⟩ : ByteArray)) ++ t145).size + 3 ≤ 9223372036854775807) = true := decide_eq_true c74
  try have c74b1s := s4 c74b1
  try have c74b1t := s3 c74b1
  try have c74b2 : (9223372036854775807 < ((((⟨#[49, 48, 49]⟩ : ByteArray) ++ t144) ++ (⟨#[48, 49, 48, 49, 48]⟩ : ByteArray)) ++ t145).size + 3) = False := eq_false (Nat.not_lt.2 c74)
  try have c74b2s := s2 c74b2
  obtain rfl := Option.some.inj H
  go_enter Tryz.func30, Tryz.ntmps30
  try go_wp2
  have n0_ := Aside0.mk (below_drew1 HB.out)
  clear HB
  have HB := n0_
  clear n0_
  have p64 : 0 ≤ (0 : Int) := om
  have q64 : 0 < a1.size := (by have : (0 : Int) < (a1.size : Int) := of_decide_eq_true am; omega)
  have hx64 : ∀ h : 0 < a1.size, ((a1[0]'h).toNat : Int) = bt a1 0 := bt_at a1 0
  clear p64
  have qi64 : (0 < (a1.size : Int)) = True := eq_true (of_decide_eq_true am)
  replace q64 := eq_true q64
  try have q64s := s1 q64
  refine start_ (n := 17) (S := fun _ => True) (ds := []) #[false, false, false, false, false, false, false, false, false, false, false, false, false, false, false, false, false] kr rfl rfl trivial (fun hHeld => ?_); refine with_tabW ean_symbol.tab11 ean_symbol.bits11 (fun HT_ HW_ => ?_)
  generalize w.drew = w75 at HB hHeld ⊢
  refine pu HT_ 0 42 (h := ?_)
  refine pu HT_ 1 43 (h := ?_)
  refine pu HT_ 3 45 (h := ?_)
  refine pu HT_ 11 53 (h := ?_)
  refine pu HT_ 12 54 (h := ?_)
  refine take_ (i := 4) (N := some 46) (v := ?_) (a' := ?_) #[true, true, false, true, true, false, false, false, false, false, false, true, true, false, false, false, false] rfl rfl (take_ofW HT_.out HW_.out kr) (fun _ _ _ h => h) (Or.inl ⟨by rfl, ?_⟩) hHeld ?_ ?_
  rotate_left
  ·intro w' s0
   go_simp
   try go_bits
   with_reducible rfl
  rotate_left
  ·simp only [Act.put, List.setIfInBounds_toArray, List.set_cons_zero, List.set_cons_succ, i64_w]
   rfl
  refine pu HT_ 5 47 (h := ?_)
  refine on HT_ 2 44 (h := fun K hK => ?_)
  refine goes_ Tryz.func63 kr rfl #[] (by rfl) rfl rfl (by (try simp only [List.map_toArray, List.map_cons, List.map_nil]); first | done | rfl | (simp only [List.length_drop, List.length_take]; rfl) | (go_simp; done) | (go_simp; rfl)) ?_
  with_reducible refine (ean_parity13.calls  t140 _ A62.out).mono ?_
  rintro e w76 ⟨v141, rfl, ho0, hb⟩
  refine ⟨_, rfl, ?_⟩
  have n0_ := Aside0.mk (Kd.R_lower ho0 (below_size bw))
  have n1_ := Aside0.mk (below_step bw hb)
  clear HB
  have HO142 := n0_
  have HB := n1_
  clear n0_ n1_
  (try clear hb)
  (try clear hb2)
  (try clear hk)
  (try clear hi)
  (try clear ho0)
  obtain ⟨Ao77, co77, eo77⟩ := Kd.R_slice HO142.out
  (first | subst eo77 | (injection eo77 with f1_ f2_ f3_; have f4_ := f1_.symm; have f5_ := f3_.symm; clear f1_ f2_ f3_; subst f4_; subst f5_))
  have p143 : 0 ≤ ((ji65) : Int) := of_decide_eq_true am
  have q143 : (ji65) < (t140.length : Int) := of_decide_eq_true am
  obtain ⟨ad143, e143, hx143_0⟩ := Kd.at_string (Kd.R_reads' HO142.out).2.2 (ji65) p143 q143
  cases e143
  replace p143 := eq_true p143
  replace q143 := eq_true q143
  try have q143s := s1 q143
  refine hK.out _ _ trivial (fun hHeld => ?_)
  clear hK K
  refine nm (h := ?_)
  refine pu HT_ 6 48 (h := ?_)
  refine one_ (i := 7) (N := some 49) #[true, true, true, true, true, true, true, true, false, false, false, true, true, false, false, false, false] rfl rfl (by first | exact one_of HT_.out kr | kernel_rfl) (by decide) (fun K hK => ?_)
  refine valQ_ (v := .string (rdOf ByteArray.empty t140 (ji65))) (by rfl) rfl (by go_simp; first | done | rfl) ?_
  refine hK.out _ _ trivial (fun hHeld => ?_)
  clear hK K
  refine nm (h := ?_)
  refine on HT_ 8 50 (h := fun K hK => ?_)
  refine goes_ Tryz.func31 kr rfl #[.string (a1.extract 1 7), .string (rdOf ByteArray.empty t140 (ji65)), .string (⟨#[]⟩ : ByteArray)] (by rfl) rfl rfl (by (try simp only [List.map_toArray, List.map_cons, List.map_nil]); first | done | (simp only [hji65]; rfl) | rfl | (simp only [List.length_drop, List.length_take]; rfl) | (go_simp; done) | (go_simp; rfl)) ?_
  with_reducible refine (ean_drawn.calls k (a1.extract 1 7) (rdOf ByteArray.empty t140 (ji65)) (⟨#[]⟩ : ByteArray) t144 _ A68.out).mono ?_
  rintro e w78 ⟨rfl, hb⟩
  refine ⟨_, rfl, ?_⟩
  have n0_ := Aside0.mk (Kd.R_below (kd HO142) hb)
  have n1_ := Aside0.mk (below_step bw hb)
  clear HO142
  clear HB
  have HO142 := n0_
  have HB := n1_
  clear n0_ n1_
  (try clear hb)
  (try clear hb2)
  (try clear hk)
  (try clear hi)
  refine hK.out _ _ trivial (fun hHeld => ?_)
  clear hK K
  refine nm (h := ?_)
  refine pu HT_ 9 51 (h := ?_)
  refine pu HT_ 10 52 (h := ?_)
  refine on HT_ 13 55 (h := fun K hK => ?_)
  refine goes_ Tryz.func31 kr rfl #[.string (a1.extract 7 a1.size), .string (⟨#[67, 67, 67, 67, 67, 67]⟩ : ByteArray), .string (⟨#[]⟩ : ByteArray)] (by rfl) rfl rfl (by (try simp only [List.map_toArray, List.map_cons, List.map_nil]); first | done | rfl | (simp only [List.length_drop, List.length_take]; rfl) | (go_simp; done) | (go_simp; rfl)) ?_
  with_reducible refine (ean_drawn.calls k (a1.extract 7 a1.size) (⟨#[67, 67, 67, 67, 67, 67]⟩ : ByteArray) (⟨#[]⟩ : ByteArray) t145 _ A72.out).mono ?_
  rintro e w79 ⟨rfl, hb⟩
  refine ⟨_, rfl, ?_⟩
  have n0_ := Aside0.mk (Kd.R_below (kd HO142) hb)
  have n1_ := Aside0.mk (below_step bw hb)
  clear HO142
  clear HB
  have HO142 := n0_
  have HB := n1_
  clear n0_ n1_
  (try clear hb)
  (try clear hb2)
  (try clear hk)
  (try clear hi)
  refine hK.out _ _ trivial (fun hHeld => ?_)
  clear hK K
  refine nm (h := ?_)
  refine pu HT_ 14 56 (h := ?_)
  refine pu HT_ 15 57 (h := ?_)
  refine pu HT_ 16 4 (h := ?_)
  refine done_ (done_of HT_.out kr) ?_
  try go_wp2
  go_ret
  exact ⟨by first | rfl | (simp [errW_none, errW_some] <;> rfl) | (simp only [← hji65]; first | rfl | (simp [errW_none, errW_some] <;> rfl)) | (simp [*, errW_none, errW_some] <;> rfl), bw⟩
 have c38b0 : (a0 == 3) = true := beq_iff_eq.mpr c38
 have c38b1 : (a0 != 3) = false := bne_eq_false_iff_eq.mpr c38
 clear c38
 replace H := ifn H
 obtain ⟨c39, H⟩ := H
 have c39b0 := eq_true c39
 try have c39b0s := s1 c39b0
 have c39b1 : decide (1 + a1.size ≤ 9223372036854775807) = true := decide_eq_true c39
 try have c39b2 : (9223372036854775807 < 1 + a1.size) = False := eq_false (Nat.not_lt.2 c39)
 by_cases c40 : 1 ≤ 7
 rotate_left
 ·rw [if_neg c40] at H
  exact absurd H (by simp)
 rw [if_pos c40] at H
 have c40b0 := eq_true c40
 try have c40b0s := s1 c40b0
 have c40b1 : decide (1 ≤ 7) = true := decide_eq_true c40
 clear c40
 replace H := ifn H
 obtain ⟨c41, H⟩ := H
 have c41b0 := eq_true c41
 try have c41b0s := s1 c41b0
 have c41b1 : decide (7 ≤ (((⟨#[48]⟩ : ByteArray) ++ a1).size : Int)) = true := decide_eq_true c41
 try have c41b1s := s4 c41b1
 try have c41b1t := s3 c41b1
 replace H := bd H
 obtain ⟨t134, A42, H⟩ := H
 by_cases c43 : 0 < (((⟨#[48]⟩ : ByteArray) ++ a1).size : Int)
 rotate_left
 ·rw [if_neg c43] at H
  exact absurd H (by simp)
 rw [if_pos c43] at H
 have c43b0 : decide (0 < (((⟨#[48]⟩ : ByteArray) ++ a1).size : Int)) = true := decide_eq_true c43
 try have c43b0s := s4 c43b0
 try have c43b0t := s3 c43b0
 have c43b1 : decide (0 < ((⟨#[48]⟩ : ByteArray) ++ a1).size) = true := decide_eq_true om
 try have c43b1s := s4 c43b1
 try have c43b1t := s3 c43b1
 clear c43
 obtain ⟨ji45, hji45⟩ : ∃ j_ : Int, (((bt ((⟨#[48]⟩ : ByteArray) ++ a1) 0) - 48) % 256) = j_ := ⟨_, rfl⟩
 replace H : (if 0 ≤ (ji45) then (if (ji45) < (t134.length : Int) then ((ean_drawn.f k (((⟨#[48]⟩ : ByteArray) ++ a1).extract 1 7) (rdOf ByteArray.empty t134 (ji45)) (⟨#[]⟩ : ByteArray)).bind fun t138 => (if 3 + t138.size ≤ 9223372036854775807 then (if ((⟨#[49, 48, 49]⟩ : ByteArray) ++ t138).size + 5 ≤ 9223372036854775807 then ((ean_drawn.f k (((⟨#[48]⟩ : ByteArray) ++ a1).extract 7 ((⟨#[48]⟩ : ByteArray) ++ a1).size) (⟨#[67, 67, 67, 67, 67, 67]⟩ : ByteArray) (⟨#[]⟩ : ByteArray)).bind fun t139 => (if (((⟨#[49, 48, 49]⟩ : ByteArray) ++ t138) ++ (⟨#[48, 49, 48, 49, 48]⟩ : ByteArray)).size + t139.size ≤ 9223372036854775807 then (if ((((⟨#[49, 48, 49]⟩ : ByteArray) ++ t138) ++ (⟨#[48, 49, 48, 49, 48]⟩ : ByteArray)) ++ t139).size + 3 ≤ 9223372036854775807 then (some (((((⟨#[49, 48, 49]⟩ : ByteArray) ++ t138) ++ (⟨#[48, 49, 48, 49, 48]⟩ : ByteArray)) ++ t139) ++ (⟨#[49, 48, 49]⟩ : ByteArray))) else (none)) else (none))) else (none)) else (none))) else (none)) else (none)) = some r := by first | (rw [hji45] at H; exact H) | (simp only [hji45] at H ⊢; exact H)
 (try rw [hji45] at A42)
 replace H := ifn H
 obtain ⟨c46, H⟩ := H
 have c46b0 : decide (0 ≤ (ji45)) = true := decide_eq_true c46
 clear c46
 by_cases c47 : (ji45) < (t134.length : Int)
 rotate_left
 ·rw [if_neg c47] at H
  exact absurd H (by simp)
 rw [if_pos c47] at H
 have c47b0 : decide ((ji45) < (t134.length : Int)) = true := decide_eq_true c47
 clear c47
 replace H := bd H
 obtain ⟨t138, A48, H⟩ := H
 replace H := ifn H
 obtain ⟨c49, H⟩ := H
 have c49b0 := eq_true c49
 try have c49b0s := s1 c49b0
 have c49b1 : decide (3 + t138.size ≤ 9223372036854775807) = true := decide_eq_true c49
 try have c49b2 : (9223372036854775807 < 3 + t138.size) = False := eq_false (Nat.not_lt.2 c49)
 by_cases c50 : ((⟨#[49, 48, 49]⟩ : ByteArray) ++ t138).size + 5 ≤ 9223372036854775807
 rotate_left
 ·rw [if_neg c50] at H
  exact absurd H (by simp)
 rw [if_pos c50] at H
 have c50b0 := eq_true c50
 try have c50b0s := s1 c50b0
 have c50b1 : decide (((⟨#[49, 48, 49]⟩ : ByteArray) ++ t138).size + 5 ≤ 9223372036854775807) = true := decide_eq_true c50
 try have c50b1s := s4 c50b1
 try have c50b1t := s3 c50b1
 try have c50b2 : (9223372036854775807 < ((⟨#[49, 48, 49]⟩ : ByteArray) ++ t138).size + 5) = False := eq_false (Nat.not_lt.2 c50)
 try have c50b2s := s2 c50b2
 have c51b0 := eq_true (of_decide_eq_true am : 7 ≤ (((⟨#[48]⟩ : ByteArray) ++ a1).size : Int))
 try have c51b0s := s1 c51b0
 replace H := bd H
 obtain ⟨t139, A52, H⟩ := H
 replace H := ifn H
 obtain ⟨c53, H⟩ := H
 have c53b0 := eq_true c53
 try have c53b0s := s1 c53b0
 have c53b1 : decide ((((⟨#[49, 48, 49]⟩ : ByteArray) ++ t138) ++ (⟨#[48, 49, 48, 49, 48]⟩ : ByteArray)).size + t139.size ≤ 9223372036854775807) = true := decide_eq_true c53
 try have c53b1s := s4 c53b1
 try have c53b1t := s3 c53b1
 try have c53b2 : (9223372036854775807 < (((⟨#[49, 48, 49]⟩ : ByteArray) ++ t138) ++ (⟨#[48, 49, 48, 49, 48]⟩ : ByteArray)).size + t139.size) = False := eq_false (Nat.not_lt.2 c53)
 try have c53b2s := s2 c53b2
 by_cases c54 : ((((⟨#[49, 48, 49]⟩ : ByteArray) ++ t138) ++ (⟨#[48, 49, 48, 49, 48]⟩ : ByteArray)) ++ t139).size + 3 ≤ 9223372036854775807
 rotate_left
 ·rw [if_neg c54] at H
  exact absurd H (by simp)
 rw [if_pos c54] at H
 have c54b0 := eq_true c54
 try have c54b0s := s1 c54b0
 have c54b1 : decide (((((⟨#[49, 48, 49]⟩ : ByteArray) ++ t138) ++ (⟨#[48, 49, 48, 49, 48]⟩ : ByteArray)) ++ t139).size + 3 ≤ 9223372036854775807) = true := decide_eq_true c54
 try have c54b1s := s4 c54b1
 try have c54b1t := s3 c54b1
 try have c54b2 : (9223372036854775807 < ((((⟨#[49, 48, 49]⟩ : ByteArray) ++ t138) ++ (⟨#[48, 49, 48, 49, 48]⟩ : ByteArray)) ++ t139).size + 3) = False := eq_false (Nat.not_lt.2 c54)
 try have c54b2s := s2 c54b2
 obtain rfl := Option.some.inj H
 go_enter Tryz.func30, Tryz.ntmps30
 try go_wp2
 have n0_ := Aside0.mk (below_drew1 HB.out)
 clear HB
 have HB := n0_
 clear n0_
 have p44 : 0 ≤ (0 : Int) := om
 have q44 : 0 < ((⟨#[48]⟩ : ByteArray) ++ a1).size := (by have : (0 : Int) < (((⟨#[48]⟩ : ByteArray) ++ a1).size : Int) := of_decide_eq_true am; omega)
 try have q44s := s4 q44
 have hx44 : ∀ h : 0 < ((⟨#[48]⟩ : ByteArray) ++ a1).size, ((((⟨#[48]⟩ : ByteArray) ++ a1)[0]'h).toNat : Int) = bt ((⟨#[48]⟩ : ByteArray) ++ a1) 0 := bt_at ((⟨#[48]⟩ : ByteArray) ++ a1) 0
 have hz_ : ∀ h : 0 < (⟨#[48]⟩ : ByteArray).size, ((((⟨#[48]⟩ : ByteArray)[0]'h).toNat : Nat) : Int) = bt ((⟨#[48]⟩ : ByteArray) ++ a1) 0 := fun h => zero_at a1 h
 clear p44
 have qi44 : (0 < (((⟨#[48]⟩ : ByteArray) ++ a1).size : Int)) = True := eq_true (of_decide_eq_true am)
 replace q44 := eq_true q44
 try have q44s := s1 q44
 refine start_ (n := 17) (S := fun _ => True) (ds := []) #[false, false, false, false, false, false, false, false, false, false, false, false, false, false, false, false, false] kr rfl rfl trivial (fun hHeld => ?_); refine with_tabW ean_symbol.tab11 ean_symbol.bits11 (fun HT_ HW_ => ?_)
 generalize w.drew = w55 at HB hHeld ⊢
 refine pu HT_ 0 42 (h := ?_)
 refine pu HT_ 1 43 (h := ?_)
 refine pu HT_ 3 45 (h := ?_)
 refine pu HT_ 11 53 (h := ?_)
 refine pu HT_ 12 54 (h := ?_)
 refine take_ (i := 4) (N := some 46) (v := ?_) (a' := ?_) #[true, true, false, true, true, false, false, false, false, false, false, true, true, false, false, false, false] rfl rfl (take_ofW HT_.out HW_.out kr) (fun _ _ _ h => h) (Or.inl ⟨by rfl, ?_⟩) hHeld ?_ ?_
 rotate_left
 ·intro w' s0
  go_simp
  try go_bits
  with_reducible rfl
 rotate_left
 ·simp only [Act.put, List.setIfInBounds_toArray, List.set_cons_zero, List.set_cons_succ, i64_w]
  rfl
 refine pu HT_ 5 47 (h := ?_)
 refine on HT_ 2 44 (h := fun K hK => ?_)
 refine goes_ Tryz.func63 kr rfl #[] (by rfl) rfl rfl (by (try simp only [List.map_toArray, List.map_cons, List.map_nil]); first | done | rfl | (simp only [List.length_drop, List.length_take]; rfl) | (go_simp; done) | (go_simp; rfl)) ?_
 with_reducible refine (ean_parity13.calls  t134 _ A42.out).mono ?_
 rintro e w56 ⟨v135, rfl, ho0, hb⟩
 refine ⟨_, rfl, ?_⟩
 have n0_ := Aside0.mk (Kd.R_lower ho0 (below_size bw))
 have n1_ := Aside0.mk (below_step bw hb)
 clear HB
 have HO136 := n0_
 have HB := n1_
 clear n0_ n1_
 (try clear hb)
 (try clear hb2)
 (try clear hk)
 (try clear hi)
 (try clear ho0)
 obtain ⟨Ao57, co57, eo57⟩ := Kd.R_slice HO136.out
 (first | subst eo57 | (injection eo57 with f1_ f2_ f3_; have f4_ := f1_.symm; have f5_ := f3_.symm; clear f1_ f2_ f3_; subst f4_; subst f5_))
 have p137 : 0 ≤ ((ji45) : Int) := of_decide_eq_true am
 have q137 : (ji45) < (t134.length : Int) := of_decide_eq_true am
 obtain ⟨ad137, e137, hx137_0⟩ := Kd.at_string (Kd.R_reads' HO136.out).2.2 (ji45) p137 q137
 cases e137
 replace p137 := eq_true p137
 replace q137 := eq_true q137
 try have q137s := s1 q137
 refine hK.out _ _ trivial (fun hHeld => ?_)
 clear hK K
 refine nm (h := ?_)
 refine pu HT_ 6 48 (h := ?_)
 refine one_ (i := 7) (N := some 49) #[true, true, true, true, true, true, true, true, false, false, false, true, true, false, false, false, false] rfl rfl (by first | exact one_of HT_.out kr | kernel_rfl) (by decide) (fun K hK => ?_)
 refine valQ_ (v := .string (rdOf ByteArray.empty t134 (ji45))) (by rfl) rfl (by go_simp; first | done | rfl) ?_
 refine hK.out _ _ trivial (fun hHeld => ?_)
 clear hK K
 refine nm (h := ?_)
 refine on HT_ 8 50 (h := fun K hK => ?_)
 refine goes_ Tryz.func31 kr rfl #[.string (((⟨#[48]⟩ : ByteArray) ++ a1).extract 1 7), .string (rdOf ByteArray.empty t134 (ji45)), .string (⟨#[]⟩ : ByteArray)] (by rfl) rfl rfl (by (try simp only [List.map_toArray, List.map_cons, List.map_nil]); first | done | (simp only [hji45]; rfl) | rfl | (simp only [List.length_drop, List.length_take]; rfl) | (go_simp; done) | (go_simp; rfl)) ?_
 with_reducible refine (ean_drawn.calls k (((⟨#[48]⟩ : ByteArray) ++ a1).extract 1 7) (rdOf ByteArray.empty t134 (ji45)) (⟨#[]⟩ : ByteArray) t138 _ A48.out).mono ?_
 rintro e w58 ⟨rfl, hb⟩
 refine ⟨_, rfl, ?_⟩
 have n0_ := Aside0.mk (Kd.R_below (kd HO136) hb)
 have n1_ := Aside0.mk (below_step bw hb)
 clear HO136
 clear HB
 have HO136 := n0_
 have HB := n1_
 clear n0_ n1_
 (try clear hb)
 (try clear hb2)
 (try clear hk)
 (try clear hi)
 refine hK.out _ _ trivial (fun hHeld => ?_)
 clear hK K
 refine nm (h := ?_)
 refine pu HT_ 9 51 (h := ?_)
 refine pu HT_ 10 52 (h := ?_)
 refine on HT_ 13 55 (h := fun K hK => ?_)
 refine goes_ Tryz.func31 kr rfl #[.string (((⟨#[48]⟩ : ByteArray) ++ a1).extract 7 ((⟨#[48]⟩ : ByteArray) ++ a1).size), .string (⟨#[67, 67, 67, 67, 67, 67]⟩ : ByteArray), .string (⟨#[]⟩ : ByteArray)] (by rfl) rfl rfl (by (try simp only [List.map_toArray, List.map_cons, List.map_nil]); first | done | rfl | (simp only [List.length_drop, List.length_take]; rfl) | (go_simp; done) | (go_simp; rfl)) ?_
 with_reducible refine (ean_drawn.calls k (((⟨#[48]⟩ : ByteArray) ++ a1).extract 7 ((⟨#[48]⟩ : ByteArray) ++ a1).size) (⟨#[67, 67, 67, 67, 67, 67]⟩ : ByteArray) (⟨#[]⟩ : ByteArray) t139 _ A52.out).mono ?_
 rintro e w59 ⟨rfl, hb⟩
 refine ⟨_, rfl, ?_⟩
 have n0_ := Aside0.mk (Kd.R_below (kd HO136) hb)
 have n1_ := Aside0.mk (below_step bw hb)
 clear HO136
 clear HB
 have HO136 := n0_
 have HB := n1_
 clear n0_ n1_
 (try clear hb)
 (try clear hb2)
 (try clear hk)
 (try clear hi)
 refine hK.out _ _ trivial (fun hHeld => ?_)
 clear hK K
 refine nm (h := ?_)
 refine pu HT_ 14 56 (h := ?_)
 refine pu HT_ 15 57 (h := ?_)
 refine pu HT_ 16 4 (h := ?_)
 refine done_ (done_of HT_.out kr) ?_
 try go_wp2
 go_ret
 exact ⟨by first | rfl | (simp [errW_none, errW_some] <;> rfl) | (simp only [← hji45]; first | rfl | (simp [errW_none, errW_some] <;> rfl)) | (simp [*, errW_none, errW_some] <;> rfl), bw⟩

end Go.Proofs.YtjmeekceecpemaaGreatDoor.Q

namespace Go.Proofs.YtjmeekceecpemaaGreatDoor.Q
open Go.RowKit Go.Proofs.YtjmeekceecpemaaGreatDoorW.PrintWords Go.Proofs.YtjmeekceecpemaaGreatDoorW.PrintLast Go.Proofs.YtjmeekceecpemaaGreatDoorW.PrintMore

set_option linter.unusedVariables false
set_option linter.unusedSimpArgs false

/-! ### ean_parity2: function 65 -/
def ean_parity2.f  : Option (List ByteArray) := some (([(⟨#[65, 65]⟩ : ByteArray), (⟨#[65, 66]⟩ : ByteArray), (⟨#[66, 65]⟩ : ByteArray), (⟨#[66, 66]⟩ : ByteArray)] : List ByteArray))
set_option maxHeartbeats 8000000 in
set_option maxRecDepth 100000 in
theorem ean_parity2.calls  (r : List ByteArray) (w : World) (h : ean_parity2.f  = some r) :
    Calls Tryz.prog 65 #[] w fun e w' => ∃ v0_ : Value, e = .returned (v0_) ∧ Kd.R Kd.string 9 w' w.heap.size (fun _ => True) v0_ r ∧ Below w.heap.size w w' := by
 have HB := Aside0.mk (Below.refl w.heap.size w)
 have H := h
 clear h
 unfold ean_parity2.f at H
 obtain ⟨y146, hy146⟩ : ∃ y_ : List ByteArray, y_ = (([(⟨#[65, 65]⟩ : ByteArray), (⟨#[65, 66]⟩ : ByteArray), (⟨#[66, 65]⟩ : ByteArray), (⟨#[66, 66]⟩ : ByteArray)] : List ByteArray)) := ⟨_, rfl⟩
 replace H : (some y146) = some r := by first | (rw [hy146]; with_reducible exact H) | (have H2_ := (Option.bind_some _ _).symm.trans H; rw [hy146]; with_reducible exact H2_) | (have H2_ := (Option.bind_some _ _).symm.trans H; with_reducible exact H2_) | with_reducible exact H | (rw [hy146]; exact H) | exact H
 have Ny146 := Aside0.mk hy146
 clear hy146
 obtain rfl := Option.some.inj H
 go_enter Tryz.func65, Tryz.ntmps65
 go_wp2_with (first | ((with_reducible refine gate_dst (N := 1) rfl ?_); refine Kd.R_lit Kd.string _ 9 ?hg (N := 1) ?hd (xs := ([(⟨#[65, 65]⟩ : ByteArray), (⟨#[65, 66]⟩ : ByteArray), (⟨#[66, 65]⟩ : ByteArray), (⟨#[66, 66]⟩ : ByteArray)] : List ByteArray)) (inner := [.string (⟨#[65, 65]⟩ : ByteArray), .string (⟨#[65, 66]⟩ : ByteArray), .string (⟨#[66, 65]⟩ : ByteArray), .string (⟨#[66, 66]⟩ : ByteArray)]) (ok := fun _ => True) (okp := fun _ => True) ?hr ?hp (fun _ hk => hk) trivial (Below.refl _ _) (Nat.le_refl _) (by simp) ?_; (case hd => rfl); (case hg => rfl); (case hr => first | (go_simp; done) | (go_simp; rfl)); (case hp => exact (Reps.one (show Kd.M Kd.string _ _ _ (⟨#[65, 65]⟩ : ByteArray) [.string (⟨#[65, 65]⟩ : ByteArray)] from rfl) (Reps.one (show Kd.M Kd.string _ _ _ (⟨#[65, 66]⟩ : ByteArray) [.string (⟨#[65, 66]⟩ : ByteArray)] from rfl) (Reps.one (show Kd.M Kd.string _ _ _ (⟨#[66, 65]⟩ : ByteArray) [.string (⟨#[66, 65]⟩ : ByteArray)] from rfl) (Reps.one (show Kd.M Kd.string _ _ _ (⟨#[66, 66]⟩ : ByteArray) [.string (⟨#[66, 66]⟩ : ByteArray)] from rfl) (Reps.none _ _)))))); intro v147 w1 ho2 hb hg_ hnew_; clear hg_ hnew_; (first | rw [← Ny146.out] at ho2 | (simp only [Int.reduceToNat] at ho2; rw [← Ny146.out] at ho2)); have n0_ := Aside0.mk (Kd.R_lower ho2 (below_size bw)); have n1_ := Aside0.mk (below_step bw hb); clear HB; have HO148 := n0_; have HB := n1_; clear n0_ n1_; clear hb ho2))
 go_ret
 exact ⟨_, es, kd HO148, bw⟩

end Go.Proofs.YtjmeekceecpemaaGreatDoor.Q

namespace Go.Proofs.YtjmeekceecpemaaGreatDoor.Q
open Go.RowKit Go.Proofs.YtjmeekceecpemaaGreatDoorW.PrintWords Go.Proofs.YtjmeekceecpemaaGreatDoorW.PrintLast Go.Proofs.YtjmeekceecpemaaGreatDoorW.PrintMore

set_option linter.unusedVariables false
set_option linter.unusedSimpArgs false

/-! ### ean_parity5: function 66 -/
def ean_parity5.f  : Option (List ByteArray) := some (([(⟨#[66, 66, 65, 65, 65]⟩ : ByteArray), (⟨#[66, 65, 66, 65, 65]⟩ : ByteArray), (⟨#[66, 65, 65, 66, 65]⟩ : ByteArray), (⟨#[66, 65, 65, 65, 66]⟩ : ByteArray), (⟨#[65, 66, 66, 65, 65]⟩ : ByteArray), (⟨#[65, 65, 66, 66, 65]⟩ : ByteArray), (⟨#[65, 65, 65, 66, 66]⟩ : ByteArray), (⟨#[65, 66, 65, 66, 65]⟩ : ByteArray), (⟨#[65, 66, 65, 65, 66]⟩ : ByteArray), (⟨#[65, 65, 66, 65, 66]⟩ : ByteArray)] : List ByteArray))
set_option maxHeartbeats 8000000 in
set_option maxRecDepth 100000 in
theorem ean_parity5.calls  (r : List ByteArray) (w : World) (h : ean_parity5.f  = some r) :
    Calls Tryz.prog 66 #[] w fun e w' => ∃ v0_ : Value, e = .returned (v0_) ∧ Kd.R Kd.string 9 w' w.heap.size (fun _ => True) v0_ r ∧ Below w.heap.size w w' := by
 have HB := Aside0.mk (Below.refl w.heap.size w)
 have H := h
 clear h
 unfold ean_parity5.f at H
 obtain ⟨y149, hy149⟩ : ∃ y_ : List ByteArray, y_ = (([(⟨#[66, 66, 65, 65, 65]⟩ : ByteArray), (⟨#[66, 65, 66, 65, 65]⟩ : ByteArray), (⟨#[66, 65, 65, 66, 65]⟩ : ByteArray), (⟨#[66, 65, 65, 65, 66]⟩ : ByteArray), (⟨#[65, 66, 66, 65, 65]⟩ : ByteArray), (⟨#[65, 65, 66, 66, 65]⟩ : ByteArray), (⟨#[65, 65, 65, 66, 66]⟩ : ByteArray), (⟨#[65, 66, 65, 66, 65]⟩ : ByteArray), (⟨#[65, 66, 65, 65, 66]⟩ : ByteArray), (⟨#[65, 65, 66, 65, 66]⟩ : ByteArray)] : List ByteArray)) := ⟨_, rfl⟩
 replace H : (some y149) = some r := by first | (rw [hy149]; with_reducible exact H) | (have H2_ := (Option.bind_some _ _).symm.trans H; rw [hy149]; with_reducible exact H2_) | (have H2_ := (Option.bind_some _ _).symm.trans H; with_reducible exact H2_) | with_reducible exact H | (rw [hy149]; exact H) | exact H
 have Ny149 := Aside0.mk hy149
 clear hy149
 obtain rfl := Option.some.inj H
 go_enter Tryz.func66, Tryz.ntmps66
 go_wp2_with (first | ((with_reducible refine gate_dst (N := 1) rfl ?_); refine Kd.R_lit Kd.string _ 9 ?hg (N := 1) ?hd (xs := ([(⟨#[66, 66, 65, 65, 65]⟩ : ByteArray), (⟨#[66, 65, 66, 65, 65]⟩ : ByteArray), (⟨#[66, 65, 65, 66, 65]⟩ : ByteArray), (⟨#[66, 65, 65, 65, 66]⟩ : ByteArray), (⟨#[65, 66, 66, 65, 65]⟩ : ByteArray), (⟨#[65, 65, 66, 66, 65]⟩ : ByteArray), (⟨#[65, 65, 65, 66, 66]⟩ : ByteArray), (⟨#[65, 66, 65, 66, 65]⟩ : ByteArray), (⟨#[65, 66, 65, 65, 66]⟩ : ByteArray), (⟨#[65, 65, 66, 65, 66]⟩ : ByteArray)] : List ByteArray)) (inner := [.string (⟨#[66, 66, 65, 65, 65]⟩ : ByteArray), .string (⟨#[66, 65, 66, 65, 65]⟩ : ByteArray), .string (⟨#[66, 65, 65, 66, 65]⟩ : ByteArray), .string (⟨#[66, 65, 65, 65, 66]⟩ : ByteArray), .string (⟨#[65, 66, 66, 65, 65]⟩ : ByteArray), .string (⟨#[65, 65, 66, 66, 65]⟩ : ByteArray), .string (⟨#[65, 65, 65, 66, 66]⟩ : ByteArray), .string (⟨#[65, 66, 65, 66, 65]⟩ : ByteArray), .string (⟨#[65, 66, 65, 65, 66]⟩ : ByteArray), .string (⟨#[65, 65, 66, 65, 66]⟩ : ByteArray)]) (ok := fun _ => True) (okp := fun _ => True) ?hr ?hp (fun _ hk => hk) trivial (Below.refl _ _) (Nat.le_refl _) (by simp) ?_; (case hd => rfl); (case hg => rfl); (case hr => first | (go_simp; done) | (go_simp; rfl)); (case hp => exact (Reps.one (show Kd.M Kd.string _ _ _ (⟨#[66, 66, 65, 65, 65]⟩ : ByteArray) [.string (⟨#[66, 66, 65, 65, 65]⟩ : ByteArray)] from rfl) (Reps.one (show Kd.M Kd.string _ _ _ (⟨#[66, 65, 66, 65, 65]⟩ : ByteArray) [.string (⟨#[66, 65, 66, 65, 65]⟩ : ByteArray)] from rfl) (Reps.one (show Kd.M Kd.string _ _ _ (⟨#[66, 65, 65, 66, 65]⟩ : ByteArray) [.string (⟨#[66, 65, 65, 66, 65]⟩ : ByteArray)] from rfl) (Reps.one (show Kd.M Kd.string _ _ _ (⟨#[66, 65, 65, 65, 66]⟩ : ByteArray) [.string (⟨#[66, 65, 65, 65, 66]⟩ : ByteArray)] from rfl) (Reps.one (show Kd.M Kd.string _ _ _ (⟨#[65, 66, 66, 65, 65]⟩ : ByteArray) [.string (⟨#[65, 66, 66, 65, 65]⟩ : ByteArray)] from rfl) (Reps.one (show Kd.M Kd.string _ _ _ (⟨#[65, 65, 66, 66, 65]⟩ : ByteArray) [.string (⟨#[65, 65, 66, 66, 65]⟩ : ByteArray)] from rfl) (Reps.one (show Kd.M Kd.string _ _ _ (⟨#[65, 65, 65, 66, 66]⟩ : ByteArray) [.string (⟨#[65, 65, 65, 66, 66]⟩ : ByteArray)] from rfl) (Reps.one (show Kd.M Kd.string _ _ _ (⟨#[65, 66, 65, 66, 65]⟩ : ByteArray) [.string (⟨#[65, 66, 65, 66, 65]⟩ : ByteArray)] from rfl) (Reps.one (show Kd.M Kd.string _ _ _ (⟨#[65, 66, 65, 65, 66]⟩ : ByteArray) [.string (⟨#[65, 66, 65, 65, 66]⟩ : ByteArray)] from rfl) (Reps.one (show Kd.M Kd.string _ _ _ (⟨#[65, 65, 66, 65, 66]⟩ : ByteArray) [.string (⟨#[65, 65, 66, 65, 66]⟩ : ByteArray)] from rfl) (Reps.none _ _)))))))))))); intro v150 w1 ho2 hb hg_ hnew_; clear hg_ hnew_; (first | rw [← Ny149.out] at ho2 | (simp only [Int.reduceToNat] at ho2; rw [← Ny149.out] at ho2)); have n0_ := Aside0.mk (Kd.R_lower ho2 (below_size bw)); have n1_ := Aside0.mk (below_step bw hb); clear HB; have HO151 := n0_; have HB := n1_; clear n0_ n1_; clear hb ho2))
 go_ret
 exact ⟨_, es, kd HO151, bw⟩

end Go.Proofs.YtjmeekceecpemaaGreatDoor.Q

namespace Go.Proofs.YtjmeekceecpemaaGreatDoor.Q
open Go.RowKit Go.Proofs.YtjmeekceecpemaaGreatDoorW.PrintWords Go.Proofs.YtjmeekceecpemaaGreatDoorW.PrintLast Go.Proofs.YtjmeekceecpemaaGreatDoorW.PrintMore

set_option linter.unusedVariables false
set_option linter.unusedSimpArgs false

/-! ### ean_setsOf: function 32 -/
def ean_setsOf.l0 : Nat → ByteArray → Int → Int → Int → Option (ByteArray)
 | 0, _, _, _, _ => none
 | k + 1, x0, x3, x23, x24 => if x24 < x23 then (if 0 ≤ x24 then (if x24 < (x0.size : Int) then (ean_setsOf.l0 k x0 (wrap64 (x3 + (wrap64 ((wrap64 (3 + (wrap64 ((Int.tmod x24 2) * 6)))) * (((bt x0 x24) - 48) % 256))))) x23 (wrap64 (x24 + 1))) else (none)) else (none)) else ((ean_parity5.f).bind fun t156 => (if 0 ≤ (Int.tmod x3 10) then (if (Int.tmod x3 10) < (t156.length : Int) then (some (rdOf ByteArray.empty t156 (Int.tmod x3 10))) else (none)) else (none)))
def ean_setsOf.f (k : Nat) (a0 : ByteArray) : Option (ByteArray) := if (a0.size : Int) = 2 then ((ean_parity2.f).bind fun t152 => (if 0 < (a0.size : Int) then (if 1 < (a0.size : Int) then (if 0 ≤ (((10 * (((bt a0 0) - 48) % 256)) + (((bt a0 1) - 48) % 256)) % 4) then (if (((10 * (((bt a0 0) - 48) % 256)) + (((bt a0 1) - 48) % 256)) % 4) < (t152.length : Int) then (some (rdOf ByteArray.empty t152 (((10 * (((bt a0 0) - 48) % 256)) + (((bt a0 1) - 48) % 256)) % 4))) else (none)) else (none)) else (none)) else (none))) else (ean_setsOf.l0 k a0 0 (a0.size : Int) 0)
theorem ean_setsOf.mono_l : ∀ k, (∀ y0 y1 y2 y3, LeO (ean_setsOf.l0 k y0 y1 y2 y3) (ean_setsOf.l0 (k + 1) y0 y1 y2 y3))
 | 0 => fun _ _ _ _ r h => by simp [ean_setsOf.l0] at h
 | k + 1 => by
  have ih0 := ean_setsOf.mono_l k
  ·intro y0 y1 y2 y3
   unfold ean_setsOf.l0
   repeat' with_reducible first | exact ih0 _ _ _ _ | exact LeO.refl _ | exact LeO.none _ | refine LeO.ite ?_ ?_ | refine LeO.bind ?_ (fun _ => ?_)
theorem ean_setsOf.mono : ∀ a0 k, LeO (ean_setsOf.f k a0) (ean_setsOf.f (k + 1) a0) := by
 intro a0 k
 have ih0 := ean_setsOf.mono_l k
 unfold ean_setsOf.f
 repeat' with_reducible first | exact ih0 _ _ _ _ | exact LeO.refl _ | exact LeO.none _ | refine LeO.ite ?_ ?_ | refine LeO.bind ?_ (fun _ => ?_)
def ean_setsOf.T2 : Bool × List (List Nat × List Nat) := (true, [([], []), ([], []), ([1], [1]), ([2], [2]), ([3], [3]), ([4], [4]), ([], []), ([6], [6]), ([7], [7]), ([8], [8]), ([5, 9], [5, 9]), ([10], [10]), ([0, 11], [0, 11]), ([12], [12]), ([13, 0, 0, 1, 2, 3, 4, 5, 6, 7, 8, 9, 10, 11, 12, 13], [13])])
def ean_setsOf.B2 : List Nat := [0, 0, 2, 6, 14, 30, 0, 64, 192, 448, 1022, 2046, 4095, 8191, 16383]
theorem ean_setsOf.tab2 : rtab .any (opsOf Tryz.f32 2) = ean_setsOf.T2 := kr
theorem ean_setsOf.bits2 : waitsOk ean_setsOf.T2.2 ean_setsOf.B2 = true := kr
set_option maxHeartbeats 8000000 in
set_option maxRecDepth 100000 in
theorem ean_setsOf.calls (k : Nat) (a0 : ByteArray) (r : ByteArray) (w : World) (h : ean_setsOf.f k a0 = some r) :
  Calls Tryz.prog 32 #[.string a0] w fun e w' => e = .returned (.string r) ∧ Below w.heap.size w w' := by
 have HB := Aside0.mk (Below.refl w.heap.size w)
 have H := h
 clear h
 unfold ean_setsOf.f at H
 replace H := ifc H
 obtain ⟨c2, H⟩ | ⟨c2, H⟩ := H
 rotate_left
 ·have c2b0 : ((a0.size : Int) == 2) = false := beq_eq_false_iff_ne.mpr c2
  have c2b1 : ((a0.size : Int) != 2) = true := bne_iff_ne.mpr c2
  have H' := Aside0.mk H
  clear H
  go_enter Tryz.func32, Tryz.ntmps32
  go_wp2
  go_loopg [3, 24] k (fun kq v3 v24 w' => ∃ (x3_1 : Int) (x24_1 : Int), v3 = .int .i64 x3_1 ∧ v24 = .int .i64 x24_1 ∧ Aside0 (ean_setsOf.l0 kq a0 x3_1 (a0.size : Int) x24_1 = some r) ∧ Aside0 (kq ≤ k) ∧ Aside0 (Below w.heap.size w w'))
  case atStart => exact ⟨(0), (0), rs, rs, H', ⟨Nat.le_refl _⟩, ⟨bw⟩⟩
  case round =>
   clear H'
   obtain ⟨x3_1, x24_1, rfl, rfl, HA, HK1, HB⟩ := hrel
   cases gk with
   | zero => exact absurd HA.out (by simp [ean_setsOf.l0])
   | succ k1 =>
    have H := HA.out
    clear HA
    simp only [ean_setsOf.l0] at H
    replace H := ifc H
    obtain ⟨c14, H⟩ | ⟨c14, H⟩ := H
    ·have c14b0 : decide (x24_1 < (a0.size : Int)) = true := decide_eq_true c14
     clear c14
     replace H := ifn H
     obtain ⟨c15, H⟩ := H
     have c15b0 : decide (0 ≤ x24_1) = true := decide_eq_true c15
     clear c15
     by_cases c16 : x24_1 < (a0.size : Int)
     rotate_left
     ·rw [if_neg c16] at H
      exact absurd H (by simp)
     rw [if_pos c16] at H
     have c16b0 : decide (x24_1 < (a0.size : Int)) = true := decide_eq_true c16
     clear c16
     have H' := Aside0.mk H
     clear H
     have p17 : 0 ≤ (x24_1 : Int) := of_decide_eq_true am
     have q17 : x24_1 < (a0.size : Int) := of_decide_eq_true am
     have hx17 := bt_at a0 x24_1
     replace p17 := eq_true p17
     replace q17 := eq_true q17
     go_wp2
     go_roundg k1
     case measure => have := HK1.out; omega
     case rel => exact ⟨(wrap64 (x3_1 + (wrap64 ((wrap64 (3 + (wrap64 ((Int.tmod x24_1 2) * 6)))) * (((bt a0 x24_1) - 48) % 256))))), (wrap64 (x24_1 + 1)), rs, rs, H', ⟨by have := HK1.out; omega⟩, ⟨bw⟩⟩
    have c14b0 : decide (x24_1 < (a0.size : Int)) = false := decide_eq_false c14
    clear c14
    replace H := bd H
    obtain ⟨t156, A18, H⟩ := H
    obtain ⟨ji19, hji19⟩ : ∃ j_ : Int, (Int.tmod x3_1 10) = j_ := ⟨_, rfl⟩
    replace H : (if 0 ≤ (ji19) then (if (ji19) < (t156.length : Int) then (some (rdOf ByteArray.empty t156 (ji19))) else (none)) else (none)) = some r := by first | (rw [hji19] at H; exact H) | (simp only [hji19] at H ⊢; exact H)
    (try rw [hji19] at A18)
    replace H := ifc H
    obtain ⟨c20, H⟩ | ⟨c20, H⟩ := H
    rotate_left
    ·exact absurd H (by simp)
    have c20b0 : decide (0 ≤ (ji19)) = true := decide_eq_true c20
    clear c20
    replace H := ifn H
    obtain ⟨c21, H⟩ := H
    have c21b0 : decide ((ji19) < (t156.length : Int)) = true := decide_eq_true c21
    clear c21
    obtain rfl := Option.some.inj H
    go_wp2_with (first | ((with_reducible refine gate_callee (f := 66) rfl ?_); refine goesL_ (some 40) rfl rfl Tryz.func66 kr rfl #[] rfl ar ?_; (with_reducible refine (ean_parity5.calls  t156 _ A18.out).mono ?_); rintro e w22 ⟨v157, rfl, ho0, hb⟩; refine ⟨_, rfl, ?_⟩; have n0_ := Aside0.mk (Kd.R_lower ho0 (below_size bw)); have n1_ := Aside0.mk (below_step bw hb); clear HB; have HO158 := n0_; have HB := n1_; clear n0_ n1_; clear hb; (try clear ho0); obtain ⟨Ao23, co23, eo23⟩ := Kd.R_slice HO158.out; subst eo23; have p159 : 0 ≤ ((ji19) : Int) := of_decide_eq_true am; have q159 : (ji19) < (t156.length : Int) := of_decide_eq_true am; obtain ⟨ad159, e159, hx159_0⟩ := Kd.at_string (Kd.R_reads' HO158.out).2.2 (ji19) p159 q159; cases e159; replace p159 := eq_true p159; replace q159 := eq_true q159))
    go_ret
    exact ⟨by first | rfl | (simp [errW_none, errW_some] <;> rfl) | (simp only [← hji19]; first | rfl | (simp [errW_none, errW_some] <;> rfl)) | (simp [*, errW_none, errW_some] <;> rfl), bw⟩
 have c2b0 : ((a0.size : Int) == 2) = true := beq_iff_eq.mpr c2
 have c2b1 : ((a0.size : Int) != 2) = false := bne_eq_false_iff_eq.mpr c2
 clear c2
 replace H := bd H
 obtain ⟨t152, A3, H⟩ := H
 replace H := ifn H
 obtain ⟨c4, H⟩ := H
 have c4b0 : decide (0 < (a0.size : Int)) = true := decide_eq_true c4
 have c4b1 : decide (0 < a0.size) = true := decide_eq_true om
 clear c4
 by_cases c6 : 1 < (a0.size : Int)
 rotate_left
 ·rw [if_neg c6] at H
  exact absurd H (by simp)
 rw [if_pos c6] at H
 have c6b0 : decide (1 < (a0.size : Int)) = true := decide_eq_true c6
 have c6b1 : decide (1 < a0.size) = true := decide_eq_true om
 clear c6
 obtain ⟨ji8, hji8⟩ : ∃ j_ : Int, (((10 * (((bt a0 0) - 48) % 256)) + (((bt a0 1) - 48) % 256)) % 4) = j_ := ⟨_, rfl⟩
 replace H : (if 0 ≤ (ji8) then (if (ji8) < (t152.length : Int) then (some (rdOf ByteArray.empty t152 (ji8))) else (none)) else (none)) = some r := by first | (rw [hji8] at H; exact H) | (simp only [hji8] at H ⊢; exact H)
 (try rw [hji8] at A3)
 replace H := ifn H
 obtain ⟨c9, H⟩ := H
 have c9b0 : decide (0 ≤ (ji8)) = true := decide_eq_true c9
 clear c9
 by_cases c10 : (ji8) < (t152.length : Int)
 rotate_left
 ·rw [if_neg c10] at H
  exact absurd H (by simp)
 rw [if_pos c10] at H
 have c10b0 : decide ((ji8) < (t152.length : Int)) = true := decide_eq_true c10
 clear c10
 obtain rfl := Option.some.inj H
 go_enter Tryz.func32, Tryz.ntmps32
 try go_wp2
 have n0_ := Aside0.mk (below_drew1 HB.out)
 clear HB
 have HB := n0_
 clear n0_
 have p5 : 0 ≤ (0 : Int) := om
 have q5 : 0 < a0.size := (by have : (0 : Int) < (a0.size : Int) := of_decide_eq_true am; omega)
 have hx5 : ∀ h : 0 < a0.size, ((a0[0]'h).toNat : Int) = bt a0 0 := bt_at a0 0
 clear p5
 have qi5 : (0 < (a0.size : Int)) = True := eq_true (of_decide_eq_true am)
 replace q5 := eq_true q5
 have p7 : 0 ≤ (1 : Int) := om
 have q7 : 1 < a0.size := (by have : (1 : Int) < (a0.size : Int) := of_decide_eq_true am; omega)
 have hx7 : ∀ h : 1 < a0.size, ((a0[1]'h).toNat : Int) = bt a0 1 := bt_at a0 1
 clear p7
 have qi7 : (1 < (a0.size : Int)) = True := eq_true (of_decide_eq_true am)
 replace q7 := eq_true q7
 refine start_ (n := 15) (S := fun _ => True) (ds := []) #[false, false, false, false, false, false, false, false, false, false, false, false, false, false, false] kr rfl rfl trivial (fun hHeld => ?_); refine with_tabW ean_setsOf.tab2 ean_setsOf.bits2 (fun HT_ HW_ => ?_)
 generalize w.drew = w11 at HB hHeld ⊢
 refine pu HT_ 1 9 (h := ?_)
 refine pu HT_ 6 14 (h := ?_)
 refine take_ (i := 2) (N := some 10) (v := ?_) (a' := ?_) #[false, true, true, false, false, false, true, false, false, false, false, false, false, false, false] rfl rfl (take_ofW HT_.out HW_.out kr) (fun _ _ _ h => h) (Or.inl ⟨by rfl, ?_⟩) hHeld ?_ ?_
 rotate_left
 ·intro w' s0
  go_simp
  try go_bits
  with_reducible rfl
 rotate_left
 ·simp only [Act.put, List.setIfInBounds_toArray, List.set_cons_zero, List.set_cons_succ, i64_w]
  rfl
 refine pu HT_ 3 11 (h := ?_)
 refine pu HT_ 4 12 (h := ?_)
 refine pu HT_ 5 13 (h := ?_)
 refine take_ (i := 7) (N := some 15) (v := ?_) (a' := ?_) #[false, true, true, true, true, true, true, true, false, false, false, false, false, false, false] rfl rfl (take_ofW HT_.out HW_.out kr) (fun _ _ _ h => h) (Or.inl ⟨by rfl, ?_⟩) hHeld ?_ ?_
 rotate_left
 ·intro w' s0
  go_simp
  try go_bits
  with_reducible rfl
 rotate_left
 ·simp only [Act.put, List.setIfInBounds_toArray, List.set_cons_zero, List.set_cons_succ, i64_w]
  rfl
 refine pu HT_ 8 16 (h := ?_)
 refine pu HT_ 9 17 (h := ?_)
 refine pu HT_ 10 18 (h := ?_)
 refine pu HT_ 11 19 (h := ?_)
 refine on HT_ 0 8 (h := fun K hK => ?_)
 refine goes_ Tryz.func65 kr rfl #[] (by rfl) rfl rfl ar ?_
 with_reducible refine (ean_parity2.calls  t152 _ A3.out).mono ?_
 rintro e w12 ⟨v153, rfl, ho0, hb⟩
 refine ⟨_, rfl, ?_⟩
 have n0_ := Aside0.mk (Kd.R_lower ho0 (below_size bw))
 have n1_ := Aside0.mk (below_step bw hb)
 clear HB
 have HO154 := n0_
 have HB := n1_
 clear n0_ n1_
 (try clear hb)
 (try clear hb2)
 (try clear hk)
 (try clear hi)
 (try clear ho0)
 obtain ⟨Ao13, co13, eo13⟩ := Kd.R_slice HO154.out
 (first | subst eo13 | (injection eo13 with f1_ f2_ f3_; have f4_ := f1_.symm; have f5_ := f3_.symm; clear f1_ f2_ f3_; subst f4_; subst f5_))
 have p155 : 0 ≤ ((ji8) : Int) := of_decide_eq_true am
 have q155 : (ji8) < (t152.length : Int) := of_decide_eq_true am
 obtain ⟨ad155, e155, hx155_0⟩ := Kd.at_string (Kd.R_reads' HO154.out).2.2 (ji8) p155 q155
 cases e155
 replace p155 := eq_true p155
 replace q155 := eq_true q155
 refine hK.out _ _ trivial (fun hHeld => ?_)
 clear hK K
 refine nm (h := ?_)
 refine pu HT_ 12 20 (h := ?_)
 refine one_ (i := 13) (N := some 21) #[true, true, true, true, true, true, true, true, true, true, true, true, true, true, false] rfl rfl (by first | exact one_of HT_.out kr | kernel_rfl) (by decide) (fun K hK => ?_)
 refine valQ_ (v := .string (rdOf ByteArray.empty t152 (ji8))) (by rfl) rfl (by go_simp; first | done | rfl) ?_
 refine hK.out _ _ trivial (fun hHeld => ?_)
 clear hK K
 refine nm (h := ?_)
 refine pu HT_ 14 2 (h := ?_)
 refine done_ (done_of HT_.out kr) ?_
 try go_wp2
 go_ret
 exact ⟨by first | rfl | (simp [errW_none, errW_some] <;> rfl) | (simp only [← hji8]; first | rfl | (simp [errW_none, errW_some] <;> rfl)) | (simp [*, errW_none, errW_some] <;> rfl), bw⟩

end Go.Proofs.YtjmeekceecpemaaGreatDoor.Q

namespace Go.Proofs.YtjmeekceecpemaaGreatDoor.Q
open Go.RowKit Go.Proofs.YtjmeekceecpemaaGreatDoorW.PrintWords Go.Proofs.YtjmeekceecpemaaGreatDoorW.PrintLast Go.Proofs.YtjmeekceecpemaaGreatDoorW.PrintMore

set_option linter.unusedVariables false
set_option linter.unusedSimpArgs false

/-! ### ean_modules: function 33 -/
def ean_modules.l0 : Nat → ByteArray → List Bool → Int → Int → Option (List Bool)
  | 0, _, _, _, _ => none
  | k + 1, x0, x3, x9, x10 => if x10 < x9 then (if 0 ≤ x10 then (if x10 < (x0.size : Int) then (if x10 < (x3.length : Int) then (ean_modules.l0 k x0 (x3.set (x10 : Int).toNat ((bt x0 x10) == 49)) x9 (wrap64 (x10 + 1))) else (none)) else (none)) else (none)) else (some x3)
def ean_modules.f (k : Nat) (a0 : ByteArray) : Option (List Bool) := if 0 ≤ (a0.size : Int) then (if ((a0.size : Int) : Int).toNat ≤ 281474976710656 then ((some (List.replicate ((a0.size : Int) : Int).toNat false : List Bool)).bind fun y160 => (ean_modules.l0 k a0 y160 (y160.length : Int) 0)) else (none)) else (none)
theorem ean_modules.mono_l : ∀ k, (∀ y0 y1 y2 y3, LeO (ean_modules.l0 k y0 y1 y2 y3) (ean_modules.l0 (k + 1) y0 y1 y2 y3))
  | 0 => fun _ _ _ _ r h => by simp [ean_modules.l0] at h
  | k + 1 => by
    have ih0 := ean_modules.mono_l k
    · intro y0 y1 y2 y3
      unfold ean_modules.l0
      repeat' with_reducible first | exact ih0 _ _ _ _ | exact LeO.refl _ | exact LeO.none _ | refine LeO.ite ?_ ?_ | refine LeO.bind ?_ (fun _ => ?_)
theorem ean_modules.mono : ∀ a0 k, LeO (ean_modules.f k a0) (ean_modules.f (k + 1) a0) := by
  intro a0 k
  have ih0 := ean_modules.mono_l k
  unfold ean_modules.f
  repeat' with_reducible first | exact ih0 _ _ _ _ | exact LeO.refl _ | exact LeO.none _ | refine LeO.ite ?_ ?_ | refine LeO.bind ?_ (fun _ => ?_)
set_option maxHeartbeats 8000000 in
set_option maxRecDepth 100000 in
theorem ean_modules.calls (k : Nat) (a0 : ByteArray) (r : List Bool) (w : World) (h : ean_modules.f k a0 = some r) :
    Calls Tryz.prog 33 #[.string a0] w fun e w' => ∃ v0_ : Value, e = .returned (v0_) ∧ Kd.R Kd.bool 4 w' w.heap.size (fun _ => True) v0_ r ∧ Below w.heap.size w w' := by
 have HB := Aside0.mk (Below.refl w.heap.size w)
 have H := h
 clear h
 unfold ean_modules.f at H
 replace H := ifc H
 obtain ⟨c2, H⟩ | ⟨c2, H⟩ := H
 rotate_left
 ·exact absurd H (by simp)
 have c2b0 := eq_true c2
 try have c2b0s := s1 c2b0
 have c2b1 : decide (0 ≤ (a0.size : Int)) = true := decide_eq_true c2
 clear c2
 replace H := ifn H
 obtain ⟨c3, H⟩ := H
 have c3b0 := eq_true c3
 try have c3b0s := s1 c3b0
 have c3b1 : decide (((a0.size : Int) : Int).toNat ≤ 281474976710656) = true := decide_eq_true c3
 clear c3
 obtain ⟨y160, hy160⟩ : ∃ y_ : List Bool, y_ = (List.replicate ((a0.size : Int) : Int).toNat false) := ⟨_, rfl⟩
 replace H : (ean_modules.l0 k a0 y160 (y160.length : Int) 0) = some r := by first | (rw [hy160]; with_reducible exact H) | (have H2_ := (Option.bind_some _ _).symm.trans H; rw [hy160]; with_reducible exact H2_) | (have H2_ := (Option.bind_some _ _).symm.trans H; with_reducible exact H2_) | with_reducible exact H | (rw [hy160]; exact H) | exact H
 have Ny160 := Aside0.mk hy160
 clear hy160
 have H' := Aside0.mk H
 clear H
 go_enter Tryz.func33, Tryz.ntmps33
 go_wp2_with (first | ((with_reducible refine gate_dst (N := 7) rfl ?_); refine Kd.R_make Kd.bool _ 4 rfl (N := 7) rfl 23 _ _ rfl (a0.size : Int) rfl rfl Tryz.underlying23 (.bool false) 1 info4 rfl (by decide) om false (ok := fun _ => True) (okp := fun _ => True) rfl (fun _ hk => hk) trivial (of_decide_eq_true am) (Nat.le_trans (Nat.mul_le_mul_right _ (of_decide_eq_true am : (a0.size : Int).toNat ≤ 281474976710656)) om) (Below.refl _ _) (Nat.le_refl _) ?_; intro v161 w4 ho5 hb hg_ hnew_; clear hg_ hnew_; (first | rw [← Ny160.out] at ho5 | (simp only [Int.reduceToNat] at ho5; rw [← Ny160.out] at ho5)); have n0_ := Aside0.mk (Kd.R_lower ho5 (below_size bw)); have n1_ := Aside0.mk (below_step bw hb); clear HB; have HO162 := n0_; have HB := n1_; clear n0_ n1_; clear hb ho5; obtain ⟨Ao6, co6, eo6⟩ := Kd.R_slice HO162.out; subst eo6))
 go_loopg [10] k (fun kq v10 w' => ∃ (x3_1 : List Bool) (x10_1 : Int), v10 = .int .i64 x10_1 ∧ Aside0 (ean_modules.l0 kq a0 x3_1 (y160.length : Int) x10_1 = some r) ∧ Aside0 (kq ≤ k) ∧ Aside0 (Kd.R Kd.bool 4 w' w.heap.size (fun _ => True) (.slice Ao6 y160.length co6) x3_1) ∧ Aside0 (Below w.heap.size w w'))
 case atStart => exact ⟨(y160), (0), rs, H', ⟨Nat.le_refl _⟩, ⟨kd HO162⟩, ⟨bw⟩⟩
 case round =>
  clear H'
  try clear c2
  try clear c2b0
  try clear c2b1
  try clear p2
  try clear c3
  try clear c3b0
  try clear c3b1
  obtain ⟨x3_1, x10_1, rfl, HA, HK1, HO_3, HB⟩ := hrel
  have hl3_1 := (Kd.R_reads' HO_3.out).1
  rw [hl3_1] at HO_3
  (try simp only [hl3_1])
  cases gk with
  | zero => exact absurd HA.out (by simp [ean_modules.l0])
  | succ k1 =>
   have H := HA.out
   clear HA
   simp only [ean_modules.l0] at H
   replace H := ifc H
   obtain ⟨c7, H⟩ | ⟨c7, H⟩ := H
   rotate_left
   ·have c7b0 : decide (x10_1 < (y160.length : Int)) = false := decide_eq_false c7
    (try rw [hl3_1] at c7b0)
    (try rw [hl3_1] at c7b0)
    (try rw [hl3_1] at c7b0)
    clear c7
    obtain rfl := Option.some.inj H
    go_wp2
    go_ret
    exact ⟨_, es, kd HO_3, bw⟩
   have c7b0 : decide (x10_1 < (y160.length : Int)) = true := decide_eq_true c7
   (try rw [hl3_1] at c7b0)
   (try rw [hl3_1] at c7b0)
   (try rw [hl3_1] at c7b0)
   clear c7
   replace H := ifn H
   obtain ⟨c8, H⟩ := H
   have c8b0 : decide (0 ≤ x10_1) = true := decide_eq_true c8
   clear c8
   by_cases c9 : x10_1 < (a0.size : Int)
   rotate_left
   ·rw [if_neg c9] at H
    exact absurd H (by simp)
   rw [if_pos c9] at H
   have c9b0 : decide (x10_1 < (a0.size : Int)) = true := decide_eq_true c9
   clear c9
   replace H := ifn H
   obtain ⟨c11, H⟩ := H
   have c11b0 : decide (x10_1 < (x3_1.length : Int)) = true := decide_eq_true c11
   clear c11
   obtain ⟨y163, hy163⟩ : ∃ y_ : List Bool, y_ = (x3_1.set (x10_1 : Int).toNat ((bt a0 x10_1) == 49)) := ⟨_, rfl⟩
   replace H : (ean_modules.l0 k1 a0 y163 (y160.length : Int) (wrap64 (x10_1 + 1))) = some r := by first | (rw [hy163]; with_reducible exact H) | (have H2_ := (Option.bind_some _ _).symm.trans H; rw [hy163]; with_reducible exact H2_) | (have H2_ := (Option.bind_some _ _).symm.trans H; with_reducible exact H2_) | with_reducible exact H | (rw [hy163]; exact H) | exact H
   have Ny163 := Aside0.mk hy163
   clear hy163
   have H' := Aside0.mk H
   clear H
   have p10 : 0 ≤ (x10_1 : Int) := of_decide_eq_true am
   have q10 : x10_1 < (a0.size : Int) := of_decide_eq_true am
   have hx10 := bt_at a0 x10_1
   replace p10 := eq_true p10
   replace q10 := eq_true q10
   try have q10s := s1 q10
   have p12 : 0 ≤ (x10_1 : Int) := of_decide_eq_true am
   have q12 : (x10_1 : Int) < ((x3_1.length : Int) : Int) := of_decide_eq_true am
   obtain ⟨go12, co12, eo12, gb12, gl12, cl12, HG12⟩ := Kd.R_form HO_3.out om
   (first | cases eo12 | (injection eo12 with ea_ en_ ec_; (first | subst ea_ | (injection ea_ with ea_; subst ea_)); subst ec_; clear en_))
   have GB12 := Aside0.mk gb12
   have GG12 := Aside0.mk HG12
   clear gb12 gl12 HG12
   obtain ⟨hx12_0, hf12_0⟩ := Kd.R_celln false HO_3.out (x10_1 : Int) p12 q12
   replace p12 := eq_true p12
   replace q12 := eq_true q12
   try have q12s := s1 q12
   have HP13 := Kd.R_putg HO_3.out (x10_1 : Int) ((bt a0 x10_1) == 49)
   go_wp2_with (first | ((with_reducible refine gate_store (t := 4) (p := 19) rfl ?_); refine store_event (t := 4) (p := 19) (v := ?vo_w14) (w1 := (wr.setCell ⟨go12, (x10_1 : Int).toNat, none⟩ (.bool ((bt a0 x10_1) == 49)))) ?hg ?ho ?hn ?hr ?_; (case ho => rfl); (case hg => rfl); (case hn => rfl); (case hr => first | (go_simp; done) | (go_simp; rfl)); intro w14 hw; have hg : wr.grownBy w14 (some go12) := (by rw [hw]; exact HP13.2); have hp_ : Kd.R Kd.bool 4 w14 w.heap.size (fun _ => True) (.slice (some ⟨go12, 0, none⟩) x3_1.length co6) y163 := (by rw [hw, Ny163.out]; exact HP13.1); clear HP13; replace HO_3 := Aside0.mk (hp_); replace HB := Aside0.mk ((by rw [hw]; exact below_set (HB.out) GB12.out : Below w.heap.size w w14)); clear hg hw hp_))
   (try simp only [← hl3_1])
   go_roundg k1
   case measure => have := HK1.out; omega
   case rel => exact ⟨(y163), (wrap64 (x10_1 + 1)), rs, H', ⟨by have := HK1.out; omega⟩, ⟨by (try simp only [hl3_1]); (with_reducible repeat (first | apply Kd.R_alloc | apply Kd.R_drewN | apply Kd.R_drew)); exact HO_3.out⟩, ⟨bw⟩⟩

end Go.Proofs.YtjmeekceecpemaaGreatDoor.Q

namespace Go.Proofs.YtjmeekceecpemaaGreatDoor.Q
open Go.RowKit Go.Proofs.YtjmeekceecpemaaGreatDoorW.PrintWords Go.Proofs.YtjmeekceecpemaaGreatDoorW.PrintLast Go.Proofs.YtjmeekceecpemaaGreatDoorW.PrintMore

set_option linter.unusedVariables false
set_option linter.unusedSimpArgs false

/-! ### ean_Encode: function 11 -/
def ean_Encode.j0 : Nat → Int → ByteArray → ByteArray → Option (List Bool × Int)
 | 0, _, _, _ => none
 | k + 1, x0, x1, x2 => (ean_margins.f x0).bind fun bt166 => ((strings_Repeat.f (⟨#[48]⟩ : ByteArray) bt166.1).bind fun t168 => ((ean_symbol.f k x0 x1).bind fun t169 => (if t168.size + t169.size ≤ 9223372036854775807 then (if x2.toList = ([] : List UInt8) then ((strings_Repeat.f (⟨#[48]⟩ : ByteArray) bt166.2).bind fun t170 => (if (t168 ++ t169).size + t170.size ≤ 9223372036854775807 then ((ean_modules.f k ((t168 ++ t169) ++ t170)).bind fun t171 => (some (t171, 0))) else (none))) else ((strings_Repeat.f (⟨#[48]⟩ : ByteArray) 9).bind fun t174 => (if t174.size + 4 ≤ 9223372036854775807 then ((ean_setsOf.f k x2).bind fun t175 => ((ean_drawn.f k x2 t175 (⟨#[48, 49]⟩ : ByteArray)).bind fun t176 => (if (t174 ++ (⟨#[49, 48, 49, 49]⟩ : ByteArray)).size + t176.size ≤ 9223372036854775807 then (if (t168 ++ t169).size + ((t174 ++ (⟨#[49, 48, 49, 49]⟩ : ByteArray)) ++ t176).size ≤ 9223372036854775807 then ((strings_Repeat.f (⟨#[48]⟩ : ByteArray) 7).bind fun t177 => (if ((t168 ++ t169) ++ ((t174 ++ (⟨#[49, 48, 49, 49]⟩ : ByteArray)) ++ t176)).size + t177.size ≤ 9223372036854775807 then ((ean_modules.f k (((t168 ++ t169) ++ ((t174 ++ (⟨#[49, 48, 49, 49]⟩ : ByteArray)) ++ t176)) ++ t177)).bind fun t178 => (some (t178, 0))) else (none))) else (none)) else (none)))) else (none)))) else (none))))
def ean_Encode.f (k : Nat) (a0 : Int) (a1 : ByteArray) (a2 : ByteArray) : Option (List Bool × Int) := (ean_complete.f k a0 a1).bind fun t164 => (if t164 = 0 then ((ean_digits.f a2).bind fun t165 => (if t165 = true then (if (a2.size : Int) = 0 then (ean_Encode.j0 k a0 a1 a2) else (if (a2.size : Int) = 2 then (ean_Encode.j0 k a0 a1 a2) else (if (a2.size : Int) = 5 then (ean_Encode.j0 k a0 a1 a2) else (some (([] : List Bool), 7))))) else (some (([] : List Bool), 6)))) else (some (([] : List Bool), t164)))
theorem ean_Encode.mono_l : ∀ k, (∀ y0 y1 y2, LeO (ean_Encode.j0 k y0 y1 y2) (ean_Encode.j0 (k + 1) y0 y1 y2))
 | 0 => fun _ _ _ r h => by simp [ean_Encode.j0] at h
 | k + 1 => by
  have ih0 := ean_Encode.mono_l k
  ·intro y0 y1 y2
   unfold ean_Encode.j0
   repeat' with_reducible first | exact ih0 _ _ _ | exact ean_complete.mono _ _ _ | exact ean_drawn.mono _ _ _ _ | exact ean_modules.mono _ _ | exact ean_setsOf.mono _ _ | exact ean_symbol.mono _ _ _ | exact LeO.refl _ | exact LeO.none _ | refine LeO.ite ?_ ?_ | refine LeO.bind ?_ (fun _ => ?_)
theorem ean_Encode.mono : ∀ a0 a1 a2 k, LeO (ean_Encode.f k a0 a1 a2) (ean_Encode.f (k + 1) a0 a1 a2) := by
 intro a0 a1 a2 k
 have ih0 := ean_Encode.mono_l k
 unfold ean_Encode.f
 repeat' with_reducible first | exact ih0 _ _ _ | exact ean_complete.mono _ _ _ | exact ean_drawn.mono _ _ _ _ | exact ean_modules.mono _ _ | exact ean_setsOf.mono _ _ | exact ean_symbol.mono _ _ _ | exact LeO.refl _ | exact LeO.none _ | refine LeO.ite ?_ ?_ | refine LeO.bind ?_ (fun _ => ?_)
set_option maxHeartbeats 8000000 in
set_option maxRecDepth 100000 in
theorem ean_Encode.calls (k : Nat) (a0 : Int) (a1 : ByteArray) (a2 : ByteArray) (r1 : List Bool) (r2 : Int) (w : World) (h : ean_Encode.f k a0 a1 a2 = some (r1, r2)) :
  Calls Tryz.prog 11 #[.int .i64 a0, .string a1, .string a2] w fun e w' => ∃ v0_ : Value, e = .returned (.tuple #[v0_, .int .i64 r2]) ∧ Kd.R Kd.bool 4 w' w.heap.size (fun _ => True) v0_ r1 ∧ Below w.heap.size w w' := by
 have HB := Aside0.mk (Below.refl w.heap.size w)
 have H := h
 clear h
 unfold ean_Encode.f at H
 replace H := bd H
 obtain ⟨t164, A4, H⟩ := H
 have HC5 := Aside0.mk H
 clear H
 go_enter Tryz.func11, Tryz.ntmps11
 go_upto_block 0 with (first | ((with_reducible refine gate_callee (f := 26) rfl ?_); refine goesL_ (some 14) rfl rfl Tryz.func26 kr rfl #[.int .i64 a0, .string a1] rfl ar ?_; (with_reducible refine (ean_complete.calls k a0 a1 t164 _ A4.out).mono ?_); rintro e w6 ⟨rfl, hb⟩; refine ⟨_, rfl, ?_⟩; replace HB := Aside0.mk (below_step bw hb); clear hb))
 (try simp only [Act.put, List.setIfInBounds_toArray, List.set_cons_zero, List.set_cons_succ])
 go_cut [] (fun wc => ∃ (kq : Nat), Aside0 (ean_Encode.j0 kq a0 a1 a2 = some (r1, r2)) ∧ Aside0 (kq ≤ k) ∧ Aside0 (Below w.heap.size w wc))
 case first =>
  have H := HC5.out
  clear HC5
  replace H := ifc H
  obtain ⟨c7, H⟩ | ⟨c7, H⟩ := H
  rotate_left
  ·have c7b0 : (t164 == 0) = false := beq_eq_false_iff_ne.mpr c7
   have c7b1 : (t164 != 0) = true := bne_iff_ne.mpr c7
   (first | rw [c7b0] | (simp only [i64_w]; rw [c7b0]) | skip)
   simp only [Option.some.injEq, Prod.mk.injEq] at H
   obtain ⟨rfl, rfl⟩ := H
   go_wp2
   go_ret2
   exact ⟨_, es, by first | exact Kd.R_nil _ _ _ _ _ | exact Kd.N_nil _ _ _ _ _ | exact Kd.V_nil _ _ _ _ _ | exact Kd.Q_nil _ _ _ _ _ | exact Kd.S_nil _ _ _ _ _, bw⟩
  have c7b0 : (t164 == 0) = true := beq_iff_eq.mpr c7
  have c7b1 : (t164 != 0) = false := bne_eq_false_iff_eq.mpr c7
  clear c7
  (first | rw [c7b0] | (simp only [i64_w]; rw [c7b0]) | skip)
  replace H := bd H
  obtain ⟨t165, A8, H⟩ := H
  by_cases c9 : t165 = true
  rotate_left
  ·replace c9 := Bool.eq_false_iff.mpr c9
   subst c9
   rw [if_neg (show ¬ (false = true) by decide)] at H
   simp only [Option.some.injEq, Prod.mk.injEq] at H
   obtain ⟨rfl, rfl⟩ := H
   go_wp2_with (first | ((with_reducible refine gate_callee (f := 27) rfl ?_); refine goesL_ (some 21) rfl rfl Tryz.func27 kr rfl #[.string a2] rfl ar ?_; (with_reducible refine (ean_digits.calls a2 false _ A8.out).mono ?_); rintro e w17 ⟨rfl, hb⟩; refine ⟨_, rfl, ?_⟩; replace HB := Aside0.mk (below_step bw hb); clear hb))
   go_ret2
   exact ⟨_, es, by first | exact Kd.R_nil _ _ _ _ _ | exact Kd.N_nil _ _ _ _ _ | exact Kd.V_nil _ _ _ _ _ | exact Kd.Q_nil _ _ _ _ _ | exact Kd.S_nil _ _ _ _ _, bw⟩
  subst c9
  rw [if_pos rfl] at H
  replace H := ifc H
  obtain ⟨c10, H⟩ | ⟨c10, H⟩ := H
  ·have c10b0 : ((a2.size : Int) == 0) = true := beq_iff_eq.mpr c10
   have c10b1 : ((a2.size : Int) != 0) = false := bne_eq_false_iff_eq.mpr c10
   clear c10
   have H' := Aside0.mk H
   clear H
   go_wp2_with (first | ((with_reducible refine gate_callee (f := 27) rfl ?_); refine goesL_ (some 21) rfl rfl Tryz.func27 kr rfl #[.string a2] rfl ar ?_; (with_reducible refine (ean_digits.calls a2 true _ A8.out).mono ?_); rintro e w11 ⟨rfl, hb⟩; refine ⟨_, rfl, ?_⟩; replace HB := Aside0.mk (below_step bw hb); clear hb))
   go_meet
   case rel => exact ⟨_, H', ⟨la⟩, ⟨bw⟩⟩
  have c10b0 : ((a2.size : Int) == 0) = false := beq_eq_false_iff_ne.mpr c10
  have c10b1 : ((a2.size : Int) != 0) = true := bne_iff_ne.mpr c10
  replace H := ifc H
  obtain ⟨c12, H⟩ | ⟨c12, H⟩ := H
  ·have c12b0 : ((a2.size : Int) == 2) = true := beq_iff_eq.mpr c12
   have c12b1 : ((a2.size : Int) != 2) = false := bne_eq_false_iff_eq.mpr c12
   clear c12
   have H' := Aside0.mk H
   clear H
   go_wp2_with (first | ((with_reducible refine gate_callee (f := 27) rfl ?_); refine goesL_ (some 21) rfl rfl Tryz.func27 kr rfl #[.string a2] rfl ar ?_; (with_reducible refine (ean_digits.calls a2 true _ A8.out).mono ?_); rintro e w13 ⟨rfl, hb⟩; refine ⟨_, rfl, ?_⟩; replace HB := Aside0.mk (below_step bw hb); clear hb))
   go_meet
   case rel => exact ⟨_, H', ⟨la⟩, ⟨bw⟩⟩
  have c12b0 : ((a2.size : Int) == 2) = false := beq_eq_false_iff_ne.mpr c12
  have c12b1 : ((a2.size : Int) != 2) = true := bne_iff_ne.mpr c12
  replace H := ifc H
  obtain ⟨c14, H⟩ | ⟨c14, H⟩ := H
  ·have c14b0 : ((a2.size : Int) == 5) = true := beq_iff_eq.mpr c14
   have c14b1 : ((a2.size : Int) != 5) = false := bne_eq_false_iff_eq.mpr c14
   clear c14
   have H' := Aside0.mk H
   clear H
   go_wp2_with (first | ((with_reducible refine gate_callee (f := 27) rfl ?_); refine goesL_ (some 21) rfl rfl Tryz.func27 kr rfl #[.string a2] rfl ar ?_; (with_reducible refine (ean_digits.calls a2 true _ A8.out).mono ?_); rintro e w15 ⟨rfl, hb⟩; refine ⟨_, rfl, ?_⟩; replace HB := Aside0.mk (below_step bw hb); clear hb))
   go_meet
   case rel => exact ⟨_, H', ⟨la⟩, ⟨bw⟩⟩
  have c14b0 : ((a2.size : Int) == 5) = false := beq_eq_false_iff_ne.mpr c14
  have c14b1 : ((a2.size : Int) != 5) = true := bne_iff_ne.mpr c14
  simp only [Option.some.injEq, Prod.mk.injEq] at H
  obtain ⟨rfl, rfl⟩ := H
  go_wp2_with (first | ((with_reducible refine gate_callee (f := 27) rfl ?_); refine goesL_ (some 21) rfl rfl Tryz.func27 kr rfl #[.string a2] rfl ar ?_; (with_reducible refine (ean_digits.calls a2 true _ A8.out).mono ?_); rintro e w16 ⟨rfl, hb⟩; refine ⟨_, rfl, ?_⟩; replace HB := Aside0.mk (below_step bw hb); clear hb))
  go_ret2
  exact ⟨_, es, by first | exact Kd.R_nil _ _ _ _ _ | exact Kd.N_nil _ _ _ _ _ | exact Kd.V_nil _ _ _ _ _ | exact Kd.Q_nil _ _ _ _ _ | exact Kd.S_nil _ _ _ _ _, bw⟩
 case rest =>
  clear HC5
  obtain ⟨kq, HA, HJ4, HB⟩ := hcut
  cases kq with
  | zero => exact absurd HA.out (by simp [ean_Encode.j0])
  | succ kj4 =>
   have H := HA.out
   clear HA
   simp only [ean_Encode.j0] at H
   replace H := bd H
   obtain ⟨⟨t166, t167⟩, A18, H⟩ := H
   replace H := bd H
   obtain ⟨t168, A19, H⟩ := H
   replace H := bd H
   obtain ⟨t169, A20, H⟩ := H
   replace H := ifc H
   obtain ⟨c21, H⟩ | ⟨c21, H⟩ := H
   rotate_left
   ·exact absurd H (by simp)
   have c21b0 := eq_true c21
   try have c21b0s := s1 c21b0
   have c21b1 : decide (t168.size + t169.size ≤ 9223372036854775807) = true := decide_eq_true c21
   try have c21b2 : (9223372036854775807 < t168.size + t169.size) = False := eq_false (Nat.not_lt.2 c21)
   replace H := ifc H
   obtain ⟨c22, H⟩ | ⟨c22, H⟩ := H
   ·have c22b0 : (a2.toList == ([] : List UInt8)) = true := beq_iff_eq.mpr c22
    have c22b1 : (a2.toList != ([] : List UInt8)) = false := bne_eq_false_iff_eq.mpr c22
    clear c22
    replace H := bd H
    obtain ⟨t170, A23, H⟩ := H
    replace H := ifn H
    obtain ⟨c24, H⟩ := H
    have c24b0 := eq_true c24
    try have c24b0s := s1 c24b0
    have c24b1 : decide ((t168 ++ t169).size + t170.size ≤ 9223372036854775807) = true := decide_eq_true c24
    try have c24b1s := s4 c24b1
    try have c24b1t := s3 c24b1
    try have c24b2 : (9223372036854775807 < (t168 ++ t169).size + t170.size) = False := eq_false (Nat.not_lt.2 c24)
    try have c24b2s := s2 c24b2
    replace H := bd H
    obtain ⟨t171, A25, H⟩ := H
    simp only [Option.some.injEq, Prod.mk.injEq] at H
    obtain ⟨rfl, rfl⟩ := H
    go_wp2_with (first | ((with_reducible refine gate_callee (f := 28) rfl ?_); refine goesL_ (some 39) rfl rfl Tryz.func28 kr rfl #[.int .i64 a0] rfl ar ?_; (with_reducible refine (ean_margins.calls a0 t166 t167 _ A18.out).mono ?_); rintro e w' ⟨rfl, ⟨nd, rfl⟩⟩; refine ⟨_, rfl, ?_⟩) | ((with_reducible refine gate_callee (f := 29) rfl ?_); refine goesL_ (some 43) rfl rfl Tryz.func29 kr rfl #[.string (⟨#[48]⟩ : ByteArray), .int .i64 t166] rfl ar ?_; (with_reducible refine (strings_Repeat.calls (⟨#[48]⟩ : ByteArray) t166 t168 _ A19.out).mono ?_); rintro e w26 ⟨rfl, hb⟩; refine ⟨_, rfl, ?_⟩; replace HB := Aside0.mk (below_step bw hb); clear hb) | ((with_reducible refine gate_callee (f := 30) rfl ?_); refine goesL_ (some 46) rfl rfl Tryz.func30 kr rfl #[.int .i64 a0, .string a1] rfl ar ?_; (with_reducible refine (ean_symbol.calls kj4 a0 a1 t169 _ A20.out).mono ?_); rintro e w27 ⟨rfl, hb⟩; refine ⟨_, rfl, ?_⟩; replace HB := Aside0.mk (below_step bw hb); clear hb) | ((with_reducible refine gate_callee (f := 29) rfl ?_); refine goesL_ (some 61) rfl rfl Tryz.func29 kr rfl #[.string (⟨#[48]⟩ : ByteArray), .int .i64 t167] rfl ar ?_; (with_reducible refine (strings_Repeat.calls (⟨#[48]⟩ : ByteArray) t167 t170 _ A23.out).mono ?_); rintro e w28 ⟨rfl, hb⟩; refine ⟨_, rfl, ?_⟩; replace HB := Aside0.mk (below_step bw hb); clear hb) | ((with_reducible refine gate_callee (f := 33) rfl ?_); refine goesL_ (some 63) rfl rfl Tryz.func33 kr rfl #[.string ((t168 ++ t169) ++ t170)] rfl ar ?_; (with_reducible refine (ean_modules.calls kj4 ((t168 ++ t169) ++ t170) t171 _ A25.out).mono ?_); rintro e w29 ⟨v172, rfl, ho0, hb⟩; refine ⟨_, rfl, ?_⟩; have n0_ := Aside0.mk (Kd.R_lower ho0 (below_size bw)); have n1_ := Aside0.mk (below_step bw hb); clear HB; have HO173 := n0_; have HB := n1_; clear n0_ n1_; clear hb; (try clear ho0)))
    go_ret2
    exact ⟨_, es, kd HO173, bw⟩
   have c22b0 : (a2.toList == ([] : List UInt8)) = false := beq_eq_false_iff_ne.mpr c22
   have c22b1 : (a2.toList != ([] : List UInt8)) = true := bne_iff_ne.mpr c22
   replace H := bd H
   obtain ⟨t174, A30, H⟩ := H
   replace H := ifn H
   obtain ⟨c31, H⟩ := H
   have c31b0 := eq_true c31
   try have c31b0s := s1 c31b0
   have c31b1 : decide (t174.size + 4 ≤ 9223372036854775807) = true := decide_eq_true c31
   try have c31b2 : (9223372036854775807 < t174.size + 4) = False := eq_false (Nat.not_lt.2 c31)
   replace H := bd H
   obtain ⟨t175, A32, H⟩ := H
   replace H := bd H
   obtain ⟨t176, A33, H⟩ := H
   by_cases c34 : (t174 ++ (⟨#[49, 48, 49, 49]⟩ : ByteArray)).size + t176.size ≤ 9223372036854775807
   rotate_left
   ·rw [if_neg c34] at H
    exact absurd H (by simp)
   rw [if_pos c34] at H
   have c34b0 := eq_true c34
   try have c34b0s := s1 c34b0
   have c34b1 : decide ((t174 ++ (⟨#[49, 48, 49, 49]⟩ : ByteArray)).size + t176.size ≤ 9223372036854775807) = true := decide_eq_true c34
   try have c34b1s := s4 c34b1
   try have c34b1t := s3 c34b1
   try have c34b2 : (9223372036854775807 < (t174 ++ (⟨#[49, 48, 49, 49]⟩ : ByteArray)).size + t176.size) = False := eq_false (Nat.not_lt.2 c34)
   try have c34b2s := s2 c34b2
   replace H := ifn H
   obtain ⟨c35, H⟩ := H
   have c35b0 := eq_true c35
   try have c35b0s := s1 c35b0
   have c35b1 : decide ((t168 ++ t169).size + ((t174 ++ (⟨#[49, 48, 49, 49]⟩ : ByteArray)) ++ t176).size ≤ 9223372036854775807) = true := decide_eq_true c35
   try have c35b1s := s4 c35b1
   try have c35b1t := s3 c35b1
   try have c35b2 : (9223372036854775807 < (t168 ++ t169).size + ((t174 ++ (⟨#[49, 48, 49, 49]⟩ : ByteArray)) ++ t176).size) = False := eq_false (Nat.not_lt.2 c35)
   try have c35b2s := s2 c35b2
   replace H := bd H
   obtain ⟨t177, A36, H⟩ := H
   by_cases c37 : ((t168 ++ t169) ++ ((t174 ++ (⟨#[49, 48, 49, 49]⟩ : ByteArray)) ++ t176)).size + t177.size ≤ 9223372036854775807
   rotate_left
   ·rw [if_neg c37] at H
    exact absurd H (by simp)
   rw [if_pos c37] at H
   have c37b0 := eq_true c37
   try have c37b0s := s1 c37b0
   have c37b1 : decide (((t168 ++ t169) ++ ((t174 ++ (⟨#[49, 48, 49, 49]⟩ : ByteArray)) ++ t176)).size + t177.size ≤ 9223372036854775807) = true := decide_eq_true c37
   try have c37b1s := s4 c37b1
   try have c37b1t := s3 c37b1
   try have c37b2 : (9223372036854775807 < ((t168 ++ t169) ++ ((t174 ++ (⟨#[49, 48, 49, 49]⟩ : ByteArray)) ++ t176)).size + t177.size) = False := eq_false (Nat.not_lt.2 c37)
   try have c37b2s := s2 c37b2
   replace H := bd H
   obtain ⟨t178, A38, H⟩ := H
   simp only [Option.some.injEq, Prod.mk.injEq] at H
   obtain ⟨rfl, rfl⟩ := H
   go_wp2_with (first | ((with_reducible refine gate_callee (f := 28) rfl ?_); refine goesL_ (some 39) rfl rfl Tryz.func28 kr rfl #[.int .i64 a0] rfl ar ?_; (with_reducible refine (ean_margins.calls a0 t166 t167 _ A18.out).mono ?_); rintro e w' ⟨rfl, ⟨nd, rfl⟩⟩; refine ⟨_, rfl, ?_⟩) | ((with_reducible refine gate_callee (f := 29) rfl ?_); refine goesL_ (some 43) rfl rfl Tryz.func29 kr rfl #[.string (⟨#[48]⟩ : ByteArray), .int .i64 t166] rfl ar ?_; (with_reducible refine (strings_Repeat.calls (⟨#[48]⟩ : ByteArray) t166 t168 _ A19.out).mono ?_); rintro e w39 ⟨rfl, hb⟩; refine ⟨_, rfl, ?_⟩; replace HB := Aside0.mk (below_step bw hb); clear hb) | ((with_reducible refine gate_callee (f := 30) rfl ?_); refine goesL_ (some 46) rfl rfl Tryz.func30 kr rfl #[.int .i64 a0, .string a1] rfl ar ?_; (with_reducible refine (ean_symbol.calls kj4 a0 a1 t169 _ A20.out).mono ?_); rintro e w40 ⟨rfl, hb⟩; refine ⟨_, rfl, ?_⟩; replace HB := Aside0.mk (below_step bw hb); clear hb) | ((with_reducible refine gate_callee (f := 29) rfl ?_); refine goesL_ (some 51) rfl rfl Tryz.func29 kr rfl #[.string (⟨#[48]⟩ : ByteArray), .int .i64 9] rfl ar ?_; (with_reducible refine (strings_Repeat.calls (⟨#[48]⟩ : ByteArray) 9 t174 _ A30.out).mono ?_); rintro e w41 ⟨rfl, hb⟩; refine ⟨_, rfl, ?_⟩; replace HB := Aside0.mk (below_step bw hb); clear hb) | ((with_reducible refine gate_callee (f := 32) rfl ?_); refine goesL_ (some 55) rfl rfl Tryz.func32 kr rfl #[.string a2] rfl ar ?_; (with_reducible refine (ean_setsOf.calls kj4 a2 t175 _ A32.out).mono ?_); rintro e w42 ⟨rfl, hb⟩; refine ⟨_, rfl, ?_⟩; replace HB := Aside0.mk (below_step bw hb); clear hb) | ((with_reducible refine gate_callee (f := 31) rfl ?_); refine goesL_ (some 56) rfl rfl Tryz.func31 kr rfl #[.string a2, .string t175, .string (⟨#[48, 49]⟩ : ByteArray)] rfl ar ?_; (with_reducible refine (ean_drawn.calls kj4 a2 t175 (⟨#[48, 49]⟩ : ByteArray) t176 _ A33.out).mono ?_); rintro e w43 ⟨rfl, hb⟩; refine ⟨_, rfl, ?_⟩; replace HB := Aside0.mk (below_step bw hb); clear hb) | ((with_reducible refine gate_callee (f := 29) rfl ?_); refine goesL_ (some 61) rfl rfl Tryz.func29 kr rfl #[.string (⟨#[48]⟩ : ByteArray), .int .i64 7] rfl ar ?_; (with_reducible refine (strings_Repeat.calls (⟨#[48]⟩ : ByteArray) 7 t177 _ A36.out).mono ?_); rintro e w44 ⟨rfl, hb⟩; refine ⟨_, rfl, ?_⟩; replace HB := Aside0.mk (below_step bw hb); clear hb) | ((with_reducible refine gate_callee (f := 33) rfl ?_); refine goesL_ (some 63) rfl rfl Tryz.func33 kr rfl #[.string (((t168 ++ t169) ++ ((t174 ++ (⟨#[49, 48, 49, 49]⟩ : ByteArray)) ++ t176)) ++ t177)] rfl ar ?_; (with_reducible refine (ean_modules.calls kj4 (((t168 ++ t169) ++ ((t174 ++ (⟨#[49, 48, 49, 49]⟩ : ByteArray)) ++ t176)) ++ t177) t178 _ A38.out).mono ?_); rintro e w45 ⟨v179, rfl, ho0, hb⟩; refine ⟨_, rfl, ?_⟩; have n0_ := Aside0.mk (Kd.R_lower ho0 (below_size bw)); have n1_ := Aside0.mk (below_step bw hb); clear HB; have HO180 := n0_; have HB := n1_; clear n0_ n1_; clear hb; (try clear ho0)))
   go_ret2
   exact ⟨_, es, kd HO180, bw⟩

end Go.Proofs.YtjmeekceecpemaaGreatDoor.Q

namespace Go.Proofs.YtjmeekceecpemaaGreatDoor.Q
open Go.RowKit Go.Proofs.YtjmeekceecpemaaGreatDoorW.PrintWords Go.Proofs.YtjmeekceecpemaaGreatDoorW.PrintLast Go.Proofs.YtjmeekceecpemaaGreatDoorW.PrintMore

set_option linter.unusedVariables false
set_option linter.unusedSimpArgs false

/-! ### ean_text: function 41 -/
def ean_text.l0 : Nat → List Int → List Bool → Int → Int → Option (ByteArray)
 | 0, _, _, _, _ => none
 | k + 1, x3, x9, x10, x11 => if x11 < x10 then (if 0 ≤ x11 then (if x11 < (x9.length : Int) then (if x11 < (x3.length : Int) then ((some (x3.set (x11 : Int).toNat 48 : List Int)).bind fun y377 => (if rdOf false x9 x11 = true then (ean_text.l0 k (y377.set (x11 : Int).toNat 49) x9 x10 (wrap64 (x11 + 1))) else (ean_text.l0 k y377 x9 x10 (wrap64 (x11 + 1))))) else (none)) else (none)) else (none)) else (some (strOfNums x3))
def ean_text.f (k : Nat) (l0 : List Bool) : Option (ByteArray) := if 0 ≤ (l0.length : Int) then (if ((l0.length : Int) : Int).toNat ≤ 281474976710656 then (ean_text.l0 k (List.replicate ((l0.length : Int) : Int).toNat 0) l0 (l0.length : Int) 0) else (none)) else (none)
theorem ean_text.mono_l : ∀ k, (∀ y0 y1 y2 y3, LeO (ean_text.l0 k y0 y1 y2 y3) (ean_text.l0 (k + 1) y0 y1 y2 y3))
 | 0 => fun _ _ _ _ r h => by simp [ean_text.l0] at h
 | k + 1 => by
  have ih0 := ean_text.mono_l k
  ·intro y0 y1 y2 y3
   unfold ean_text.l0
   repeat' with_reducible first | exact ih0 _ _ _ _ | exact LeO.refl _ | exact LeO.none _ | refine LeO.ite ?_ ?_ | refine LeO.bind ?_ (fun _ => ?_)
theorem ean_text.mono : ∀ a0 k, LeO (ean_text.f k a0) (ean_text.f (k + 1) a0) := by
 intro a0 k
 have ih0 := ean_text.mono_l k
 unfold ean_text.f
 repeat' with_reducible first | exact ih0 _ _ _ _ | exact LeO.refl _ | exact LeO.none _ | refine LeO.ite ?_ ?_ | refine LeO.bind ?_ (fun _ => ?_)
set_option maxHeartbeats 8000000 in
set_option maxRecDepth 100000 in
theorem ean_text.calls (k : Nat) (A0 : Option Addr) (c0 : Nat) (l0 : List Bool) (r : ByteArray) (w : World) (hr0 : Kd.C Kd.bool w A0 l0.length l0) (hc0 : l0.length ≤ c0) (h : ean_text.f k l0 = some r) :
  Calls Tryz.prog 41 #[.slice A0 l0.length c0] w fun e w' => e = .returned (.string r) ∧ Below w.heap.size w w' := by
 have HR0 := Aside0.mk hr0
 have HC0 := Aside0.mk hc0
 clear hr0 hc0
 have HB := Aside0.mk (Below.refl w.heap.size w)
 have H := h
 clear h
 unfold ean_text.f at H
 replace H := ifc H
 obtain ⟨c2, H⟩ | ⟨c2, H⟩ := H
 rotate_left
 ·exact absurd H (by simp)
 have c2b0 := eq_true c2
 have c2b1 : decide (0 ≤ (l0.length : Int)) = true := decide_eq_true c2
 clear c2
 replace H := ifn H
 obtain ⟨c3, H⟩ := H
 have c3b0 := eq_true c3
 have c3b1 : decide (((l0.length : Int) : Int).toNat ≤ 281474976710656) = true := decide_eq_true c3
 clear c3
 obtain ⟨y373, hy373⟩ : ∃ y_ : List Int, y_ = (List.replicate ((l0.length : Int) : Int).toNat 0) := ⟨_, rfl⟩
 replace H : (ean_text.l0 k y373 l0 (l0.length : Int) 0) = some r := by first | (rw [hy373]; with_reducible exact H) | (have H2_ := (Option.bind_some _ _).symm.trans H; rw [hy373]; with_reducible exact H2_) | (have H2_ := (Option.bind_some _ _).symm.trans H; with_reducible exact H2_) | with_reducible exact H | (rw [hy373]; exact H) | exact H
 have Ny373 := Aside0.mk hy373
 clear hy373
 have H' := Aside0.mk H
 clear H
 go_enter Tryz.func41, Tryz.ntmps41
 go_wp2_with (first | ((with_reducible refine gate_dst (N := 8) rfl ?_); refine Kd.R_make (Kd.int .u8) _ 5 rfl (N := 8) rfl 40 _ _ rfl (l0.length : Int) rfl rfl Tryz.underlying40 (.int .u8 0) 1 info5 rfl (by decide) om 0 (ok := fun _ => True) (okp := fun _ => True) rfl (fun _ hk => hk) trivial (of_decide_eq_true am) (Nat.le_trans (Nat.mul_le_mul_right _ (of_decide_eq_true am : (l0.length : Int).toNat ≤ 281474976710656)) om) (Below.refl _ _) (Nat.le_refl _) ?_; intro v374 w4 ho5 hb hg_ hnew_; clear hg_ hnew_; (first | rw [← Ny373.out] at ho5 | (simp only [Int.reduceToNat] at ho5; rw [← Ny373.out] at ho5)); have n0_ := Aside0.mk (Kd.R_lower ho5 (below_size bw)); have n1_ := Aside0.mk (below_step bw hb); clear HB; have HO375 := n0_; have HB := n1_; clear n0_ n1_; clear hb ho5))
 go_loopg [11] k (fun kq v11 w' => ∃ (x3_1 : List Int) (x11_1 : Int), v11 = .int .i64 x11_1 ∧ Aside0 (ean_text.l0 kq x3_1 l0 (l0.length : Int) x11_1 = some r) ∧ Aside0 (kq ≤ k) ∧ Aside0 (Kd.R (Kd.int .u8) 5 w' w.heap.size (fun _ => True) v374 x3_1) ∧ Aside0 (Below w.heap.size w w'))
 case atStart => exact ⟨(y373), (0), rs, H', ⟨Nat.le_refl _⟩, ⟨kd HO375⟩, ⟨bw⟩⟩
 case round =>
  clear H'
  obtain ⟨x3_1, x11_1, rfl, HA, HK1, HO_3, HB⟩ := hrel
  cases gk with
  | zero => exact absurd HA.out (by simp [ean_text.l0])
  | succ k1 =>
   have H := HA.out
   clear HA
   simp only [ean_text.l0] at H
   replace H := ifc H
   obtain ⟨c6, H⟩ | ⟨c6, H⟩ := H
   rotate_left
   ·have c6b0 : decide (x11_1 < (l0.length : Int)) = false := decide_eq_false c6
    clear c6
    obtain rfl := Option.some.inj H
    have hcv20 := own_string (P := Tryz.prog) Tryz.underlying40 Tryz.underlying5 Tryz.underlying9 (Kd.own_of_R HO_3.out)
    go_wp2
    go_ret
    exact ⟨es, bw⟩
   have c6b0 : decide (x11_1 < (l0.length : Int)) = true := decide_eq_true c6
   clear c6
   replace H := ifn H
   obtain ⟨c7, H⟩ := H
   have c7b0 : decide (0 ≤ x11_1) = true := decide_eq_true c7
   clear c7
   by_cases c8 : x11_1 < (l0.length : Int)
   rotate_left
   ·rw [if_neg c8] at H
    exact absurd H (by simp)
   rw [if_pos c8] at H
   have c8b0 : decide (x11_1 < (l0.length : Int)) = true := decide_eq_true c8
   clear c8
   replace H := ifn H
   obtain ⟨c9, H⟩ := H
   have c9b0 : decide (x11_1 < (x3_1.length : Int)) = true := decide_eq_true c9
   clear c9
   obtain ⟨y377, hy377⟩ : ∃ y_ : List Int, y_ = (x3_1.set (x11_1 : Int).toNat 48) := ⟨_, rfl⟩
   replace H : (if rdOf false l0 x11_1 = true then (ean_text.l0 k1 (y377.set (x11_1 : Int).toNat 49) l0 (l0.length : Int) (wrap64 (x11_1 + 1))) else (ean_text.l0 k1 y377 l0 (l0.length : Int) (wrap64 (x11_1 + 1)))) = some r := by first | (rw [hy377]; with_reducible exact H) | (have H2_ := (Option.bind_some _ _).symm.trans H; rw [hy377]; with_reducible exact H2_) | (have H2_ := (Option.bind_some _ _).symm.trans H; with_reducible exact H2_) | with_reducible exact H | (rw [hy377]; exact H) | exact H
   have Ny377 := Aside0.mk hy377
   clear hy377
   obtain ⟨bq11, hbq11⟩ : ∃ b_ : Bool, b_ = (rdOf false l0 x11_1) := ⟨_, rfl⟩
   replace H : (if bq11 = true then (ean_text.l0 k1 (y377.set (x11_1 : Int).toNat 49) l0 (l0.length : Int) (wrap64 (x11_1 + 1))) else (ean_text.l0 k1 y377 l0 (l0.length : Int) (wrap64 (x11_1 + 1)))) = some r := by rw [← hbq11] at H; exact H
   have Nbq11 := Aside0.mk hbq11
   clear hbq11
   by_cases c12 : bq11 = true
   rotate_left
   ·replace c12 := Bool.eq_false_iff.mpr c12
    subst c12
    rw [if_neg (show ¬ (false = true) by decide)] at H
    have H' := Aside0.mk H
    clear H
    have p376 : 0 ≤ (x11_1 : Int) := of_decide_eq_true am
    have q376 : x11_1 < (l0.length : Int) := of_decide_eq_true am
    obtain ⟨ad376, e376, hx376_0⟩ := Kd.at_bool HR0.out x11_1 p376 q376
    (try rw [← Nbq11.out] at hx376_0)
    cases e376
    replace hx376_0 := (HB.out.cell (World.block_lt_of_cell? w _ hx376_0)).trans hx376_0
    replace p376 := eq_true p376
    replace q376 := eq_true q376
    have p10 : 0 ≤ (x11_1 : Int) := of_decide_eq_true am
    have q10 : (x11_1 : Int) < ((x3_1.length : Int) : Int) := of_decide_eq_true am
    obtain ⟨go10, co10, eo10, gb10, gl10, cl10, HG10⟩ := Kd.R_form HO_3.out om
    (first | cases eo10 | (injection eo10 with ea_ en_ ec_; (first | subst ea_ | (injection ea_ with ea_; subst ea_)); subst ec_; clear en_))
    have GB10 := Aside0.mk gb10
    have GG10 := Aside0.mk HG10
    clear gb10 gl10 HG10
    obtain ⟨hx10_0, hf10_0⟩ := Kd.R_celln 0 HO_3.out (x11_1 : Int) p10 q10
    replace p10 := eq_true p10
    replace q10 := eq_true q10
    have HP18 := Kd.R_putg HO_3.out (x11_1 : Int) 48
    go_wp2_with (first | ((with_reducible refine gate_store (t := 5) (p := 18) rfl ?_); refine store_event (t := 5) (p := 18) (v := ?vo_w19) (w1 := (wr.setCell ⟨go10, (x11_1 : Int).toNat, none⟩ (.int .u8 48))) ?hg ?ho ?hn ?hr ?_; (case ho => rfl); (case hg => rfl); (case hn => rfl); (case hr => first | (go_simp; done) | (go_simp; rfl)); intro w19 hw; have hg : wr.grownBy w19 (some go10) := (by rw [hw]; exact HP18.2); have hp_ : Kd.R (Kd.int .u8) 5 w19 w.heap.size (fun _ => True) (.slice (some ⟨go10, 0, none⟩) x3_1.length co10) y377 := (by rw [hw, Ny377.out]; exact HP18.1); clear HP18; replace HO_3 := Aside0.mk (hp_); replace HB := Aside0.mk ((by rw [hw]; exact below_set (HB.out) GB10.out : Below w.heap.size w w19)); clear hg hw hp_))
    go_roundg k1
    case measure => have := HK1.out; omega
    case rel => exact ⟨(y377), (wrap64 (x11_1 + 1)), rs, H', ⟨by have := HK1.out; omega⟩, ⟨kd HO_3⟩, ⟨bw⟩⟩
   subst c12
   rw [if_pos rfl] at H
   obtain ⟨y378, hy378⟩ : ∃ y_ : List Int, y_ = (y377.set (x11_1 : Int).toNat 49) := ⟨_, rfl⟩
   replace H : (ean_text.l0 k1 y378 l0 (l0.length : Int) (wrap64 (x11_1 + 1))) = some r := by first | (rw [hy378]; with_reducible exact H) | (have H2_ := (Option.bind_some _ _).symm.trans H; rw [hy378]; with_reducible exact H2_) | (have H2_ := (Option.bind_some _ _).symm.trans H; with_reducible exact H2_) | with_reducible exact H | (rw [hy378]; exact H) | exact H
   have Ny378 := Aside0.mk hy378
   clear hy378
   have H' := Aside0.mk H
   clear H
   have p376 : 0 ≤ (x11_1 : Int) := of_decide_eq_true am
   have q376 : x11_1 < (l0.length : Int) := of_decide_eq_true am
   obtain ⟨ad376, e376, hx376_0⟩ := Kd.at_bool HR0.out x11_1 p376 q376
   (try rw [← Nbq11.out] at hx376_0)
   cases e376
   replace hx376_0 := (HB.out.cell (World.block_lt_of_cell? w _ hx376_0)).trans hx376_0
   replace p376 := eq_true p376
   replace q376 := eq_true q376
   have p10 : 0 ≤ (x11_1 : Int) := of_decide_eq_true am
   have q10 : (x11_1 : Int) < ((x3_1.length : Int) : Int) := of_decide_eq_true am
   obtain ⟨go10, co10, eo10, gb10, gl10, cl10, HG10⟩ := Kd.R_form HO_3.out om
   (first | cases eo10 | (injection eo10 with ea_ en_ ec_; (first | subst ea_ | (injection ea_ with ea_; subst ea_)); subst ec_; clear en_))
   have GB10 := Aside0.mk gb10
   have GG10 := Aside0.mk HG10
   clear gb10 gl10 HG10
   obtain ⟨hx10_0, hf10_0⟩ := Kd.R_celln 0 HO_3.out (x11_1 : Int) p10 q10
   replace p10 := eq_true p10
   replace q10 := eq_true q10
   have HP14 := Kd.R_putg HO_3.out (x11_1 : Int) 48
   go_wp2_with (first | ((with_reducible refine gate_store (t := 5) (p := 18) rfl ?_); refine store_event (t := 5) (p := 18) (v := ?vo_w15) (w1 := (wr.setCell ⟨go10, (x11_1 : Int).toNat, none⟩ (.int .u8 48))) ?hg ?ho ?hn ?hr ?_; (case ho => rfl); (case hg => rfl); (case hn => rfl); (case hr => first | (go_simp; done) | (go_simp; rfl)); intro w15 hw; have hg : wr.grownBy w15 (some go10) := (by rw [hw]; exact HP14.2); have hp_ : Kd.R (Kd.int .u8) 5 w15 w.heap.size (fun _ => True) (.slice (some ⟨go10, 0, none⟩) x3_1.length co10) y377 := (by rw [hw, Ny377.out]; exact HP14.1); clear HP14; replace HO_3 := Aside0.mk (hp_); replace HB := Aside0.mk ((by rw [hw]; exact below_set (HB.out) GB10.out : Below w.heap.size w w15)); clear hg hw hp_; have p13 : 0 ≤ (x11_1 : Int) := of_decide_eq_true am; have q13 : (x11_1 : Int) < ((x3_1.length : Int) : Int) := of_decide_eq_true am; obtain ⟨hx13_0, hf13_0⟩ := Kd.R_celln 0 HO_3.out (x11_1 : Int) p13 q13; replace p13 := eq_true p13; replace q13 := eq_true q13; obtain ⟨hy16_, hz16_⟩ := Kd.R_celln 0 HO_3.out (x11_1 : Int) (of_decide_eq_true am) (of_decide_eq_true am); have HP16 := Kd.R_putg HO_3.out (x11_1 : Int) 49) | ((with_reducible refine gate_store (t := 5) (p := 22) rfl ?_); refine store_event (t := 5) (p := 22) (v := ?vo_w17) (w1 := (w15.setCell ⟨go10, (x11_1 : Int).toNat, none⟩ (.int .u8 49))) ?hg ?ho ?hn ?hr ?_; (case ho => rfl); (case hg => rfl); (case hn => rfl); (case hr => first | (go_simp; done) | (go_simp; rfl)); intro w17 hw; have hg : w15.grownBy w17 (some go10) := (by rw [hw]; exact HP16.2); have hp_ : Kd.R (Kd.int .u8) 5 w17 w.heap.size (fun _ => True) (.slice (some ⟨go10, 0, none⟩) x3_1.length co10) y378 := (by rw [hw, Ny378.out]; exact HP16.1); clear HP16; replace HO_3 := Aside0.mk (hp_); replace HB := Aside0.mk ((by rw [hw]; exact below_set (HB.out) GB10.out : Below w.heap.size w w17)); clear hg hw hp_))
   go_roundg k1
   case measure => have := HK1.out; omega
   case rel => exact ⟨(y378), (wrap64 (x11_1 + 1)), rs, H', ⟨by have := HK1.out; omega⟩, ⟨kd HO_3⟩, ⟨bw⟩⟩

end Go.Proofs.YtjmeekceecpemaaGreatDoor.Q

namespace Go.Proofs.YtjmeekceecpemaaGreatDoor.Q
open Go.RowKit Go.Proofs.YtjmeekceecpemaaGreatDoorW.PrintWords Go.Proofs.YtjmeekceecpemaaGreatDoorW.PrintLast Go.Proofs.YtjmeekceecpemaaGreatDoorW.PrintMore

set_option linter.unusedVariables false
set_option linter.unusedSimpArgs false

/-! ### ean_readDigits: function 106 -/
mutual
def ean_readDigits.l0 : Nat → ByteArray → ByteArray → Int → ByteArray → ByteArray → Int → Option (ByteArray × ByteArray × Bool)
 | 0, _, _, _, _, _, _ => none
 | k + 1, x0, x1, x2, x6, x7, x9 => if (wrap64 (x9 + 7)) ≤ (x0.size : Int) then (ean_readDigits.l1 k x0 x1 x2 x6 x7 x9 false (wrap64 (10 * (x1.size : Int))) 0) else (some (x6, x7, true))
def ean_readDigits.l1 : Nat → ByteArray → ByteArray → Int → ByteArray → ByteArray → Int → Bool → Int → Int → Option (ByteArray × ByteArray × Bool)
 | 0, _, _, _, _, _, _, _, _, _ => none
 | k + 1, x0, x1, x2, x6, x7, x9, x10, x24, x25 => if x25 < x24 then (if 0 ≤ (wrap64 (Int.tdiv x25 10)) then (if (wrap64 (Int.tdiv x25 10)) < (x1.size : Int) then ((ean_pattern.f ((wrap64 (48 + (Int.tmod x25 10))) % 256) (bt x1 (wrap64 (Int.tdiv x25 10)))).bind fun t379 => (if 0 ≤ x9 then (if x9 ≤ (wrap64 (x9 + 7)) then (if (wrap64 (x9 + 7)) ≤ (x0.size : Int) then (if t379.toList = (x0.extract (x9 : Int).toNat ((wrap64 (x9 + 7)) : Int).toNat).toList then ((some (([(wrap64 (48 + (Int.tmod x25 10))) % 256] : List Int) : List Int)).bind fun y380 => (if x6.size + (strOfNums y380).size ≤ 9223372036854775807 then ((some (([bt x1 (wrap64 (Int.tdiv x25 10))] : List Int) : List Int)).bind fun y383 => (if x7.size + (strOfNums y383).size ≤ 9223372036854775807 then (ean_readDigits.l0 k x0 x1 x2 (x6 ++ (strOfNums y380)) (x7 ++ (strOfNums y383)) (wrap64 (x9 + x2))) else (none))) else (none))) else (ean_readDigits.l1 k x0 x1 x2 x6 x7 x9 x10 x24 (wrap64 (x25 + 1)))) else (none)) else (none)) else (none))) else (none)) else (none)) else (if x10 = true then (ean_readDigits.l0 k x0 x1 x2 x6 x7 (wrap64 (x9 + x2))) else (some ((⟨#[]⟩ : ByteArray), (⟨#[]⟩ : ByteArray), false)))
end
def ean_readDigits.f (k : Nat) (a0 : ByteArray) (a1 : ByteArray) (a2 : Int) : Option (ByteArray × ByteArray × Bool) := ean_readDigits.l0 k a0 a1 a2 (⟨#[]⟩ : ByteArray) (⟨#[]⟩ : ByteArray) 0
theorem ean_readDigits.mono_l : ∀ k, (∀ y0 y1 y2 y3 y4 y5, LeO (ean_readDigits.l0 k y0 y1 y2 y3 y4 y5) (ean_readDigits.l0 (k + 1) y0 y1 y2 y3 y4 y5)) ∧ (∀ y0 y1 y2 y3 y4 y5 y6 y7 y8, LeO (ean_readDigits.l1 k y0 y1 y2 y3 y4 y5 y6 y7 y8) (ean_readDigits.l1 (k + 1) y0 y1 y2 y3 y4 y5 y6 y7 y8))
 | 0 => ⟨fun _ _ _ _ _ _ r h => by simp [ean_readDigits.l0] at h, fun _ _ _ _ _ _ _ _ _ r h => by simp [ean_readDigits.l1] at h⟩
 | k + 1 => by
  obtain ⟨ih0, ih1⟩ := ean_readDigits.mono_l k
  refine ⟨?_, ?_⟩
  ·intro y0 y1 y2 y3 y4 y5
   unfold ean_readDigits.l0
   repeat' with_reducible first | exact ih0 _ _ _ _ _ _ | exact ih1 _ _ _ _ _ _ _ _ _ | exact LeO.refl _ | exact LeO.none _ | refine LeO.ite ?_ ?_ | refine LeO.bind ?_ (fun _ => ?_)
  ·intro y0 y1 y2 y3 y4 y5 y6 y7 y8
   unfold ean_readDigits.l1
   repeat' with_reducible first | exact ih0 _ _ _ _ _ _ | exact ih1 _ _ _ _ _ _ _ _ _ | exact LeO.refl _ | exact LeO.none _ | refine LeO.ite ?_ ?_ | refine LeO.bind ?_ (fun _ => ?_)
theorem ean_readDigits.mono : ∀ a0 a1 a2 k, LeO (ean_readDigits.f k a0 a1 a2) (ean_readDigits.f (k + 1) a0 a1 a2) := by
 intro a0 a1 a2 k
 obtain ⟨ih0, ih1⟩ := ean_readDigits.mono_l k
 unfold ean_readDigits.f
 repeat' with_reducible first | exact ih0 _ _ _ _ _ _ | exact ih1 _ _ _ _ _ _ _ _ _ | exact LeO.refl _ | exact LeO.none _ | refine LeO.ite ?_ ?_ | refine LeO.bind ?_ (fun _ => ?_)
def ean_readDigits.T8 : Bool × List (List Nat × List Nat) := (true, [([], []), ([0], [0]), ([1], [1]), ([2], [2]), ([], []), ([], []), ([5], [5]), ([4, 6], [4, 6]), ([3, 0, 1, 2, 3], [3]), ([7, 8, 0, 1, 2, 3, 4, 5, 6, 7, 8], [7])])
def ean_readDigits.B8 : List Nat := [0, 1, 3, 7, 0, 0, 32, 112, 15, 511]
theorem ean_readDigits.tab8 : rtab .any (opsOf Tryz.f106 8) = ean_readDigits.T8 := kr
theorem ean_readDigits.bits8 : waitsOk ean_readDigits.T8.2 ean_readDigits.B8 = true := kr
def ean_readDigits.T9 : Bool × List (List Nat × List Nat) := (true, [([], []), ([], []), ([0, 1], [0, 1]), ([], []), ([], []), ([], []), ([5], [5]), ([3, 4, 6], [3, 4, 6]), ([2, 7], [2, 7])])
def ean_readDigits.B9 : List Nat := [0, 0, 3, 0, 0, 0, 32, 120, 255]
theorem ean_readDigits.tab9 : rtab .any (opsOf Tryz.f106 9) = ean_readDigits.T9 := kr
theorem ean_readDigits.bits9 : waitsOk ean_readDigits.T9.2 ean_readDigits.B9 = true := kr
set_option maxHeartbeats 8000000 in
set_option maxRecDepth 100000 in
theorem ean_readDigits.calls (k : Nat) (a0 : ByteArray) (a1 : ByteArray) (a2 : Int) (r1 : ByteArray) (r2 : ByteArray) (r3 : Bool) (w : World) (h : ean_readDigits.f k a0 a1 a2 = some (r1, r2, r3)) :
  Calls Tryz.prog 106 #[.string a0, .string a1, .int .i64 a2] w fun e w' => e = .returned (.tuple #[.string r1, .string r2, .bool r3]) ∧ Below w.heap.size w w' := by
 have HB := Aside0.mk (Below.refl w.heap.size w)
 have H := h
 clear h
 unfold ean_readDigits.f at H
 have H' := Aside0.mk H
 clear H
 go_enter Tryz.func106, Tryz.ntmps106
 go_wp2
 go_loopg [6, 7, 9] k (fun kq v6 v7 v9 w' => ∃ (x6_1 : ByteArray) (x7_1 : ByteArray) (x9_1 : Int), v6 = .string x6_1 ∧ v7 = .string x7_1 ∧ v9 = .int .i64 x9_1 ∧ Aside0 (ean_readDigits.l0 kq a0 a1 a2 x6_1 x7_1 x9_1 = some (r1, r2, r3)) ∧ Aside0 (kq ≤ k) ∧ Aside0 (Below w.heap.size w w'))
 case atStart => exact ⟨((⟨#[]⟩ : ByteArray)), ((⟨#[]⟩ : ByteArray)), (0), rs, rs, rs, H', ⟨Nat.le_refl _⟩, ⟨bw⟩⟩
 case round =>
  clear H'
  obtain ⟨x6_1, x7_1, x9_1, rfl, rfl, rfl, HA, HK1, HB⟩ := hrel
  cases gk with
  | zero => exact absurd HA.out (by simp [ean_readDigits.l0])
  | succ k1 =>
   have H := HA.out
   clear HA
   simp only [ean_readDigits.l0] at H
   replace H := ifc H
   obtain ⟨c4, H⟩ | ⟨c4, H⟩ := H
   rotate_left
   ·have c4b0 : decide ((wrap64 (x9_1 + 7)) ≤ (a0.size : Int)) = false := decide_eq_false c4
    clear c4
    simp only [Option.some.injEq, Prod.mk.injEq] at H
    obtain ⟨rfl, rfl, rfl⟩ := H
    go_wp2
    go_ret3
    exact ⟨es, bw⟩
   have c4b0 : decide ((wrap64 (x9_1 + 7)) ≤ (a0.size : Int)) = true := decide_eq_true c4
   clear c4
   have H' := Aside0.mk H
   clear H
   go_wp2
   go_loopg [6, 7, 10, 25] k1 (fun kq v6 v7 v10 v25 w' => ∃ (x6_2 : ByteArray) (x7_2 : ByteArray) (x10_2 : Bool) (x25_2 : Int), v6 = .string x6_2 ∧ v7 = .string x7_2 ∧ v10 = .bool x10_2 ∧ v25 = .int .i64 x25_2 ∧ Aside0 (ean_readDigits.l1 kq a0 a1 a2 x6_2 x7_2 x9_1 x10_2 (wrap64 (10 * (a1.size : Int))) x25_2 = some (r1, r2, r3)) ∧ Aside0 (kq ≤ k1) ∧ Aside0 (Below w.heap.size w w'))
   case atStart => exact ⟨(x6_1), (x7_1), (false), (0), rs, rs, rs, rs, H', ⟨Nat.le_refl _⟩, ⟨bw⟩⟩
   case round =>
    clear H'
    obtain ⟨x6_2, x7_2, x10_2, x25_2, rfl, rfl, rfl, rfl, HA, HK2, HB⟩ := hrel
    cases gk with
    | zero => exact absurd HA.out (by simp [ean_readDigits.l1])
    | succ k2 =>
     have H := HA.out
     clear HA
     simp only [ean_readDigits.l1] at H
     replace H := ifc H
     obtain ⟨c5, H⟩ | ⟨c5, H⟩ := H
     rotate_left
     ·have c5b0 : decide (x25_2 < (wrap64 (10 * (a1.size : Int)))) = false := decide_eq_false c5
      clear c5
      by_cases c29 : x10_2 = true
      rotate_left
      ·replace c29 := Bool.eq_false_iff.mpr c29
       subst c29
       rw [if_neg (show ¬ (false = true) by decide)] at H
       simp only [Option.some.injEq, Prod.mk.injEq] at H
       obtain ⟨rfl, rfl, rfl⟩ := H
       go_wp2
       go_ret3
       exact ⟨es, bw⟩
      subst c29
      rw [if_pos rfl] at H
      have H' := Aside0.mk H
      clear H
      go_wp2
      go_roundg k2
      case measure => have := HK1.out; have := HK2.out; omega
      case rel => exact ⟨(x6_2), (x7_2), (wrap64 (x9_1 + a2)), rs, rs, rs, H', ⟨by have := HK1.out; have := HK2.out; omega⟩, ⟨bw⟩⟩
     have c5b0 : decide (x25_2 < (wrap64 (10 * (a1.size : Int)))) = true := decide_eq_true c5
     clear c5
     obtain ⟨ji6, hji6⟩ : ∃ j_ : Int, (wrap64 (Int.tdiv x25_2 10)) = j_ := ⟨_, rfl⟩
     replace H : (if 0 ≤ (ji6) then (if (ji6) < (a1.size : Int) then ((ean_pattern.f ((wrap64 (48 + (Int.tmod x25_2 10))) % 256) (bt a1 (ji6))).bind fun t379 => (if 0 ≤ x9_1 then (if x9_1 ≤ (wrap64 (x9_1 + 7)) then (if (wrap64 (x9_1 + 7)) ≤ (a0.size : Int) then (if t379.toList = (a0.extract (x9_1 : Int).toNat ((wrap64 (x9_1 + 7)) : Int).toNat).toList then ((some (([(wrap64 (48 + (Int.tmod x25_2 10))) % 256] : List Int) : List Int)).bind fun y380 => (if x6_2.size + (strOfNums y380).size ≤ 9223372036854775807 then ((some (([bt a1 (ji6)] : List Int) : List Int)).bind fun y383 => (if x7_2.size + (strOfNums y383).size ≤ 9223372036854775807 then (ean_readDigits.l0 k2 a0 a1 a2 (x6_2 ++ (strOfNums y380)) (x7_2 ++ (strOfNums y383)) (wrap64 (x9_1 + a2))) else (none))) else (none))) else (ean_readDigits.l1 k2 a0 a1 a2 x6_2 x7_2 x9_1 x10_2 (wrap64 (10 * (a1.size : Int))) (wrap64 (x25_2 + 1)))) else (none)) else (none)) else (none))) else (none)) else (none)) = some (r1, r2, r3) := by first | (rw [hji6] at H; exact H) | (simp only [hji6] at H ⊢; exact H)
     have hji6w : (IntKind.i64.wrap (Int.tdiv x25_2 10)) = ji6 := (i64_w _).trans hji6
     replace H := ifn H
     obtain ⟨c7, H⟩ := H
     have c7b0 : decide (0 ≤ (ji6)) = true := decide_eq_true c7
     clear c7
     by_cases c8 : (ji6) < (a1.size : Int)
     rotate_left
     ·rw [if_neg c8] at H
      exact absurd H (by simp)
     rw [if_pos c8] at H
     have c8b0 : decide ((ji6) < (a1.size : Int)) = true := decide_eq_true c8
     clear c8
     replace H := bd H
     obtain ⟨t379, A10, H⟩ := H
     replace H := ifn H
     obtain ⟨c11, H⟩ := H
     have c11b0 := eq_true c11
     have c11b1 : decide (0 ≤ x9_1) = true := decide_eq_true c11
     clear c11
     by_cases c12 : x9_1 ≤ (wrap64 (x9_1 + 7))
     rotate_left
     ·rw [if_neg c12] at H
      exact absurd H (by simp)
     rw [if_pos c12] at H
     have c12b0 := eq_true c12
     have c12b1 : decide (x9_1 ≤ (wrap64 (x9_1 + 7))) = true := decide_eq_true c12
     replace H := ifn H
     obtain ⟨c13, H⟩ := H
     have c13b0 := eq_true c13
     have c13b1 : decide ((wrap64 (x9_1 + 7)) ≤ (a0.size : Int)) = true := decide_eq_true c13
     by_cases c14 : t379.toList = (a0.extract (x9_1 : Int).toNat ((wrap64 (x9_1 + 7)) : Int).toNat).toList
     rotate_left
     ·rw [if_neg c14] at H
      have c14b0 : (t379.toList == (a0.extract (x9_1 : Int).toNat ((wrap64 (x9_1 + 7)) : Int).toNat).toList) = false := beq_eq_false_iff_ne.mpr c14
      have c14b1 : (t379.toList != (a0.extract (x9_1 : Int).toNat ((wrap64 (x9_1 + 7)) : Int).toNat).toList) = true := bne_iff_ne.mpr c14
      have H' := Aside0.mk H
      clear H
      try go_wp2
      have n0_ := Aside0.mk (below_drew1 HB.out)
      clear HB
      have HB := n0_
      clear n0_
      have p9 : 0 ≤ ((ji6) : Int) := of_decide_eq_true am
      have q9 : (ji6) < (a1.size : Int) := of_decide_eq_true am
      have hx9 := bt_at a1 (ji6)
      replace p9 := eq_true p9
      replace q9 := eq_true q9
      refine start_ (n := 10) (S := fun w' => True) (ds := []) #[false, false, false, false, false, false, false, false, false, false] kr rfl rfl trivial (fun hHeld => ?_); refine with_tabW ean_readDigits.tab8 ean_readDigits.bits8 (fun HT_ HW_ => ?_)
      generalize wr.drew = w26 at HB hHeld ⊢
      refine pu HT_ 0 28 (h := ?_)
      refine pu HT_ 1 29 (h := ?_)
      refine pu HT_ 2 30 (h := ?_)
      refine pu HT_ 3 31 (h := ?_)
      refine pu HT_ 4 32 (h := ?_)
      refine pu HT_ 5 33 (h := ?_)
      refine pu HT_ 6 34 (h := ?_)
      refine pu HT_ 8 12 (h := ?_)
      refine tk HT_ HW_ hHeld 7 35 (h := ?_)
      refine pu HT_ 9 13 (h := ?_)
      refine done_ (done_of HT_.out kr) ?_
      try go_wp2
      have n0_ := Aside0.mk (below_drew1 HB.out)
      clear HB
      have HB := n0_
      clear n0_
      refine start_ (n := 9) (S := fun w' => True) (ds := []) #[false, false, false, false, false, false, false, false, false] kr rfl rfl trivial (fun hHeld => ?_); refine with_tabW ean_readDigits.tab9 ean_readDigits.bits9 (fun HT_ HW_ => ?_)
      generalize w26.drew = w27 at HB hHeld ⊢
      refine pu HT_ 0 36 (h := ?_)
      refine pu HT_ 1 37 (h := ?_)
      refine pu HT_ 3 39 (h := ?_)
      refine pu HT_ 4 40 (h := ?_)
      refine pu HT_ 5 41 (h := ?_)
      refine pu HT_ 6 42 (h := ?_)
      refine pu HT_ 7 43 (h := ?_)
      refine on HT_ 2 38 (h := fun K hK => ?_)
      refine goes_ Tryz.func53 kr rfl #[.int .u8 ((wrap64 (48 + (Int.tmod x25_2 10))) % 256), .int .u8 (bt a1 (ji6))] (by rfl) rfl rfl (by (try simp only [List.map_toArray, List.map_cons, List.map_nil]); first | done | (simp only [hji6]; rfl) | rfl | (simp only [List.length_drop, List.length_take]; rfl)) ?_
      with_reducible refine (ean_pattern.calls ((wrap64 (48 + (Int.tmod x25_2 10))) % 256) (bt a1 (ji6)) t379 _ A10.out).mono ?_
      rintro e w28 ⟨rfl, hb⟩
      refine ⟨_, rfl, ?_⟩
      have n0_ := Aside0.mk (below_step bw hb)
      clear HB
      have HB := n0_
      clear n0_
      (try clear hb)
      (try clear hb2)
      (try clear hk)
      (try clear hi)
      refine hK.out _ _ trivial (fun hHeld => ?_)
      clear hK K
      refine nm (h := ?_)
      refine pu HT_ 8 44 (h := ?_)
      refine done_ (done_of HT_.out kr) ?_
      try go_wp2
      go_roundg k2
      case measure => have := HK1.out; have := HK2.out; omega
      case rel => exact ⟨(x6_2), (x7_2), (x10_2), (wrap64 (x25_2 + 1)), rs, rs, rs, rs, H', ⟨by have := HK1.out; have := HK2.out; omega⟩, ⟨bw⟩⟩
     rw [if_pos c14] at H
     have c14b0 : (t379.toList == (a0.extract (x9_1 : Int).toNat ((wrap64 (x9_1 + 7)) : Int).toNat).toList) = true := beq_iff_eq.mpr c14
     have c14b1 : (t379.toList != (a0.extract (x9_1 : Int).toNat ((wrap64 (x9_1 + 7)) : Int).toNat).toList) = false := bne_eq_false_iff_eq.mpr c14
     clear c14
     obtain ⟨y380, hy380⟩ : ∃ y_ : List Int, y_ = (([(wrap64 (48 + (Int.tmod x25_2 10))) % 256] : List Int)) := ⟨_, rfl⟩
     replace H : (if x6_2.size + (strOfNums y380).size ≤ 9223372036854775807 then ((some (([bt a1 (ji6)] : List Int) : List Int)).bind fun y383 => (if x7_2.size + (strOfNums y383).size ≤ 9223372036854775807 then (ean_readDigits.l0 k2 a0 a1 a2 (x6_2 ++ (strOfNums y380)) (x7_2 ++ (strOfNums y383)) (wrap64 (x9_1 + a2))) else (none))) else (none)) = some (r1, r2, r3) := by first | (rw [hy380]; with_reducible exact H) | (have H2_ := (Option.bind_some _ _).symm.trans H; rw [hy380]; with_reducible exact H2_) | (have H2_ := (Option.bind_some _ _).symm.trans H; with_reducible exact H2_) | with_reducible exact H | (rw [hy380]; exact H) | exact H
     have Ny380 := Aside0.mk hy380
     clear hy380
     replace H := ifn H
     obtain ⟨c15, H⟩ := H
     have c15b0 := eq_true c15
     have c15b1 : decide (x6_2.size + (strOfNums y380).size ≤ 9223372036854775807) = true := decide_eq_true c15
     obtain ⟨y383, hy383⟩ : ∃ y_ : List Int, y_ = (([bt a1 (ji6)] : List Int)) := ⟨_, rfl⟩
     replace H : (if x7_2.size + (strOfNums y383).size ≤ 9223372036854775807 then (ean_readDigits.l0 k2 a0 a1 a2 (x6_2 ++ (strOfNums y380)) (x7_2 ++ (strOfNums y383)) (wrap64 (x9_1 + a2))) else (none)) = some (r1, r2, r3) := by first | (rw [hy383]; with_reducible exact H) | (have H2_ := (Option.bind_some _ _).symm.trans H; rw [hy383]; with_reducible exact H2_) | (have H2_ := (Option.bind_some _ _).symm.trans H; with_reducible exact H2_) | with_reducible exact H | (rw [hy383]; exact H) | exact H
     have Ny383 := Aside0.mk hy383
     clear hy383
     by_cases c16 : x7_2.size + (strOfNums y383).size ≤ 9223372036854775807
     rotate_left
     ·rw [if_neg c16] at H
      exact absurd H (by simp)
     rw [if_pos c16] at H
     have c16b0 := eq_true c16
     have c16b1 : decide (x7_2.size + (strOfNums y383).size ≤ 9223372036854775807) = true := decide_eq_true c16
     have H' := Aside0.mk H
     clear H
     try go_wp2
     have n0_ := Aside0.mk (below_drew1 HB.out)
     clear HB
     have HB := n0_
     clear n0_
     have p9 : 0 ≤ ((ji6) : Int) := of_decide_eq_true am
     have q9 : (ji6) < (a1.size : Int) := of_decide_eq_true am
     have hx9 := bt_at a1 (ji6)
     replace p9 := eq_true p9
     replace q9 := eq_true q9
     refine start_ (n := 10) (S := fun w' => True) (ds := []) #[false, false, false, false, false, false, false, false, false, false] kr rfl rfl trivial (fun hHeld => ?_); refine with_tabW ean_readDigits.tab8 ean_readDigits.bits8 (fun HT_ HW_ => ?_)
     generalize wr.drew = w17 at HB hHeld ⊢
     refine pu HT_ 0 28 (h := ?_)
     refine pu HT_ 1 29 (h := ?_)
     refine pu HT_ 2 30 (h := ?_)
     refine pu HT_ 3 31 (h := ?_)
     refine pu HT_ 4 32 (h := ?_)
     refine pu HT_ 5 33 (h := ?_)
     refine pu HT_ 6 34 (h := ?_)
     refine pu HT_ 8 12 (h := ?_)
     refine tk HT_ HW_ hHeld 7 35 (h := ?_)
     refine pu HT_ 9 13 (h := ?_)
     refine done_ (done_of HT_.out kr) ?_
     try go_wp2
     have n0_ := Aside0.mk (below_drew1 HB.out)
     clear HB
     have HB := n0_
     clear n0_
     refine start_ (n := 9) (S := fun w' => True) (ds := []) #[false, false, false, false, false, false, false, false, false] kr rfl rfl trivial (fun hHeld => ?_); refine with_tabW ean_readDigits.tab9 ean_readDigits.bits9 (fun HT_ HW_ => ?_)
     generalize w17.drew = w18 at HB hHeld ⊢
     refine pu HT_ 0 36 (h := ?_)
     refine pu HT_ 1 37 (h := ?_)
     refine pu HT_ 3 39 (h := ?_)
     refine pu HT_ 4 40 (h := ?_)
     refine pu HT_ 5 41 (h := ?_)
     refine pu HT_ 6 42 (h := ?_)
     refine pu HT_ 7 43 (h := ?_)
     refine on HT_ 2 38 (h := fun K hK => ?_)
     refine goes_ Tryz.func53 kr rfl #[.int .u8 ((wrap64 (48 + (Int.tmod x25_2 10))) % 256), .int .u8 (bt a1 (ji6))] (by rfl) rfl rfl (by (try simp only [List.map_toArray, List.map_cons, List.map_nil]); first | done | (simp only [hji6]; rfl) | rfl | (simp only [List.length_drop, List.length_take]; rfl)) ?_
     with_reducible refine (ean_pattern.calls ((wrap64 (48 + (Int.tmod x25_2 10))) % 256) (bt a1 (ji6)) t379 _ A10.out).mono ?_
     rintro e w19 ⟨rfl, hb⟩
     refine ⟨_, rfl, ?_⟩
     have n0_ := Aside0.mk (below_step bw hb)
     clear HB
     have HB := n0_
     clear n0_
     (try clear hb)
     (try clear hb2)
     (try clear hk)
     (try clear hi)
     refine hK.out _ _ trivial (fun hHeld => ?_)
     clear hK K
     refine nm (h := ?_)
     refine pu HT_ 8 44 (h := ?_)
     refine done_ (done_of HT_.out kr) ?_
     try go_wp2_with (first | ((with_reducible refine gate_dst (N := 47) rfl ?_); refine Kd.R_lit (Kd.int .u8) _ 5 ?hg (N := 47) ?hd (xs := ([(wrap64 (48 + (Int.tmod x25_2 10))) % 256] : List Int)) (inner := [.int .u8 ((wrap64 (48 + (Int.tmod x25_2 10))) % 256)]) (ok := fun _ => True) (okp := fun _ => True) ?hr ?hp (fun _ hk => hk) trivial (Below.refl _ _) (Nat.le_refl _) (by simp) ?_; (case hd => rfl); (case hg => rfl); (case hr => first | (go_simp; done) | (go_simp; rfl)); (case hp => exact (Reps.one (show Kd.M (Kd.int .u8) _ _ _ ((wrap64 (48 + (Int.tmod x25_2 10))) % 256) [.int .u8 ((wrap64 (48 + (Int.tmod x25_2 10))) % 256)] from rfl) (Reps.none _ _))); intro v381 w20 ho21 hb hg_ hnew_; clear hg_ hnew_; (first | rw [← Ny380.out] at ho21 | (simp only [Int.reduceToNat] at ho21; rw [← Ny380.out] at ho21)); have n0_ := Aside0.mk (Kd.R_lower ho21 (below_size bw)); have n1_ := Aside0.mk (below_step bw hb); clear HB; have HO382 := n0_; have HB := n1_; clear n0_ n1_; clear hb ho21; have hcv22 := own_string (P := Tryz.prog) Tryz.underlying40 Tryz.underlying5 Tryz.underlying9 (Kd.own_of_R HO382.out)) | ((with_reducible refine gate_dst (N := 52) rfl ?_); refine Kd.R_lit (Kd.int .u8) _ 5 ?hg (N := 52) ?hd (xs := ([bt a1 (ji6)] : List Int)) (inner := [.int .u8 (bt a1 (ji6))]) (ok := fun _ => True) (okp := fun _ => True) ?hr ?hp (fun _ hk => hk) trivial (Below.refl _ _) (Nat.le_refl _) (by simp) ?_; (case hd => rfl); (case hg => rfl); (case hr => first | (go_simp; done) | (go_simp; rfl)); (case hp => exact (Reps.one (show Kd.M (Kd.int .u8) _ _ _ (bt a1 (ji6)) [.int .u8 (bt a1 (ji6))] from rfl) (Reps.none _ _))); intro v384 w23 ho24 hb hg_ hnew_; clear hg_ hnew_; (first | rw [← Ny383.out] at ho24 | (simp only [Int.reduceToNat] at ho24; rw [← Ny383.out] at ho24)); have n0_ := Aside0.mk (Kd.R_elder' (kd HO382) (Kd.R_base ho24) hb); have n1_ := Aside0.mk (Kd.R_lower (Kd.R_new' ho24 (Kd.R_lt (kd HO382))) (below_size bw)); have n2_ := Aside0.mk (below_step bw hb); clear HO382; clear HB; have HO382 := n0_; have HO385 := n1_; have HB := n2_; clear n0_ n1_ n2_; clear hb ho24; have hcv25 := own_string (P := Tryz.prog) Tryz.underlying40 Tryz.underlying5 Tryz.underlying9 (Kd.own_of_R HO385.out)))
     go_roundg k2
     case measure => have := HK1.out; have := HK2.out; omega
     case rel => exact ⟨(x6_2 ++ (strOfNums y380)), (x7_2 ++ (strOfNums y383)), (wrap64 (x9_1 + a2)), rs, rs, rs, H', ⟨by have := HK1.out; have := HK2.out; omega⟩, ⟨bw⟩⟩

end Go.Proofs.YtjmeekceecpemaaGreatDoor.Q

namespace Go.Proofs.YtjmeekceecpemaaGreatDoor.Q
open Go.RowKit Go.Proofs.YtjmeekceecpemaaGreatDoorW.PrintWords Go.Proofs.YtjmeekceecpemaaGreatDoorW.PrintLast Go.Proofs.YtjmeekceecpemaaGreatDoorW.PrintMore

set_option linter.unusedVariables false
set_option linter.unusedSimpArgs false

/-! ### slices_Index_string_string: function 107 -/
def slices_Index_string_string.l0 : Nat → List ByteArray → ByteArray → Int → Int → Option (Int)
  | 0, _, _, _, _ => none
  | k + 1, x0, x1, x7, x8 => if x8 < x7 then (if 0 ≤ x8 then (if x8 < (x0.length : Int) then (if x1.toList = (rdOf ByteArray.empty x0 x8).toList then (some x8) else (slices_Index_string_string.l0 k x0 x1 x7 (wrap64 (x8 + 1)))) else (none)) else (none)) else (some (-1))
def slices_Index_string_string.f (k : Nat) (l0 : List ByteArray) (a1 : ByteArray) : Option (Int) := slices_Index_string_string.l0 k l0 a1 (l0.length : Int) 0
theorem slices_Index_string_string.mono_l : ∀ k, (∀ y0 y1 y2 y3, LeO (slices_Index_string_string.l0 k y0 y1 y2 y3) (slices_Index_string_string.l0 (k + 1) y0 y1 y2 y3))
  | 0 => fun _ _ _ _ r h => by simp [slices_Index_string_string.l0] at h
  | k + 1 => by
    have ih0 := slices_Index_string_string.mono_l k
    · intro y0 y1 y2 y3
      unfold slices_Index_string_string.l0
      repeat' with_reducible first | exact ih0 _ _ _ _ | exact LeO.refl _ | exact LeO.none _ | refine LeO.ite ?_ ?_ | refine LeO.bind ?_ (fun _ => ?_)
theorem slices_Index_string_string.mono : ∀ a0 a1 k, LeO (slices_Index_string_string.f k a0 a1) (slices_Index_string_string.f (k + 1) a0 a1) := by
  intro a0 a1 k
  have ih0 := slices_Index_string_string.mono_l k
  unfold slices_Index_string_string.f
  repeat' with_reducible first | exact ih0 _ _ _ _ | exact LeO.refl _ | exact LeO.none _ | refine LeO.ite ?_ ?_ | refine LeO.bind ?_ (fun _ => ?_)
set_option maxHeartbeats 8000000 in
set_option maxRecDepth 100000 in
theorem slices_Index_string_string.calls (k : Nat) (A0 : Option Addr) (c0 : Nat) (l0 : List ByteArray) (a1 : ByteArray) (r : Int) (w : World) (hr0 : Kd.C Kd.string w A0 l0.length l0) (hc0 : l0.length ≤ c0) (h : slices_Index_string_string.f k l0 a1 = some r) :
    Calls Tryz.prog 107 #[.slice A0 l0.length c0, .string a1] w fun e w' => e = .returned (.int .i64 r) ∧ Drawn0 w w' := by
 have HR0 := Aside0.mk hr0
 have HC0 := Aside0.mk hc0
 clear hr0 hc0
 have H := h
 clear h
 unfold slices_Index_string_string.f at H
 have H' := Aside0.mk H
 clear H
 go_enter Tryz.func107, Tryz.ntmps107
 go_wp2
 go_loopg [8] k (fun kq v8 w' => ∃ (x8_1 : Int), v8 = .int .i64 x8_1 ∧ Aside0 (slices_Index_string_string.l0 kq l0 a1 (l0.length : Int) x8_1 = some r) ∧ Aside0 (kq ≤ k) ∧ Drawn0 w w')
 case atStart => exact ⟨(0), rs, H', ⟨Nat.le_refl _⟩, by repeat (first | exact Drawn0.refl _ | apply Drawn0.step)⟩
 case round =>
  clear H'
  try clear c1
  try clear p2
  obtain ⟨x8_1, rfl, HA, HK1, ⟨m1, rfl⟩⟩ := hrel
  cases gk with
  | zero => exact absurd HA.out (by simp [slices_Index_string_string.l0])
  | succ k1 =>
   have H := HA.out
   clear HA
   simp only [slices_Index_string_string.l0] at H
   replace H := ifc H
   obtain ⟨c3, H⟩ | ⟨c3, H⟩ := H
   rotate_left
   ·have c3b0 : decide (x8_1 < (l0.length : Int)) = false := decide_eq_false c3
    clear c3
    obtain rfl := Option.some.inj H
    go_wp2
    go_ret
    exact ⟨rs, by repeat (first | exact Drawn0.refl _ | apply Drawn0.step)⟩
   have c3b0 : decide (x8_1 < (l0.length : Int)) = true := decide_eq_true c3
   clear c3
   replace H := ifn H
   obtain ⟨c4, H⟩ := H
   have c4b0 : decide (0 ≤ x8_1) = true := decide_eq_true c4
   clear c4
   by_cases c5 : x8_1 < (l0.length : Int)
   rotate_left
   ·rw [if_neg c5] at H
    exact absurd H (by simp)
   rw [if_pos c5] at H
   have c5b0 : decide (x8_1 < (l0.length : Int)) = true := decide_eq_true c5
   clear c5
   replace H := ifc H
   obtain ⟨c6, H⟩ | ⟨c6, H⟩ := H
   ·have c6b0 : (a1.toList == (rdOf ByteArray.empty l0 x8_1).toList) = true := beq_iff_eq.mpr c6
    have c6b1 : (a1.toList != (rdOf ByteArray.empty l0 x8_1).toList) = false := bne_eq_false_iff_eq.mpr c6
    clear c6
    obtain rfl := Option.some.inj H
    have p386 : 0 ≤ (x8_1 : Int) := of_decide_eq_true am
    have q386 : x8_1 < (l0.length : Int) := of_decide_eq_true am
    obtain ⟨ad386, e386, hx386_0⟩ := Kd.at_string HR0.out x8_1 p386 q386
    cases e386
    replace p386 := eq_true p386
    replace q386 := eq_true q386
    try have q386s := s1 q386
    go_wp2
    go_ret
    exact ⟨rs, by repeat (first | exact Drawn0.refl _ | apply Drawn0.step)⟩
   have c6b0 : (a1.toList == (rdOf ByteArray.empty l0 x8_1).toList) = false := beq_eq_false_iff_ne.mpr c6
   have c6b1 : (a1.toList != (rdOf ByteArray.empty l0 x8_1).toList) = true := bne_iff_ne.mpr c6
   have H' := Aside0.mk H
   clear H
   have p386 : 0 ≤ (x8_1 : Int) := of_decide_eq_true am
   have q386 : x8_1 < (l0.length : Int) := of_decide_eq_true am
   obtain ⟨ad386, e386, hx386_0⟩ := Kd.at_string HR0.out x8_1 p386 q386
   cases e386
   replace p386 := eq_true p386
   replace q386 := eq_true q386
   try have q386s := s1 q386
   go_wp2
   go_roundg k1
   case measure => have := HK1.out; omega
   case rel => exact ⟨(wrap64 (x8_1 + 1)), rs, H', ⟨by have := HK1.out; omega⟩, by repeat (first | exact Drawn0.refl _ | apply Drawn0.step)⟩

end Go.Proofs.YtjmeekceecpemaaGreatDoor.Q

namespace Go.Proofs.YtjmeekceecpemaaGreatDoor.Q
open Go.RowKit Go.Proofs.YtjmeekceecpemaaGreatDoorW.PrintWords Go.Proofs.YtjmeekceecpemaaGreatDoorW.PrintLast Go.Proofs.YtjmeekceecpemaaGreatDoorW.PrintMore

set_option linter.unusedVariables false
set_option linter.unusedSimpArgs false

/-! ### ean_readE: function 105 -/
mutual
def ean_readE.j0 : Nat → ByteArray → ByteArray → Bool → ByteArray → Int → Bool → Option (Int × ByteArray × ByteArray × Int)
 | 0, _, _, _, _, _, _ => none
 | k + 1, x4, x5, x6, x7, x8, x34 => if x34 = true then ((ean_parityE.f).bind fun t395 => ((ean_flipped.f x5 (⟨#[65]⟩ : ByteArray) (⟨#[66]⟩ : ByteArray)).bind fun t398 => ((slices_Index_string_string.f k t395 t398).bind fun t399 => (ean_readE.j1 k x4 x6 (⟨#[49]⟩ : ByteArray) t399)))) else (ean_readE.j1 k x4 x6 x7 x8)
def ean_readE.j1 : Nat → ByteArray → Bool → ByteArray → Int → Option (Int × ByteArray × ByteArray × Int)
 | 0, _, _, _, _ => none
 | k + 1, x4, x6, x7, x8 => if x6 = true then (ean_readE.j2 k x4 x7 x8 (decide (x8 < 0))) else (ean_readE.j2 k x4 x7 x8 true)
def ean_readE.j2 : Nat → ByteArray → ByteArray → Int → Bool → Option (Int × ByteArray × ByteArray × Int)
 | 0, _, _, _, _ => none
 | k + 1, x4, x7, x8, x44 => if x44 = true then (some (0, (⟨#[]⟩ : ByteArray), (⟨#[]⟩ : ByteArray), 18)) else (if x7.size + x4.size ≤ 9223372036854775807 then ((some (([(wrap64 (48 + x8)) % 256] : List Int) : List Int)).bind fun y400 => (if (x7 ++ x4).size + (strOfNums y400).size ≤ 9223372036854775807 then ((ean_complete.f k 4 ((x7 ++ x4) ++ (strOfNums y400))).bind fun t403 => (if t403 = 0 then (some (4, (x7 ++ x4) ++ (strOfNums y400), (⟨#[]⟩ : ByteArray), 0)) else (some (0, (⟨#[]⟩ : ByteArray), (⟨#[]⟩ : ByteArray), 8)))) else (none))) else (none))
end
def ean_readE.f (k : Nat) (a0 : ByteArray) : Option (Int × ByteArray × ByteArray × Int) := if 0 ≤ 3 then (if 3 ≤ (a0.size : Int) then (if (a0.extract 0 3).toList = ([49, 48, 49] : List UInt8) then (if 45 ≤ (a0.size : Int) then (if (a0.extract 45 a0.size).toList = ([48, 49, 48, 49, 48, 49] : List UInt8) then (if 3 ≤ 45 then ((ean_readDigits.f k (a0.extract 3 45) (⟨#[65, 66]⟩ : ByteArray) 7).bind fun bt388 => ((ean_parityE.f).bind fun t391 => ((slices_Index_string_string.f k t391 bt388.2.1).bind fun t394 => (if bt388.2.2 = true then (ean_readE.j0 k bt388.1 bt388.2.1 bt388.2.2 (⟨#[48]⟩ : ByteArray) t394 (decide (t394 < 0))) else (ean_readE.j0 k bt388.1 bt388.2.1 bt388.2.2 (⟨#[48]⟩ : ByteArray) t394 false))))) else (none)) else (some (0, (⟨#[]⟩ : ByteArray), (⟨#[]⟩ : ByteArray), 20))) else (none)) else (some (0, (⟨#[]⟩ : ByteArray), (⟨#[]⟩ : ByteArray), 19))) else (none)) else (none)
theorem ean_readE.mono_l : ∀ k, (∀ y0 y1 y2 y3 y4 y5, LeO (ean_readE.j0 k y0 y1 y2 y3 y4 y5) (ean_readE.j0 (k + 1) y0 y1 y2 y3 y4 y5)) ∧ (∀ y0 y1 y2 y3, LeO (ean_readE.j1 k y0 y1 y2 y3) (ean_readE.j1 (k + 1) y0 y1 y2 y3)) ∧ (∀ y0 y1 y2 y3, LeO (ean_readE.j2 k y0 y1 y2 y3) (ean_readE.j2 (k + 1) y0 y1 y2 y3))
 | 0 => ⟨fun _ _ _ _ _ _ r h => by simp [ean_readE.j0] at h, fun _ _ _ _ r h => by simp [ean_readE.j1] at h, fun _ _ _ _ r h => by simp [ean_readE.j2] at h⟩
 | k + 1 => by
  obtain ⟨ih0, ih1, ih2⟩ := ean_readE.mono_l k
  refine ⟨?_, ?_, ?_⟩
  ·intro y0 y1 y2 y3 y4 y5
   unfold ean_readE.j0
   repeat' with_reducible first | exact ih0 _ _ _ _ _ _ | exact ih1 _ _ _ _ | exact ih2 _ _ _ _ | exact ean_complete.mono _ _ _ | exact ean_readDigits.mono _ _ _ _ | exact slices_Index_string_string.mono _ _ _ | exact LeO.refl _ | exact LeO.none _ | refine LeO.ite ?_ ?_ | refine LeO.bind ?_ (fun _ => ?_)
  ·intro y0 y1 y2 y3
   unfold ean_readE.j1
   repeat' with_reducible first | exact ih0 _ _ _ _ _ _ | exact ih1 _ _ _ _ | exact ih2 _ _ _ _ | exact ean_complete.mono _ _ _ | exact ean_readDigits.mono _ _ _ _ | exact slices_Index_string_string.mono _ _ _ | exact LeO.refl _ | exact LeO.none _ | refine LeO.ite ?_ ?_ | refine LeO.bind ?_ (fun _ => ?_)
  ·intro y0 y1 y2 y3
   unfold ean_readE.j2
   repeat' with_reducible first | exact ih0 _ _ _ _ _ _ | exact ih1 _ _ _ _ | exact ih2 _ _ _ _ | exact ean_complete.mono _ _ _ | exact ean_readDigits.mono _ _ _ _ | exact slices_Index_string_string.mono _ _ _ | exact LeO.refl _ | exact LeO.none _ | refine LeO.ite ?_ ?_ | refine LeO.bind ?_ (fun _ => ?_)
theorem ean_readE.mono : ∀ a0 k, LeO (ean_readE.f k a0) (ean_readE.f (k + 1) a0) := by
 intro a0 k
 obtain ⟨ih0, ih1, ih2⟩ := ean_readE.mono_l k
 unfold ean_readE.f
 repeat' with_reducible first | exact ih0 _ _ _ _ _ _ | exact ih1 _ _ _ _ | exact ih2 _ _ _ _ | exact ean_complete.mono _ _ _ | exact ean_readDigits.mono _ _ _ _ | exact slices_Index_string_string.mono _ _ _ | exact LeO.refl _ | exact LeO.none _ | refine LeO.ite ?_ ?_ | refine LeO.bind ?_ (fun _ => ?_)
set_option maxHeartbeats 8000000 in
set_option maxRecDepth 100000 in
theorem ean_readE.calls (k : Nat) (a0 : ByteArray) (r1 : Int) (r2 : ByteArray) (r3 : ByteArray) (r4 : Int) (w : World) (h : ean_readE.f k a0 = some (r1, r2, r3, r4)) :
  Calls Tryz.prog 105 #[.string a0] w fun e w' => e = .returned (.tuple #[.agg #[.int .i64 r1, .string r2, .string r3], .int .i64 r4]) ∧ Below w.heap.size w w' := by
 have hu31 := Tryz.underlying31
 have HB := Aside0.mk (Below.refl w.heap.size w)
 have H := h
 clear h
 unfold ean_readE.f at H
 replace H := ifc H
 obtain ⟨c2, H⟩ | ⟨c2, H⟩ := H
 rotate_left
 ·exact absurd H (by simp)
 have c2b0 := eq_true c2
 have c2b1 : decide (0 ≤ 3) = true := decide_eq_true c2
 clear c2
 replace H := ifn H
 obtain ⟨c3, H⟩ := H
 have c3b0 := eq_true c3
 have c3b1 : decide (3 ≤ (a0.size : Int)) = true := decide_eq_true c3
 clear c3
 by_cases c4 : (a0.extract 0 3).toList = ([49, 48, 49] : List UInt8)
 rotate_left
 ·rw [if_neg c4] at H
  have c4b0 : ((a0.extract 0 3).toList == ([49, 48, 49] : List UInt8)) = false := beq_eq_false_iff_ne.mpr c4
  have c4b1 : ((a0.extract 0 3).toList != ([49, 48, 49] : List UInt8)) = true := bne_iff_ne.mpr c4
  simp only [Option.some.injEq, Prod.mk.injEq] at H
  obtain ⟨rfl, rfl, rfl, rfl⟩ := H
  go_enter Tryz.func105, Tryz.ntmps105
  go_wp2_with (first | ((with_reducible refine gate_dst (N := 2) rfl ?_); refine box_event ?hg (N := 2) ?hd (cs := #[.int .i64 0, .string (⟨#[]⟩ : ByteArray), .string (⟨#[]⟩ : ByteArray)]) (t := 31) ?hr ?_; (case hd => rfl); (case hg => rfl); (case hr => first | (go_simp; done) | (go_simp; rfl)); intro gb387 hg w46 hbox hb; have n0_ := Aside0.mk (below_step bw hb); have n1_ := Aside0.mk (hbox); have n2_ := Aside0.mk ((by rw [hg]; exact (below_size bw) : w.heap.size ≤ gb387)); have n3_ := Aside0.mk ((by rw [hg]; exact (below_size bw) : w.heap.size ≤ gb387)); clear HB; have HB := n0_; have BK387 := n1_; have GW387 := n2_; have GE387 := n3_; clear n0_ n1_ n2_ n3_; clear hb hbox hg; have hcz47_0 : w46.cell? ⟨gb387, 0, none⟩ = some (.int .i64 0) := (blk_cell BK387.out 0).trans rfl; have hcz47_1 : w46.cell? ⟨gb387, 1, none⟩ = some (.string (⟨#[]⟩ : ByteArray)) := (blk_cell BK387.out 1).trans rfl; have hcz47_2 : w46.cell? ⟨gb387, 2, none⟩ = some (.string (⟨#[]⟩ : ByteArray)) := (blk_cell BK387.out 2).trans rfl; have hfz47_0 := blk_frozen BK387.out 0; have hfz47_1 := blk_frozen BK387.out 1; have hfz47_2 := blk_frozen BK387.out 2))
  refine bodyPost_ret (results_ct rfl _ _ gb387 31 #[.int .i64 0, .string (⟨#[]⟩ : ByteArray), .string (⟨#[]⟩ : ByteArray)] (0, 0) _ rfl (by (with_reducible repeat (first | refine blk_drewN ?_ _ | refine blk_drew ?_ | refine blk_alloc ?_ _)); refine blk_put (cs := #[.int .i64 0, .string (⟨#[]⟩ : ByteArray), .string (⟨#[]⟩ : ByteArray)]) ?_ 2 _ rfl; (with_reducible repeat (first | refine blk_drewN ?_ _ | refine blk_drew ?_ | refine blk_alloc ?_ _)); refine blk_put (cs := #[.int .i64 0, .string (⟨#[]⟩ : ByteArray), .string (⟨#[]⟩ : ByteArray)]) ?_ 1 _ rfl; (with_reducible repeat (first | refine blk_drewN ?_ _ | refine blk_drew ?_ | refine blk_alloc ?_ _)); refine blk_put (cs := #[.int .i64 0, .string (⟨#[]⟩ : ByteArray), .string (⟨#[]⟩ : ByteArray)]) ?_ 0 _ rfl; (with_reducible repeat (first | refine blk_drewN ?_ _ | refine blk_drew ?_ | refine blk_alloc ?_ _)); exact BK387.out) Tryz.underlying31 rfl kr) rfl ?_
  exact ⟨es, bw⟩
 rw [if_pos c4] at H
 have c4b0 : ((a0.extract 0 3).toList == ([49, 48, 49] : List UInt8)) = true := beq_iff_eq.mpr c4
 have c4b1 : ((a0.extract 0 3).toList != ([49, 48, 49] : List UInt8)) = false := bne_eq_false_iff_eq.mpr c4
 clear c4
 replace H := ifn H
 obtain ⟨c5, H⟩ := H
 have c5b0 := eq_true c5
 have c5b1 : decide (45 ≤ (a0.size : Int)) = true := decide_eq_true c5
 clear c5
 by_cases c6 : (a0.extract 45 a0.size).toList = ([48, 49, 48, 49, 48, 49] : List UInt8)
 rotate_left
 ·rw [if_neg c6] at H
  have c6b0 : ((a0.extract 45 a0.size).toList == ([48, 49, 48, 49, 48, 49] : List UInt8)) = false := beq_eq_false_iff_ne.mpr c6
  have c6b1 : ((a0.extract 45 a0.size).toList != ([48, 49, 48, 49, 48, 49] : List UInt8)) = true := bne_iff_ne.mpr c6
  simp only [Option.some.injEq, Prod.mk.injEq] at H
  obtain ⟨rfl, rfl, rfl, rfl⟩ := H
  go_enter Tryz.func105, Tryz.ntmps105
  go_wp2_with (first | ((with_reducible refine gate_dst (N := 2) rfl ?_); refine box_event ?hg (N := 2) ?hd (cs := #[.int .i64 0, .string (⟨#[]⟩ : ByteArray), .string (⟨#[]⟩ : ByteArray)]) (t := 31) ?hr ?_; (case hd => rfl); (case hg => rfl); (case hr => first | (go_simp; done) | (go_simp; rfl)); intro gb387 hg w44 hbox hb; have n0_ := Aside0.mk (below_step bw hb); have n1_ := Aside0.mk (hbox); have n2_ := Aside0.mk ((by rw [hg]; exact (below_size bw) : w.heap.size ≤ gb387)); have n3_ := Aside0.mk ((by rw [hg]; exact (below_size bw) : w.heap.size ≤ gb387)); clear HB; have HB := n0_; have BK387 := n1_; have GW387 := n2_; have GE387 := n3_; clear n0_ n1_ n2_ n3_; clear hb hbox hg; have hcz45_0 : w44.cell? ⟨gb387, 0, none⟩ = some (.int .i64 0) := (blk_cell BK387.out 0).trans rfl; have hcz45_1 : w44.cell? ⟨gb387, 1, none⟩ = some (.string (⟨#[]⟩ : ByteArray)) := (blk_cell BK387.out 1).trans rfl; have hcz45_2 : w44.cell? ⟨gb387, 2, none⟩ = some (.string (⟨#[]⟩ : ByteArray)) := (blk_cell BK387.out 2).trans rfl; have hfz45_0 := blk_frozen BK387.out 0; have hfz45_1 := blk_frozen BK387.out 1; have hfz45_2 := blk_frozen BK387.out 2))
  refine bodyPost_ret (results_ct rfl _ _ gb387 31 #[.int .i64 0, .string (⟨#[]⟩ : ByteArray), .string (⟨#[]⟩ : ByteArray)] (0, 0) _ rfl (by (with_reducible repeat (first | refine blk_drewN ?_ _ | refine blk_drew ?_ | refine blk_alloc ?_ _)); refine blk_put (cs := #[.int .i64 0, .string (⟨#[]⟩ : ByteArray), .string (⟨#[]⟩ : ByteArray)]) ?_ 2 _ rfl; (with_reducible repeat (first | refine blk_drewN ?_ _ | refine blk_drew ?_ | refine blk_alloc ?_ _)); refine blk_put (cs := #[.int .i64 0, .string (⟨#[]⟩ : ByteArray), .string (⟨#[]⟩ : ByteArray)]) ?_ 1 _ rfl; (with_reducible repeat (first | refine blk_drewN ?_ _ | refine blk_drew ?_ | refine blk_alloc ?_ _)); refine blk_put (cs := #[.int .i64 0, .string (⟨#[]⟩ : ByteArray), .string (⟨#[]⟩ : ByteArray)]) ?_ 0 _ rfl; (with_reducible repeat (first | refine blk_drewN ?_ _ | refine blk_drew ?_ | refine blk_alloc ?_ _)); exact BK387.out) Tryz.underlying31 rfl kr) rfl ?_
  exact ⟨es, bw⟩
 rw [if_pos c6] at H
 have c6b0 : ((a0.extract 45 a0.size).toList == ([48, 49, 48, 49, 48, 49] : List UInt8)) = true := beq_iff_eq.mpr c6
 have c6b1 : ((a0.extract 45 a0.size).toList != ([48, 49, 48, 49, 48, 49] : List UInt8)) = false := bne_eq_false_iff_eq.mpr c6
 clear c6
 replace H := ifn H
 obtain ⟨c7, H⟩ := H
 have c7b0 := eq_true c7
 have c7b1 : decide (3 ≤ 45) = true := decide_eq_true c7
 clear c7
 have c8b0 := eq_true (of_decide_eq_true am : 45 ≤ (a0.size : Int))
 replace H := bd H
 obtain ⟨⟨t388, t389, t390⟩, A9, H⟩ := H
 replace H := bd H
 obtain ⟨t391, A10, H⟩ := H
 replace H := bd H
 obtain ⟨t394, A11, H⟩ := H
 have HC12 := Aside0.mk H
 clear H
 go_enter Tryz.func105, Tryz.ntmps105
 go_upto_region 8 with (first | ((with_reducible refine gate_dst (N := 2) rfl ?_); refine box_event ?hg (N := 2) ?hd (cs := #[.int .i64 0, .string (⟨#[]⟩ : ByteArray), .string (⟨#[]⟩ : ByteArray)]) (t := 31) ?hr ?_; (case hd => rfl); (case hg => rfl); (case hr => first | (go_simp; done) | (go_simp; rfl)); intro gb387 hg w13 hbox hb; have n0_ := Aside0.mk (below_step bw hb); have n1_ := Aside0.mk (hbox); have n2_ := Aside0.mk ((by rw [hg]; exact (below_size bw) : w.heap.size ≤ gb387)); have n3_ := Aside0.mk ((by rw [hg]; exact (below_size bw) : w.heap.size ≤ gb387)); clear HB; have HB := n0_; have BK387 := n1_; have GW387 := n2_; have GE387 := n3_; clear n0_ n1_ n2_ n3_; clear hb hbox hg) | ((with_reducible refine gate_callee (f := 106) rfl ?_); refine goesL_ (some 23) rfl rfl Tryz.func106 kr rfl #[.string (a0.extract 3 45), .string (⟨#[65, 66]⟩ : ByteArray), .int .i64 7] rfl ar ?_; (with_reducible refine (ean_readDigits.calls k (a0.extract 3 45) (⟨#[65, 66]⟩ : ByteArray) 7 t388 t389 t390 _ A9.out).mono ?_); rintro e w14 ⟨rfl, hb⟩; refine ⟨_, rfl, ?_⟩; replace BK387 := Aside0.mk (blk_below (g := gb387) (o := .cells #[.int .i64 0, .string (⟨#[]⟩ : ByteArray), .string (⟨#[]⟩ : ByteArray)] 31 (0, 0)) (bk BK387) hb); replace HB := Aside0.mk (below_step bw hb); clear hb) | ((with_reducible refine gate_callee (f := 61) rfl ?_); refine goesL_ (some 27) rfl rfl Tryz.func61 kr rfl #[] rfl ar ?_; (with_reducible refine (ean_parityE.calls  t391 _ A10.out).mono ?_); rintro e w15 ⟨v392, rfl, ho0, hb⟩; refine ⟨_, rfl, ?_⟩; have n0_ := Aside0.mk (Kd.R_lower ho0 (below_size bw)); have n1_ := Aside0.mk (blk_below (g := gb387) (o := .cells #[.int .i64 0, .string (⟨#[]⟩ : ByteArray), .string (⟨#[]⟩ : ByteArray)] 31 (0, 0)) (bk BK387) hb); have n2_ := Aside0.mk (below_step bw hb); clear BK387; clear HB; have HO393 := n0_; have BK387 := n1_; have HB := n2_; clear n0_ n1_ n2_; clear hb; (try clear ho0); obtain ⟨Ao16, co16, eo16⟩ := Kd.R_slice HO393.out; subst eo16) | ((with_reducible refine gate_callee (f := 107) rfl ?_); refine goesL_ (some 29) rfl rfl Tryz.func107 kr rfl #[.slice Ao16 t391.length co16, .string t389] rfl ar ?_; (with_reducible refine (slices_Index_string_string.calls k _ _ t391 t389 t394 _ ?side1 ?side2 A11.out).mono ?_); (case side1 => repeat (first | exact (Kd.R_reads' HO393.out).2.2 | (with_reducible refine Kd.C_alloc ?_ _) | (with_reducible refine Kd.C_drewN ?_ _) | (with_reducible refine Kd.C_drew ?_))); (case side2 => exact (Kd.R_reads' HO393.out).2.1); rintro e w' ⟨rfl, ⟨nd, rfl⟩⟩; refine ⟨_, rfl, ?_⟩))
 (try simp only [Act.put, List.setIfInBounds_toArray, List.set_cons_zero, List.set_cons_succ])
 go_cut [34] (fun v34 wc => ∃ (kq : Nat) (x34_11 : Bool), v34 = .bool x34_11 ∧ Aside0 (ean_readE.j0 kq t388 t389 t390 (⟨#[48]⟩ : ByteArray) t394 x34_11 = some (r1, r2, r3, r4)) ∧ Aside0 (kq ≤ k) ∧ Aside0 (wc.heap[gb387]? = some (.cells #[.int .i64 0, .string (⟨#[]⟩ : ByteArray), .string (⟨#[]⟩ : ByteArray)] 31 (0, 0))) ∧ Aside0 (Below w.heap.size w wc))
 case first =>
  have H := HC12.out
  clear HC12
  by_cases c17 : t390 = true
  ·subst c17
   rw [if_pos rfl] at H
   have H' := Aside0.mk H
   clear H
   go_wp2
   go_meet
   case rel => exact ⟨_, (decide (t394 < 0)), rs, H', ⟨la⟩, ⟨by (with_reducible repeat (first | refine blk_drewN ?_ _ | refine blk_drew ?_ | refine blk_alloc ?_ _)); exact BK387.out⟩, ⟨bw⟩⟩
  replace c17 := Bool.eq_false_iff.mpr c17
  subst c17
  rw [if_neg (show ¬ (false = true) by decide)] at H
  have H' := Aside0.mk H
  clear H
  go_wp2
  go_meet
  case rel => exact ⟨_, (false), rs, H', ⟨la⟩, ⟨by (with_reducible repeat (first | refine blk_drewN ?_ _ | refine blk_drew ?_ | refine blk_alloc ?_ _)); exact BK387.out⟩, ⟨bw⟩⟩
 case rest =>
  clear HC12
  obtain ⟨kq, x34_11, rfl, HA, HJ11, BK387, HB⟩ := hcut
  cases kq with
  | zero => exact absurd HA.out (by simp [ean_readE.j0])
  | succ kj11 =>
   have H := HA.out
   clear HA
   simp only [ean_readE.j0] at H
   have HC18 := Aside0.mk H
   clear H
   go_upto_if 34 with (fail)
   go_cut [7, 8] (fun v7 v8 wc => ∃ (kq : Nat) (x7_17 : ByteArray) (x8_17 : Int), v7 = .string x7_17 ∧ v8 = .int .i64 x8_17 ∧ Aside0 (ean_readE.j1 kq t388 t390 x7_17 x8_17 = some (r1, r2, r3, r4)) ∧ Aside0 (kq ≤ kj11) ∧ Aside0 (wc.heap[gb387]? = some (.cells #[.int .i64 0, .string (⟨#[]⟩ : ByteArray), .string (⟨#[]⟩ : ByteArray)] 31 (0, 0))) ∧ Aside0 (Below w.heap.size w wc))
   case first =>
    have H := HC18.out
    clear HC18
    by_cases c19 : x34_11 = true
    rotate_left
    ·replace c19 := Bool.eq_false_iff.mpr c19
     subst c19
     rw [if_neg (show ¬ (false = true) by decide)] at H
     have H' := Aside0.mk H
     clear H
     go_wp2
     go_meet
     case rel => exact ⟨_, ((⟨#[48]⟩ : ByteArray)), (t394), rs, rs, H', ⟨by have := HJ11.out; first | omega | exact Nat.le_refl _⟩, ⟨by (with_reducible repeat (first | refine blk_drewN ?_ _ | refine blk_drew ?_ | refine blk_alloc ?_ _)); exact BK387.out⟩, ⟨bw⟩⟩
    subst c19
    rw [if_pos rfl] at H
    replace H := bd H
    obtain ⟨t395, A20, H⟩ := H
    replace H := bd H
    obtain ⟨t398, A21, H⟩ := H
    replace H := bd H
    obtain ⟨t399, A22, H⟩ := H
    have H' := Aside0.mk H
    clear H
    go_wp2_with (first | ((with_reducible refine gate_callee (f := 61) rfl ?_); refine goesL_ (some 35) rfl rfl Tryz.func61 kr rfl #[] rfl ar ?_; (with_reducible refine (ean_parityE.calls  t395 _ A20.out).mono ?_); rintro e w23 ⟨v396, rfl, ho0, hb⟩; refine ⟨_, rfl, ?_⟩; have n0_ := Aside0.mk (Kd.R_lower ho0 (below_size bw)); have n1_ := Aside0.mk (blk_below (g := gb387) (o := .cells #[.int .i64 0, .string (⟨#[]⟩ : ByteArray), .string (⟨#[]⟩ : ByteArray)] 31 (0, 0)) (bk BK387) hb); have n2_ := Aside0.mk (below_step bw hb); clear BK387; clear HB; have HO397 := n0_; have BK387 := n1_; have HB := n2_; clear n0_ n1_ n2_; clear hb; (try clear ho0)) | ((with_reducible refine gate_callee (f := 62) rfl ?_); refine goesL_ (some 37) rfl rfl Tryz.func62 kr rfl #[.string t389, .string (⟨#[65]⟩ : ByteArray), .string (⟨#[66]⟩ : ByteArray)] rfl ar ?_; (with_reducible refine (ean_flipped.calls t389 (⟨#[65]⟩ : ByteArray) (⟨#[66]⟩ : ByteArray) t398 _ A21.out).mono ?_); rintro e w24 ⟨rfl, hb⟩; refine ⟨_, rfl, ?_⟩; have n0_ := Aside0.mk (Kd.R_below (kd HO397) hb); have n1_ := Aside0.mk (blk_below (g := gb387) (o := .cells #[.int .i64 0, .string (⟨#[]⟩ : ByteArray), .string (⟨#[]⟩ : ByteArray)] 31 (0, 0)) (bk BK387) hb); have n2_ := Aside0.mk (below_step bw hb); clear HO397; clear BK387; clear HB; have HO397 := n0_; have BK387 := n1_; have HB := n2_; clear n0_ n1_ n2_; clear hb; obtain ⟨Ao25, co25, eo25⟩ := Kd.R_slice HO397.out; subst eo25) | ((with_reducible refine gate_callee (f := 107) rfl ?_); refine goesL_ (some 38) rfl rfl Tryz.func107 kr rfl #[.slice Ao25 t395.length co25, .string t398] rfl ar ?_; (with_reducible refine (slices_Index_string_string.calls kj11 _ _ t395 t398 t399 _ ?side1 ?side2 A22.out).mono ?_); (case side1 => repeat (first | exact (Kd.R_reads' HO397.out).2.2 | (with_reducible refine Kd.C_alloc ?_ _) | (with_reducible refine Kd.C_drewN ?_ _) | (with_reducible refine Kd.C_drew ?_))); (case side2 => exact (Kd.R_reads' HO397.out).2.1); rintro e w' ⟨rfl, ⟨nd, rfl⟩⟩; refine ⟨_, rfl, ?_⟩))
    go_meet
    case rel => exact ⟨_, ((⟨#[49]⟩ : ByteArray)), (t399), rs, rs, H', ⟨by have := HJ11.out; first | omega | exact Nat.le_refl _⟩, ⟨by (with_reducible repeat (first | refine blk_drewN ?_ _ | refine blk_drew ?_ | refine blk_alloc ?_ _)); exact BK387.out⟩, ⟨bw⟩⟩
   case rest =>
    clear HC18
    obtain ⟨kq, x7_17, x8_17, rfl, rfl, HA, HJ17, BK387, HB⟩ := hcut
    cases kq with
    | zero => exact absurd HA.out (by simp [ean_readE.j1])
    | succ kj17 =>
     have H := HA.out
     clear HA
     simp only [ean_readE.j1] at H
     have HC26 := Aside0.mk H
     clear H
     go_upto_region 11 with (fail)
     go_cut [44] (fun v44 wc => ∃ (kq : Nat) (x44_25 : Bool), v44 = .bool x44_25 ∧ Aside0 (ean_readE.j2 kq t388 x7_17 x8_17 x44_25 = some (r1, r2, r3, r4)) ∧ Aside0 (kq ≤ kj17) ∧ Aside0 (wc.heap[gb387]? = some (.cells #[.int .i64 0, .string (⟨#[]⟩ : ByteArray), .string (⟨#[]⟩ : ByteArray)] 31 (0, 0))) ∧ Aside0 (Below w.heap.size w wc))
     case first =>
      have H := HC26.out
      clear HC26
      by_cases c27 : t390 = true
      ·subst c27
       rw [if_pos rfl] at H
       have H' := Aside0.mk H
       clear H
       go_wp2
       go_meet
       case rel => exact ⟨_, (decide (x8_17 < 0)), rs, H', ⟨by have := HJ11.out; have := HJ17.out; first | omega | exact Nat.le_refl _⟩, ⟨by (with_reducible repeat (first | refine blk_drewN ?_ _ | refine blk_drew ?_ | refine blk_alloc ?_ _)); exact BK387.out⟩, ⟨bw⟩⟩
      replace c27 := Bool.eq_false_iff.mpr c27
      subst c27
      rw [if_neg (show ¬ (false = true) by decide)] at H
      have H' := Aside0.mk H
      clear H
      go_wp2
      go_meet
      case rel => exact ⟨_, (true), rs, H', ⟨by have := HJ11.out; have := HJ17.out; first | omega | exact Nat.le_refl _⟩, ⟨by (with_reducible repeat (first | refine blk_drewN ?_ _ | refine blk_drew ?_ | refine blk_alloc ?_ _)); exact BK387.out⟩, ⟨bw⟩⟩
     case rest =>
      clear HC26
      obtain ⟨kq, x44_25, rfl, HA, HJ25, BK387, HB⟩ := hcut
      cases kq with
      | zero => exact absurd HA.out (by simp [ean_readE.j2])
      | succ kj25 =>
       have H := HA.out
       clear HA
       simp only [ean_readE.j2] at H
       by_cases c28 : x44_25 = true
       ·subst c28
        rw [if_pos rfl] at H
        simp only [Option.some.injEq, Prod.mk.injEq] at H
        obtain ⟨rfl, rfl, rfl, rfl⟩ := H
        have hcz29_0 : wc.cell? ⟨gb387, 0, none⟩ = some (.int .i64 0) := (blk_cell BK387.out 0).trans rfl
        have hcz29_1 : wc.cell? ⟨gb387, 1, none⟩ = some (.string (⟨#[]⟩ : ByteArray)) := (blk_cell BK387.out 1).trans rfl
        have hcz29_2 : wc.cell? ⟨gb387, 2, none⟩ = some (.string (⟨#[]⟩ : ByteArray)) := (blk_cell BK387.out 2).trans rfl
        have hfz29_0 := blk_frozen BK387.out 0
        have hfz29_1 := blk_frozen BK387.out 1
        have hfz29_2 := blk_frozen BK387.out 2
        go_wp2
        refine bodyPost_ret (results_ct rfl _ _ gb387 31 #[.int .i64 0, .string (⟨#[]⟩ : ByteArray), .string (⟨#[]⟩ : ByteArray)] (0, 0) _ rfl (by (with_reducible repeat (first | refine blk_drewN ?_ _ | refine blk_drew ?_ | refine blk_alloc ?_ _)); refine blk_put (cs := #[.int .i64 0, .string (⟨#[]⟩ : ByteArray), .string (⟨#[]⟩ : ByteArray)]) ?_ 2 _ rfl; (with_reducible repeat (first | refine blk_drewN ?_ _ | refine blk_drew ?_ | refine blk_alloc ?_ _)); refine blk_put (cs := #[.int .i64 0, .string (⟨#[]⟩ : ByteArray), .string (⟨#[]⟩ : ByteArray)]) ?_ 1 _ rfl; (with_reducible repeat (first | refine blk_drewN ?_ _ | refine blk_drew ?_ | refine blk_alloc ?_ _)); refine blk_put (cs := #[.int .i64 0, .string (⟨#[]⟩ : ByteArray), .string (⟨#[]⟩ : ByteArray)]) ?_ 0 _ rfl; (with_reducible repeat (first | refine blk_drewN ?_ _ | refine blk_drew ?_ | refine blk_alloc ?_ _)); exact BK387.out) Tryz.underlying31 rfl kr) rfl ?_
        exact ⟨es, bw⟩
       replace c28 := Bool.eq_false_iff.mpr c28
       subst c28
       rw [if_neg (show ¬ (false = true) by decide)] at H
       replace H := ifn H
       obtain ⟨c30, H⟩ := H
       have c30b0 := eq_true c30
       have c30b1 : decide (x7_17.size + t388.size ≤ 9223372036854775807) = true := decide_eq_true c30
       obtain ⟨y400, hy400⟩ : ∃ y_ : List Int, y_ = (([(wrap64 (48 + x8_17)) % 256] : List Int)) := ⟨_, rfl⟩
       replace H : (if (x7_17 ++ t388).size + (strOfNums y400).size ≤ 9223372036854775807 then ((ean_complete.f kj25 4 ((x7_17 ++ t388) ++ (strOfNums y400))).bind fun t403 => (if t403 = 0 then (some (4, (x7_17 ++ t388) ++ (strOfNums y400), (⟨#[]⟩ : ByteArray), 0)) else (some (0, (⟨#[]⟩ : ByteArray), (⟨#[]⟩ : ByteArray), 8)))) else (none)) = some (r1, r2, r3, r4) := by first | (rw [hy400]; with_reducible exact H) | (have H2_ := (Option.bind_some _ _).symm.trans H; rw [hy400]; with_reducible exact H2_) | (have H2_ := (Option.bind_some _ _).symm.trans H; with_reducible exact H2_) | with_reducible exact H | (rw [hy400]; exact H) | exact H
       have Ny400 := Aside0.mk hy400
       clear hy400
       by_cases c31 : (x7_17 ++ t388).size + (strOfNums y400).size ≤ 9223372036854775807
       rotate_left
       ·rw [if_neg c31] at H
        exact absurd H (by simp)
       rw [if_pos c31] at H
       have c31b0 := eq_true c31
       have c31b1 : decide ((x7_17 ++ t388).size + (strOfNums y400).size ≤ 9223372036854775807) = true := decide_eq_true c31
       replace H := bd H
       obtain ⟨t403, A32, H⟩ := H
       replace H := ifc H
       obtain ⟨c33, H⟩ | ⟨c33, H⟩ := H
       rotate_left
       ·have c33b0 : (t403 == 0) = false := beq_eq_false_iff_ne.mpr c33
        have c33b1 : (t403 != 0) = true := bne_iff_ne.mpr c33
        simp only [Option.some.injEq, Prod.mk.injEq] at H
        obtain ⟨rfl, rfl, rfl, rfl⟩ := H
        go_wp2_with (first | ((with_reducible refine gate_dst (N := 52) rfl ?_); refine Kd.R_lit (Kd.int .u8) _ 5 ?hg (N := 52) ?hd (xs := ([(wrap64 (48 + x8_17)) % 256] : List Int)) (inner := [.int .u8 ((wrap64 (48 + x8_17)) % 256)]) (ok := fun _ => True) (okp := fun _ => True) ?hr ?hp (fun _ hk => hk) trivial (Below.refl _ _) (Nat.le_refl _) (by simp) ?_; (case hd => rfl); (case hg => rfl); (case hr => first | (go_simp; done) | (go_simp; rfl)); (case hp => exact (Reps.one (show Kd.M (Kd.int .u8) _ _ _ ((wrap64 (48 + x8_17)) % 256) [.int .u8 ((wrap64 (48 + x8_17)) % 256)] from rfl) (Reps.none _ _))); intro v401 w39 ho40 hb hg_ hnew_; clear hg_ hnew_; (first | rw [← Ny400.out] at ho40 | (simp only [Int.reduceToNat] at ho40; rw [← Ny400.out] at ho40)); have n0_ := Aside0.mk (Kd.R_lower ho40 (below_size bw)); have n1_ := Aside0.mk (blk_below (g := gb387) (o := .cells #[.int .i64 0, .string (⟨#[]⟩ : ByteArray), .string (⟨#[]⟩ : ByteArray)] 31 (0, 0)) (bk BK387) hb); have n2_ := Aside0.mk (below_step bw hb); clear BK387; clear HB; have HO402 := n0_; have BK387 := n1_; have HB := n2_; clear n0_ n1_ n2_; clear hb ho40; have hcv41 := own_string (P := Tryz.prog) Tryz.underlying40 Tryz.underlying5 Tryz.underlying9 (Kd.own_of_R HO402.out)) | ((with_reducible refine gate_callee (f := 26) rfl ?_); refine goesL_ (some 56) rfl rfl Tryz.func26 kr rfl #[.int .i64 4, .string ((x7_17 ++ t388) ++ (strOfNums y400))] rfl ar ?_; (with_reducible refine (ean_complete.calls kj25 4 ((x7_17 ++ t388) ++ (strOfNums y400)) t403 _ A32.out).mono ?_); rintro e w42 ⟨rfl, hb⟩; refine ⟨_, rfl, ?_⟩; have n0_ := Aside0.mk (Kd.R_below (kd HO402) hb); have n1_ := Aside0.mk (blk_below (g := gb387) (o := .cells #[.int .i64 0, .string (⟨#[]⟩ : ByteArray), .string (⟨#[]⟩ : ByteArray)] 31 (0, 0)) (bk BK387) hb); have n2_ := Aside0.mk (below_step bw hb); clear HO402; clear BK387; clear HB; have HO402 := n0_; have BK387 := n1_; have HB := n2_; clear n0_ n1_ n2_; clear hb; have hcz43_0 : w42.cell? ⟨gb387, 0, none⟩ = some (.int .i64 0) := (blk_cell BK387.out 0).trans rfl; have hcz43_1 : w42.cell? ⟨gb387, 1, none⟩ = some (.string (⟨#[]⟩ : ByteArray)) := (blk_cell BK387.out 1).trans rfl; have hcz43_2 : w42.cell? ⟨gb387, 2, none⟩ = some (.string (⟨#[]⟩ : ByteArray)) := (blk_cell BK387.out 2).trans rfl; have hfz43_0 := blk_frozen BK387.out 0; have hfz43_1 := blk_frozen BK387.out 1; have hfz43_2 := blk_frozen BK387.out 2))
        refine bodyPost_ret (results_ct rfl _ _ gb387 31 #[.int .i64 0, .string (⟨#[]⟩ : ByteArray), .string (⟨#[]⟩ : ByteArray)] (0, 0) _ rfl (by (with_reducible repeat (first | refine blk_drewN ?_ _ | refine blk_drew ?_ | refine blk_alloc ?_ _)); refine blk_put (cs := #[.int .i64 0, .string (⟨#[]⟩ : ByteArray), .string (⟨#[]⟩ : ByteArray)]) ?_ 2 _ rfl; (with_reducible repeat (first | refine blk_drewN ?_ _ | refine blk_drew ?_ | refine blk_alloc ?_ _)); refine blk_put (cs := #[.int .i64 0, .string (⟨#[]⟩ : ByteArray), .string (⟨#[]⟩ : ByteArray)]) ?_ 1 _ rfl; (with_reducible repeat (first | refine blk_drewN ?_ _ | refine blk_drew ?_ | refine blk_alloc ?_ _)); refine blk_put (cs := #[.int .i64 0, .string (⟨#[]⟩ : ByteArray), .string (⟨#[]⟩ : ByteArray)]) ?_ 0 _ rfl; (with_reducible repeat (first | refine blk_drewN ?_ _ | refine blk_drew ?_ | refine blk_alloc ?_ _)); exact BK387.out) Tryz.underlying31 rfl kr) rfl ?_
        exact ⟨es, bw⟩
       have c33b0 : (t403 == 0) = true := beq_iff_eq.mpr c33
       have c33b1 : (t403 != 0) = false := bne_eq_false_iff_eq.mpr c33
       clear c33
       simp only [Option.some.injEq, Prod.mk.injEq] at H
       obtain ⟨rfl, rfl, rfl, rfl⟩ := H
       go_wp2_with (first | ((with_reducible refine gate_dst (N := 52) rfl ?_); refine Kd.R_lit (Kd.int .u8) _ 5 ?hg (N := 52) ?hd (xs := ([(wrap64 (48 + x8_17)) % 256] : List Int)) (inner := [.int .u8 ((wrap64 (48 + x8_17)) % 256)]) (ok := fun _ => True) (okp := fun _ => True) ?hr ?hp (fun _ hk => hk) trivial (Below.refl _ _) (Nat.le_refl _) (by simp) ?_; (case hd => rfl); (case hg => rfl); (case hr => first | (go_simp; done) | (go_simp; rfl)); (case hp => exact (Reps.one (show Kd.M (Kd.int .u8) _ _ _ ((wrap64 (48 + x8_17)) % 256) [.int .u8 ((wrap64 (48 + x8_17)) % 256)] from rfl) (Reps.none _ _))); intro v401 w34 ho35 hb hg_ hnew_; clear hg_ hnew_; (first | rw [← Ny400.out] at ho35 | (simp only [Int.reduceToNat] at ho35; rw [← Ny400.out] at ho35)); have n0_ := Aside0.mk (Kd.R_lower ho35 (below_size bw)); have n1_ := Aside0.mk (blk_below (g := gb387) (o := .cells #[.int .i64 0, .string (⟨#[]⟩ : ByteArray), .string (⟨#[]⟩ : ByteArray)] 31 (0, 0)) (bk BK387) hb); have n2_ := Aside0.mk (below_step bw hb); clear BK387; clear HB; have HO402 := n0_; have BK387 := n1_; have HB := n2_; clear n0_ n1_ n2_; clear hb ho35; have hcv36 := own_string (P := Tryz.prog) Tryz.underlying40 Tryz.underlying5 Tryz.underlying9 (Kd.own_of_R HO402.out)) | ((with_reducible refine gate_callee (f := 26) rfl ?_); refine goesL_ (some 56) rfl rfl Tryz.func26 kr rfl #[.int .i64 4, .string ((x7_17 ++ t388) ++ (strOfNums y400))] rfl ar ?_; (with_reducible refine (ean_complete.calls kj25 4 ((x7_17 ++ t388) ++ (strOfNums y400)) t403 _ A32.out).mono ?_); rintro e w37 ⟨rfl, hb⟩; refine ⟨_, rfl, ?_⟩; have n0_ := Aside0.mk (Kd.R_below (kd HO402) hb); have n1_ := Aside0.mk (blk_below (g := gb387) (o := .cells #[.int .i64 0, .string (⟨#[]⟩ : ByteArray), .string (⟨#[]⟩ : ByteArray)] 31 (0, 0)) (bk BK387) hb); have n2_ := Aside0.mk (below_step bw hb); clear HO402; clear BK387; clear HB; have HO402 := n0_; have BK387 := n1_; have HB := n2_; clear n0_ n1_ n2_; clear hb; have hcz38_0 : w37.cell? ⟨gb387, 0, none⟩ = some (.int .i64 0) := (blk_cell BK387.out 0).trans rfl; have hcz38_1 : w37.cell? ⟨gb387, 1, none⟩ = some (.string (⟨#[]⟩ : ByteArray)) := (blk_cell BK387.out 1).trans rfl; have hcz38_2 : w37.cell? ⟨gb387, 2, none⟩ = some (.string (⟨#[]⟩ : ByteArray)) := (blk_cell BK387.out 2).trans rfl; have hfz38_0 := blk_frozen BK387.out 0; have hfz38_1 := blk_frozen BK387.out 1; have hfz38_2 := blk_frozen BK387.out 2))
       refine bodyPost_ret (results_ct rfl _ _ gb387 31 #[.int .i64 4, .string ((x7_17 ++ t388) ++ (strOfNums y400)), .string (⟨#[]⟩ : ByteArray)] (0, 0) _ rfl (by (with_reducible repeat (first | refine blk_drewN ?_ _ | refine blk_drew ?_ | refine blk_alloc ?_ _)); refine blk_put (cs := #[.int .i64 4, .string ((x7_17 ++ t388) ++ (strOfNums y400)), .string (⟨#[]⟩ : ByteArray)]) ?_ 2 _ rfl; (with_reducible repeat (first | refine blk_drewN ?_ _ | refine blk_drew ?_ | refine blk_alloc ?_ _)); refine blk_put (cs := #[.int .i64 4, .string (⟨#[]⟩ : ByteArray), .string (⟨#[]⟩ : ByteArray)]) ?_ 1 _ rfl; (with_reducible repeat (first | refine blk_drewN ?_ _ | refine blk_drew ?_ | refine blk_alloc ?_ _)); refine blk_put (cs := #[.int .i64 0, .string (⟨#[]⟩ : ByteArray), .string (⟨#[]⟩ : ByteArray)]) ?_ 0 _ rfl; (with_reducible repeat (first | refine blk_drewN ?_ _ | refine blk_drew ?_ | refine blk_alloc ?_ _)); exact BK387.out) Tryz.underlying31 rfl kr) rfl ?_
       exact ⟨es, bw⟩

end Go.Proofs.YtjmeekceecpemaaGreatDoor.Q
