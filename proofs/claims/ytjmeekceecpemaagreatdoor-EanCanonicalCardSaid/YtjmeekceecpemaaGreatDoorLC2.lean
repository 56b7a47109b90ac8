/- EanCanonical: a row that is read without an add-on has, from its first to its last dark module, the modules that Encode returns for its contents; no further conditions. -/
/- Joined by a program of this work (pack.py) out of the texts Sp4, Sp6, Sp7, Sp8, Sp9, Sp10, GTrim, Qbarscanref11Equal, Qbarscanlaw11equal, Can, Sp11, LawCanonical of this seat, in build order. -/
import Derived.Test.YtjmeekceecpemaaGreatDoorLC1
import Derived.ShutString
import Derived.Deep.Grids
import Derived.ChangeSlices
/- The row that Encode draws: what the program answers. -/
namespace Go.Proofs.YtjmeekceecpemaaGreatDoor.Q
open Go.RowKit Go.Proofs.YtjmeekceecpemaaGreatDoorW.PrintWords Go.Proofs.YtjmeekceecpemaaGreatDoorW.PrintLast Go.Proofs.YtjmeekceecpemaaGreatDoorW.PrintMore
set_option linter.unusedVariables false
set_option linter.unusedSimpArgs false
/-! ### Digits, drawn -/
def pats (s t : ByteArray) : List ByteArray := (List.range s.size).map fun (i : Nat) => ⟨(patL (bt s (i : Int) - 48).toNat (bt t (i : Int))).toArray⟩
def drawS (s t b : ByteArray) : ByteArray := ⟨(joinS (pats s t) b).toArray⟩
theorem pats_len (s t : ByteArray) : (pats s t).length = s.size := by simp [pats]
theorem left_le (n : Nat) : (leftL.getD n []).length ≤ 7 := by
  rcases Nat.lt_or_ge n 10 with h | h
  · exact (show ∀ n, n < 10 → (leftL.getD n []).length ≤ 7 by decide) n h
  · rw [List.getD_eq_getElem?_getD, List.getElem?_eq_none (by simpa [leftL] using h)]; decide
theorem pat_len (n : Nat) (c : Int) : (patL n c).length ≤ 7 := by
  have := left_le n
  unfold patL
  split
  · exact this
  split
  · rw [List.length_reverse, List.length_map]; exact this
  · rw [List.length_map]; exact this
theorem mk_size (l : List UInt8) : (⟨l.toArray⟩ : ByteArray).size = l.length := rfl
theorem pats_le (s t : ByteArray) : ∀ x ∈ pats s t, x.size ≤ 7 := by
  intro x hx
  obtain ⟨i, _, rfl⟩ := List.mem_map.1 hx
  rw [mk_size]
  exact pat_len _ _
theorem lens_le (l : List ByteArray) (h : ∀ x ∈ l, x.size ≤ 7) : Lib.lens (l.map (·.data.toList)) ≤ 7 * l.length := by
  induction l with
  | nil => exact Nat.le_refl _
  | cons a l ih =>
    have h1 := h a (by simp)
    have h2 := ih fun x hx => h x (by simp [hx])
    have h3 : a.data.toList.length = a.size := bs_len a
    have e : Lib.lens ((a :: l).map (·.data.toList)) = a.data.toList.length + Lib.lens (l.map (·.data.toList)) := by simp [Lib.lens]
    rw [e, List.length_cons]
    omega
theorem join_len (l : List ByteArray) (b : ByteArray) (h : ∀ x ∈ l, x.size ≤ 7) : (joinS l b).length ≤ l.length * (7 + b.size) := by
  unfold joinS
  cases l with
  | nil => exact Nat.zero_le _
  | cons a l =>
    have h1 := h a (by simp)
    have h2 := lens_le l fun x hx => h x (by simp [hx])
    have h3 : a.data.toList.length = a.size := bs_len a
    have h4 : b.data.toList.length = b.size := bs_len b
    rw [List.map_cons, Lib.join_cons, List.length_append, Lib.joinTail_length, List.length_map, h3, h4, List.length_cons, Nat.add_mul, Nat.mul_add, Nat.mul_comm b.size]
    omega
theorem draw_size (s t b : ByteArray) : (drawS s t b).size ≤ s.size * (7 + b.size) := by
  unfold drawS
  rw [mk_size]
  have := join_len (pats s t) b (pats_le s t)
  rwa [pats_len] at this
theorem draw_le (s t b : ByteArray) (hs : s.size ≤ 7) (hb : b.size ≤ 2) : (drawS s t b).size ≤ 63 := Nat.le_trans (draw_size s t b) (Nat.mul_le_mul hs (show 7 + b.size ≤ 9 by omega))
theorem drawn_l (s t b : ByteArray) (hd : allDig s = true) (hs : s.size ≤ 7) (ht : s.size ≤ t.size) (hb : b.size ≤ 2) (n : Nat) : ∀ i : Nat, i + n = s.size →
    Ev (fun k => ean_drawn.l0 k s t b ((pats s t).take i) (s.size : Int) (i : Int)) (drawS s t b) := by
  have hp := pats_len s t
  induction n with
  | zero =>
    intro i h
    refine Ev.succ ?_
    simp only [ean_drawn.l0]
    rw [List.take_of_length_le (by omega)]
    refine Ev.neg (by omega) (Ev.bind (Ev.const ?_) (Ev.const rfl))
    unfold strings_Join.f
    have := draw_le s t b hs hb
    unfold drawS at this
    rw [mk_size] at this
    rw [if_pos ⟨by omega, by omega⟩]
    rfl
  | succ n ih =>
    intro i h
    have d := dig_at hd i (by omega)
    refine Ev.succ ?_
    simp only [ean_drawn.l0]
    refine Ev.pos (by omega) (Ev.pos (by omega) (Ev.pos (by omega) (Ev.pos (by omega) ?_)))
    refine Ev.bind (a := ⟨(patL (bt s (i : Int) - 48).toNat (bt t (i : Int))).toArray⟩) (Ev.const (by unfold ean_pattern.f; rw [if_pos d])) ?_
    have e : (pats s t).take i ++ [⟨(patL (bt s (i : Int) - 48).toNat (bt t (i : Int))).toArray⟩] = (pats s t).take (i + 1) := by
      rw [List.take_succ_eq_append_getElem (by omega)]
      simp [pats]
    rw [e, wrap_next i (by omega)]
    exact Ev.pos (by rw [List.length_take]; omega) (ih (i + 1) (by omega))
theorem gdrawn (s t b : ByteArray) (hd : allDig s = true) (hs : s.size ≤ 7) (ht : s.size ≤ t.size) (hb : b.size ≤ 2) : Ev (fun k => ean_drawn.f k s t b) (drawS s t b) := by
  unfold ean_drawn.f
  exact drawn_l s t b hd hs ht hb s.size 0 (by omega)
/-! ### The symbol -/
def par13 : List ByteArray := ean_parity13.f.getD []
def parE : List ByteArray := ean_parityE.f.getD []
def par2 : List ByteArray := ean_parity2.f.getD []
def par5 : List ByteArray := ean_parity5.f.getD []
def b0 : ByteArray := ⟨#[]⟩
def b101 : ByteArray := ⟨#[49, 48, 49]⟩
def bMid : ByteArray := ⟨#[48, 49, 48, 49, 48]⟩
def bEnd : ByteArray := ⟨#[48, 49, 48, 49, 48, 49]⟩
def setE (s : ByteArray) : ByteArray := if bt s 0 = 49 then ⟨((bs (rdOf ByteArray.empty parE ((bt s 7 - 48) % 256))).map (swapB 65 66)).toArray⟩ else rdOf ByteArray.empty parE ((bt s 7 - 48) % 256)
def upcS (x : ByteArray) : ByteArray :=
  (((b101 ++ drawS (x.extract 1 7) (rdOf ByteArray.empty par13 ((bt x 0 - 48) % 256)) b0) ++ bMid) ++ drawS (x.extract 7 x.size) ⟨#[67, 67, 67, 67, 67, 67]⟩ b0) ++ b101
def symS (a : Int) (s : ByteArray) : ByteArray :=
  if a = 2 then (((b101 ++ drawS (s.extract 0 4) ⟨#[65, 65, 65, 65]⟩ b0) ++ bMid) ++ drawS (s.extract 4 s.size) ⟨#[67, 67, 67, 67]⟩ b0) ++ b101
  else if a = 4 then (b101 ++ drawS (s.extract 1 7) (setE s) b0) ++ bEnd else if a = 3 then upcS ((⟨#[48]⟩ : ByteArray) ++ s) else upcS s
theorem par13_at (j : Nat) (h : j < 10) : (rdOf ByteArray.empty par13 (j : Int)).size = 6 := (show ∀ j, j < 10 → (rdOf ByteArray.empty par13 ((j : Nat) : Int)).size = 6 by decide) j h
theorem parE_at (j : Nat) (h : j < 10) : (rdOf ByteArray.empty parE (j : Int)).size = 6 := (show ∀ j, j < 10 → (rdOf ByteArray.empty parE ((j : Nat) : Int)).size = 6 by decide) j h
theorem par5_at (j : Nat) (h : j < 10) : (rdOf ByteArray.empty par5 (j : Int)).size = 5 := (show ∀ j, j < 10 → (rdOf ByteArray.empty par5 ((j : Nat) : Int)).size = 5 by decide) j h
theorem par2_at (j : Nat) (h : j < 4) : (rdOf ByteArray.empty par2 (j : Int)).size = 2 := (show ∀ j, j < 4 → (rdOf ByteArray.empty par2 ((j : Nat) : Int)).size = 2 by decide) j h
theorem dig_val {s : ByteArray} (hd : allDig s = true) (i : Nat) (hi : i < s.size) : ∃ j : Nat, j < 10 ∧ (bt s (i : Int) - 48) % 256 = (j : Int) := by
  have := dig_at hd i hi
  exact ⟨(bt s (i : Int) - 48).toNat, by omega, by omega⟩
theorem b0_size : b0.size = 0 := rfl
theorem b101_size : b101.size = 3 := rfl
theorem bMid_size : bMid.size = 5 := rfl
theorem bEnd_size : bEnd.size = 6 := rfl
theorem setE_size (s : ByteArray) (hd : allDig s = true) (h : s.size = 8) : (setE s).size = 6 := by
  obtain ⟨j, hj, e⟩ := dig_val hd 7 (by omega)
  rw [show ((7 : Nat) : Int) = 7 from rfl] at e
  have := parE_at j hj
  unfold setE
  rw [e]
  split
  · rw [mk_size, List.length_map, bs_len]; exact this
  · exact this
theorem gupc (x : ByteArray) (hd : allDig x = true) (h : x.size = 13) (F : Nat → Option ByteArray)
    (hF : ∀ k, F k = if 1 ≤ 7 then (if 7 ≤ (x.size : Int) then (ean_parity13.f.bind fun t140 => (if 0 < (x.size : Int) then (if 0 ≤ ((bt x 0 - 48) % 256) then (if ((bt x 0 - 48) % 256) < (t140.length : Int) then ((ean_drawn.f k (x.extract 1 7) (rdOf ByteArray.empty t140 ((bt x 0 - 48) % 256)) (⟨#[]⟩ : ByteArray)).bind fun t144 => (if 3 + t144.size ≤ 9223372036854775807 then (if ((⟨#[49, 48, 49]⟩ : ByteArray) ++ t144).size + 5 ≤ 9223372036854775807 then ((ean_drawn.f k (x.extract 7 x.size) (⟨#[67, 67, 67, 67, 67, 67]⟩ : ByteArray) (⟨#[]⟩ : ByteArray)).bind fun t145 => (if (((⟨#[49, 48, 49]⟩ : ByteArray) ++ t144) ++ (⟨#[48, 49, 48, 49, 48]⟩ : ByteArray)).size + t145.size ≤ 9223372036854775807 then (if ((((⟨#[49, 48, 49]⟩ : ByteArray) ++ t144) ++ (⟨#[48, 49, 48, 49, 48]⟩ : ByteArray)) ++ t145).size + 3 ≤ 9223372036854775807 then (some (((((⟨#[49, 48, 49]⟩ : ByteArray) ++ t144) ++ (⟨#[48, 49, 48, 49, 48]⟩ : ByteArray)) ++ t145) ++ (⟨#[49, 48, 49]⟩ : ByteArray))) else (none)) else (none))) else (none)) else (none))) else (none)) else (none)) else (none))) else (none)) else (none)) :
    Ev F (upcS x) := by
  obtain ⟨j, hj, e⟩ := dig_val hd 0 (by omega)
  rw [show ((0 : Nat) : Int) = 0 from rfl] at e
  have hp := par13_at j hj
  have d1 := draw_le (x.extract 1 7) (rdOf ByteArray.empty par13 (j : Int)) b0 (by rw [ex_size]; omega) (by rw [b0_size]; omega)
  have d2 := draw_le (x.extract 7 x.size) ⟨#[67, 67, 67, 67, 67, 67]⟩ b0 (by rw [ex_size]; omega) (by rw [b0_size]; omega)
  refine Ev.congr ?_ hF
  unfold upcS
  rw [e]
  refine Ev.pos (by omega) (Ev.pos (by omega) (Ev.bind (a := par13) (Ev.const rfl) (Ev.pos (by omega) (Ev.pos (by omega) (Ev.pos (show (j : Int) < (10 : Int) by omega) ?_)))))
  refine Ev.bind (gdrawn _ _ b0 (dig_extract hd 1 7) (by rw [ex_size]; omega) (by rw [ex_size]; omega) (by rw [b0_size]; omega)) ?_
  refine Ev.pos (by omega) (Ev.pos (by rw [ap_size]; have : (⟨#[49, 48, 49]⟩ : ByteArray).size = 3 := rfl; omega) ?_)
  refine Ev.bind (gdrawn _ _ b0 (dig_extract hd 7 _) (by rw [ex_size]; omega) (by rw [ex_size]; have : (⟨#[67, 67, 67, 67, 67, 67]⟩ : ByteArray).size = 6 := rfl; omega) (by rw [b0_size]; omega)) ?_
  have z1 : (⟨#[49, 48, 49]⟩ : ByteArray).size = 3 := rfl
  have z2 : (⟨#[48, 49, 48, 49, 48]⟩ : ByteArray).size = 5 := rfl
  exact Ev.pos (by simp only [ap_size]; omega) (Ev.pos (by simp only [ap_size]; omega) (Ev.const rfl))
theorem flip_AB (t : ByteArray) (h : t.size ≤ 1048576) : ean_flipped.f t (⟨#[65]⟩ : ByteArray) (⟨#[66]⟩ : ByteArray) = some ⟨((bs t).map (swapB 65 66)).toArray⟩ := by
  unfold ean_flipped.f
  rw [show bs (⟨#[65]⟩ : ByteArray) = [65] from rfl, show bs (⟨#[66]⟩ : ByteArray) = [66] from rfl]
  simp only
  rw [if_pos h]
theorem gsymbol (a : Int) (s : ByteArray) (h : cmpS a s = 0) : Ev (fun k => ean_symbol.f k a s) (symS a s) := by
  obtain ⟨hn, hd, hz, _, _⟩ := cmp_zero h
  unfold ean_symbol.f symS
  by_cases h2 : a = 2
  · subst h2
    have hz : s.size = 8 := by have : lenS 2 = 8 := by decide
                               omega
    have z1 : (⟨#[49, 48, 49]⟩ : ByteArray).size = 3 := rfl
    have z2 : (⟨#[48, 49, 48, 49, 48]⟩ : ByteArray).size = 5 := rfl
    have z3 : (⟨#[65, 65, 65, 65]⟩ : ByteArray).size = 4 := rfl
    have z4 : (⟨#[67, 67, 67, 67]⟩ : ByteArray).size = 4 := rfl
    have d1 := draw_le (s.extract 0 4) ⟨#[65, 65, 65, 65]⟩ b0 (by rw [ex_size]; omega) (by rw [b0_size]; omega)
    have d2 := draw_le (s.extract 4 s.size) ⟨#[67, 67, 67, 67]⟩ b0 (by rw [ex_size]; omega) (by rw [b0_size]; omega)
    rw [if_pos rfl]
    refine Ev.pos rfl (Ev.pos (by omega) (Ev.pos (by omega) ?_))
    refine Ev.bind (gdrawn _ _ b0 (dig_extract hd 0 4) (by rw [ex_size]; omega) (by rw [ex_size]; omega) (by rw [b0_size]; omega)) ?_
    refine Ev.pos (by omega) (Ev.pos (by rw [ap_size]; omega) ?_)
    refine Ev.bind (gdrawn _ _ b0 (dig_extract hd 4 _) (by rw [ex_size]; omega) (by rw [ex_size]; omega) (by rw [b0_size]; omega)) ?_
    exact Ev.pos (by simp only [ap_size]; omega) (Ev.pos (by simp only [ap_size]; omega) (Ev.const rfl))
  rw [if_neg h2]
  refine Ev.neg h2 ?_
  by_cases h4 : a = 4
  · subst h4
    have hz : s.size = 8 := by rw [len4] at hz; omega
    rw [if_pos rfl]
    obtain ⟨j, hj, e⟩ := dig_val hd 7 (by omega)
    rw [show ((7 : Nat) : Int) = 7 from rfl] at e
    have hs := setE_size s hd hz
    have hp := parE_at j hj
    have d1 := draw_le (s.extract 1 7) (setE s) b0 (by rw [ex_size]; omega) (by rw [b0_size]; omega)
    have z1 : (⟨#[49, 48, 49]⟩ : ByteArray).size = 3 := rfl
    have key : Ev (fun k => ean_symbol.j0 k s (setE s)) ((b101 ++ drawS (s.extract 1 7) (setE s) b0) ++ bEnd) := by
      refine Ev.succ ?_
      simp only [ean_symbol.j0]
      refine Ev.pos (by omega) (Ev.pos (by omega) ?_)
      refine Ev.bind (gdrawn _ _ b0 (dig_extract hd 1 7) (by rw [ex_size]; omega) (by rw [ex_size]; omega) (by rw [b0_size]; omega)) ?_
      exact Ev.pos (by omega) (Ev.pos (by rw [ap_size]; omega) (Ev.const rfl))
    refine Ev.pos rfl (Ev.bind (a := parE) (Ev.const rfl) (Ev.pos (by omega) (Ev.pos (by omega) (Ev.pos (by rw [e]; show (j : Int) < 10; omega) (Ev.pos (by omega) ?_)))))
    by_cases h0 : bt s 0 = 49
    · have es : setE s = ⟨((bs (rdOf ByteArray.empty parE ((bt s 7 - 48) % 256))).map (swapB 65 66)).toArray⟩ := by unfold setE; rw [if_pos h0]
      refine Ev.pos h0 (Ev.bind (Ev.const (flip_AB _ (by rw [e]; omega))) ?_)
      rw [← es]
      exact key
    · have es : setE s = rdOf ByteArray.empty parE ((bt s 7 - 48) % 256) := by unfold setE; rw [if_neg h0]
      refine Ev.neg h0 ?_
      rw [← es]
      exact key
  rw [if_neg h4]
  refine Ev.neg h4 ?_
  by_cases h3 : a = 3
  · subst h3
    have hz : s.size = 12 := by rw [len3] at hz; omega
    have z1 : (⟨#[48]⟩ : ByteArray).size = 1 := rfl
    rw [if_pos rfl]
    refine Ev.pos rfl (Ev.pos (by omega) (gupc _ (by rw [dig_append, hd]; rfl) (by rw [ap_size]; omega) _ fun k => rfl))
  rw [if_neg h3]
  refine Ev.neg h3 (gupc s hd ?_ _ fun k => rfl)
  unfold lenS at hn hz
  by_cases h1 : a = 1
  · rw [if_pos h1] at hz; omega
  · rw [if_neg h1, if_neg (by omega), if_neg h3] at hn; omega
/-! ### The add-on's sets -/
def sum5 (o : ByteArray) : Nat → Int
  | 0 => 0
  | i + 1 => sum5 o i + (3 + (i : Int) % 2 * 6) * ((bt o (i : Int) - 48) % 256)
def setsS (o : ByteArray) : ByteArray :=
  if o.size = 2 then rdOf ByteArray.empty par2 (((10 * ((bt o 0 - 48) % 256)) + ((bt o 1 - 48) % 256)) % 4) else rdOf ByteArray.empty par5 (sum5 o o.size % 10)
theorem sum5_bd (o : ByteArray) (i : Nat) : 0 ≤ sum5 o i ∧ sum5 o i ≤ 2295 * i := by
  induction i with
  | zero => exact ⟨Int.le_refl _, Int.le_refl _⟩
  | succ i ih =>
    have e : sum5 o (i + 1) = sum5 o i + (3 + (i : Int) % 2 * 6) * ((bt o (i : Int) - 48) % 256) := rfl
    rw [e]
    rcases (show (i : Int) % 2 = 0 ∨ (i : Int) % 2 = 1 by omega) with h | h
    · rw [h]; omega
    · rw [h]; omega
theorem gsets_l (o : ByteArray) (hz : o.size ≤ 4096) (n : Nat) : ∀ i : Nat, i + n = o.size → Ev (fun k => ean_setsOf.l0 k o (sum5 o i) (o.size : Int) (i : Int)) (rdOf ByteArray.empty par5 (sum5 o o.size % 10)) := by
  induction n with
  | zero =>
    intro i h
    have hb := sum5_bd o i
    refine Ev.succ ?_
    simp only [ean_setsOf.l0]
    obtain rfl : i = o.size := by omega
    rw [Int.tmod_eq_emod_of_nonneg hb.1]
    refine Ev.neg (by omega) (Ev.bind (a := par5) (Ev.const rfl) (Ev.pos (by omega) (Ev.pos ?_ (Ev.const rfl))))
    show sum5 o o.size % 10 < (10 : Int)
    omega
  | succ n ih =>
    intro i h
    have hb := sum5_bd o i
    have e : sum5 o (i + 1) = sum5 o i + (3 + (i : Int) % 2 * 6) * ((bt o (i : Int) - 48) % 256) := rfl
    have ih2 := ih (i + 1) (by omega)
    refine Ev.succ ?_
    simp only [ean_setsOf.l0]
    rw [Int.tmod_eq_emod_of_nonneg (by omega), wrap_next i (by omega)]
    refine Ev.pos (by omega) (Ev.pos (by omega) (Ev.pos (by omega) ?_))
    rcases (show (i : Int) % 2 = 0 ∨ (i : Int) % 2 = 1 by omega) with h2 | h2
    · rw [h2] at e ⊢
      rw [wrap_id (0 * 6) (by omega) (by omega), wrap_id (3 + 0 * 6) (by omega) (by omega), wrap_id ((3 + 0 * 6) * _) (by omega) (by omega), wrap_id (sum5 o i + _) (by omega) (by omega), ← e]
      exact ih2
    · rw [h2] at e ⊢
      rw [wrap_id (1 * 6) (by omega) (by omega), wrap_id (3 + 1 * 6) (by omega) (by omega), wrap_id ((3 + 1 * 6) * _) (by omega) (by omega), wrap_id (sum5 o i + _) (by omega) (by omega), ← e]
      exact ih2
theorem gsetsOf (o : ByteArray) (hz : o.size = 2 ∨ o.size = 5) : Ev (fun k => ean_setsOf.f k o) (setsS o) := by
  unfold ean_setsOf.f setsS
  by_cases h : o.size = 2
  · rw [if_pos h]
    refine Ev.pos (by omega) (Ev.bind (a := par2) (Ev.const rfl) (Ev.pos (by omega) (Ev.pos (by omega) ?_)))
    rw [show (((10 * (((bt o 0) - 48) % 256)) + (((bt o 1) - 48) % 256)) % 4) = (((10 * ((bt o 0 - 48) % 256)) + ((bt o 1 - 48) % 256)) % 4) from rfl]
    refine Ev.pos (by omega) (Ev.pos ?_ (Ev.const rfl))
    show _ < (4 : Int)
    omega
  · rw [if_neg h]
    exact Ev.neg (by omega) (gsets_l o (by omega) o.size 0 (by omega))
theorem sets_size (o : ByteArray) (hz : o.size = 2 ∨ o.size = 5) : (setsS o).size = o.size := by
  unfold setsS
  have hb := sum5_bd o o.size
  by_cases h : o.size = 2
  · rw [if_pos h]
    have := par2_at ((((10 * ((bt o 0 - 48) % 256)) + ((bt o 1 - 48) % 256)) % 4).toNat) (by omega)
    rw [Int.toNat_of_nonneg (by omega)] at this
    omega
  · rw [if_neg h]
    have := par5_at ((sum5 o o.size % 10).toNat) (by omega)
    rw [Int.toNat_of_nonneg (by omega)] at this
    omega
/-! ### The whole row -/
def modS (b : ByteArray) : List Bool := (bs b).map fun c => (c.toNat : Int) == 49
theorem gmod_l (b : ByteArray) (hb : b.size ≤ 4096) (n : Nat) : ∀ i : Nat, i + n = b.size → Ev (fun k => ean_modules.l0 k b ((modS b).take i ++ List.replicate n false) (b.size : Int) (i : Int)) (modS b) := by
  have hl := bs_len b
  have hm : (modS b).length = b.size := by unfold modS; rw [List.length_map, hl]
  induction n with
  | zero =>
    intro i h
    refine Ev.succ ?_
    simp only [ean_modules.l0]
    rw [List.take_of_length_le (by omega), List.replicate_zero, List.append_nil]
    exact Ev.neg (by omega) (Ev.const rfl)
  | succ n ih =>
    intro i h
    refine Ev.succ ?_
    simp only [ean_modules.l0]
    have e : ((modS b).take i ++ List.replicate (n + 1) false).set i ((bt b (i : Int)) == 49) = (modS b).take (i + 1) ++ List.replicate n false := by
      rw [bt_nat b i (by omega), List.take_succ_eq_append_getElem (by omega), List.set_append_right _ _ (by rw [List.length_take]; omega), List.length_take, show i - min i (modS b).length = 0 by omega, List.replicate_succ, List.set_cons_zero, List.append_assoc]
      simp [modS]
    rw [Int.toNat_natCast, e, wrap_next i (by omega)]
    exact Ev.pos (by omega) (Ev.pos (by omega) (Ev.pos (by omega) (Ev.pos (by rw [List.length_append, List.length_take, List.length_replicate]; omega) (ih (i + 1) (by omega)))))
theorem gmodules (b : ByteArray) (hb : b.size ≤ 4096) : Ev (fun k => ean_modules.f k b) (modS b) := by
  unfold ean_modules.f
  rw [Int.toNat_natCast]
  refine Ev.pos (by omega) (Ev.pos (by omega) ?_)
  simp only [Option.bind_some, List.length_replicate]
  exact gmod_l b hb b.size 0 (by omega)
def zS (n : Int) : ByteArray := ⟨(Lib.repeatL [48] n.toNat).toArray⟩
theorem zS_size (n : Int) : (zS n).size = n.toNat := by unfold zS; rw [mk_size, Lib.repeatL_length]; simp
theorem grep (n : Int) (h0 : 0 ≤ n) (h1 : n ≤ 100) : strings_Repeat.f (⟨#[48]⟩ : ByteArray) n = some (zS n) := by
  unfold strings_Repeat.f
  have z1 : (⟨#[48]⟩ : ByteArray).size = 1 := rfl
  rw [if_pos ⟨h0, by omega, by rw [z1]; omega⟩]
  rfl
def margS (a : Int) : Int × Int := if a = 1 then (11, 7) else if a = 2 then (7, 7) else if a = 3 then (9, 9) else (9, 7)
theorem gmargins (a : Int) : ean_margins.f a = some (margS a) := by
  unfold ean_margins.f margS
  by_cases h1 : a = 1
  · rw [if_pos h1, if_pos h1]
  by_cases h2 : a = 2
  · rw [if_neg h1, if_neg h1, if_pos h2, if_pos h2]
  by_cases h3 : a = 3
  · rw [if_neg h1, if_neg h1, if_neg h2, if_neg h2, if_pos h3, if_pos h3]
  · rw [if_neg h1, if_neg h1, if_neg h2, if_neg h2, if_neg h3, if_neg h3]
theorem marg_bd (a : Int) : 0 ≤ (margS a).1 ∧ (margS a).1 ≤ 11 ∧ 0 ≤ (margS a).2 ∧ (margS a).2 ≤ 11 := by
  unfold margS
  by_cases h1 : a = 1
  · rw [if_pos h1]; decide
  by_cases h2 : a = 2
  · rw [if_neg h1, if_pos h2]; decide
  by_cases h3 : a = 3
  · rw [if_neg h1, if_neg h2, if_pos h3]; decide
  · rw [if_neg h1, if_neg h2, if_neg h3]; decide
def bAdd : ByteArray := ⟨#[49, 48, 49, 49]⟩
def b01 : ByteArray := ⟨#[48, 49]⟩
def rowB (a : Int) (s o : ByteArray) : ByteArray :=
  if o.size = 0 then (zS (margS a).1 ++ symS a s) ++ zS (margS a).2 else ((zS (margS a).1 ++ symS a s) ++ ((zS 9 ++ bAdd) ++ drawS o (setsS o) b01)) ++ zS 7
def encS (a : Int) (s o : ByteArray) : List Bool × Int :=
  if cmpS a s = 0 then (if allDig o = true then (if o.size = 0 ∨ o.size = 2 ∨ o.size = 5 then (modS (rowB a s o), 0) else ([], 7)) else ([], 6)) else ([], cmpS a s)
theorem upc_size (x : ByteArray) (h : x.size ≤ 13) : (upcS x).size ≤ 200 := by
  unfold upcS
  have d1 := draw_le (x.extract 1 7) (rdOf ByteArray.empty par13 ((bt x 0 - 48) % 256)) b0 (by rw [ex_size]; omega) (by rw [b0_size]; omega)
  have d2 := draw_le (x.extract 7 x.size) ⟨#[67, 67, 67, 67, 67, 67]⟩ b0 (by rw [ex_size]; omega) (by rw [b0_size]; omega)
  simp only [ap_size, b101_size, bMid_size]
  omega
theorem sym_size (a : Int) (s : ByteArray) (h : cmpS a s = 0) : (symS a s).size ≤ 200 := by
  obtain ⟨hn, hd, hz, _, _⟩ := cmp_zero h
  have hl := len_bd a
  unfold symS
  split
  · rename_i h2
    have hz : s.size = 8 := by have : lenS 2 = 8 := by decide
                               rw [h2] at hz; omega
    have d1 := draw_le (s.extract 0 4) ⟨#[65, 65, 65, 65]⟩ b0 (by rw [ex_size]; omega) (by rw [b0_size]; omega)
    have d2 := draw_le (s.extract 4 s.size) ⟨#[67, 67, 67, 67]⟩ b0 (by rw [ex_size]; omega) (by rw [b0_size]; omega)
    simp only [ap_size, b101_size, bMid_size]
    omega
  split
  · have d1 := draw_le (s.extract 1 7) (setE s) b0 (by rw [ex_size]; omega) (by rw [b0_size]; omega)
    simp only [ap_size, b101_size, bEnd_size]
    omega
  split
  · rename_i h3
    rw [h3, len3] at hz
    exact upc_size _ (by rw [ap_size, show (⟨#[48]⟩ : ByteArray).size = 1 from rfl]; omega)
  · exact upc_size s (by omega)
theorem gEncode (a : Int) (s o : ByteArray) (hs : s.size ≤ 9223372036854775807) (ho : o.size ≤ 9223372036854775807) : Ev (fun k => ean_Encode.f k a s o) (encS a s o) := by
  unfold ean_Encode.f encS
  refine Ev.bind (Ev.add 1 fun k => gcomplete k a s hs) ?_
  by_cases h : cmpS a s = 0
  · rw [if_pos h]
    refine Ev.pos h (Ev.bind (Ev.const (gdig o ho)) ?_)
    by_cases hd : allDig o = true
    · rw [if_pos hd]
      refine Ev.pos hd ?_
      have hsz := sym_size a s h
      have hm := marg_bd a
      have z1 := zS_size (margS a).1
      have z2 := zS_size (margS a).2
      have z3 := zS_size 9
      have z4 := zS_size 7
      have key : (o.size = 0 ∨ o.size = 2 ∨ o.size = 5) → Ev (fun k => ean_Encode.j0 k a s o) (modS (rowB a s o), 0) := by
        intro hc
        refine Ev.succ ?_
        simp only [ean_Encode.j0]
        refine Ev.bind (Ev.const (gmargins a)) (Ev.bind (Ev.const (grep _ hm.1 (by omega))) (Ev.bind (gsymbol a s h) (Ev.pos (by omega) ?_)))
        unfold rowB
        by_cases h0 : o.size = 0
        · have e0 : o.toList = ([] : List UInt8) := by rw [bs_toList]; exact List.length_eq_zero_iff.1 ((bs_len o).trans h0)
          rw [if_pos h0]
          refine Ev.pos e0 (Ev.bind (Ev.const (grep _ hm.2.2.1 (by omega))) (Ev.pos (by rw [ap_size]; omega) (Ev.bind (gmodules _ (by simp only [ap_size]; omega)) (Ev.const rfl))))
        · have e0 : ¬ o.toList = ([] : List UInt8) := fun e => h0 (by rw [← bs_len, ← bs_toList, e]; rfl)
          have hc2 : o.size = 2 ∨ o.size = 5 := by omega
          have hss := sets_size o hc2
          have z01 : b01.size = 2 := rfl
          have zA : bAdd.size = 4 := rfl
          have zA2 : (⟨#[49, 48, 49, 49]⟩ : ByteArray).size = 4 := rfl
          have d1 := draw_le o (setsS o) b01 (by omega) (by omega)
          rw [if_neg h0]
          refine Ev.neg e0 (Ev.bind (Ev.const (grep 9 (by omega) (by omega))) (Ev.pos (by omega) (Ev.bind (gsetsOf o hc2) (Ev.bind (gdrawn o (setsS o) b01 hd (by omega) (by omega) (by omega)) ?_))))
          refine Ev.pos (by simp only [ap_size]; omega) (Ev.pos (by simp only [ap_size]; omega) (Ev.bind (Ev.const (grep 7 (by omega) (by omega))) (Ev.pos (by simp only [ap_size]; omega) (Ev.bind (gmodules _ (by simp only [ap_size]; omega)) (Ev.const rfl)))))
      by_cases hc : o.size = 0 ∨ o.size = 2 ∨ o.size = 5
      · rw [if_pos hc]
        have hk := key hc
        by_cases h0 : o.size = 0
        · exact Ev.pos (by omega) hk
        by_cases h2 : o.size = 2
        · exact Ev.neg (by omega) (Ev.pos (by omega) hk)
        · exact Ev.neg (by omega) (Ev.neg (by omega) (Ev.pos (by omega) hk))
      · rw [if_neg hc]
        exact Ev.neg (by omega) (Ev.neg (by omega) (Ev.neg (by omega) (Ev.const rfl)))
    · rw [if_neg hd]
      exact Ev.neg hd (Ev.const rfl)
  · rw [if_neg h]
    exact Ev.neg h (Ev.const rfl)
end Go.Proofs.YtjmeekceecpemaaGreatDoor.Q

/- What Decode answers: the program. -/
namespace Go.Proofs.YtjmeekceecpemaaGreatDoor.Q
open Go.RowKit Go.Proofs.YtjmeekceecpemaaGreatDoorW.PrintWords Go.Proofs.YtjmeekceecpemaaGreatDoorW.PrintLast Go.Proofs.YtjmeekceecpemaaGreatDoorW.PrintMore
set_option linter.unusedVariables false
set_option linter.unusedSimpArgs false
/-! ### Digits, read -/
/-- The first of the patterns that a group is. -/
def fnd (p g : ByteArray) : Nat → Nat → Option Nat
  | 0, _ => none
  | n + 1, k => if patL (k % 10) (bt p ((k / 10 : Nat) : Int)) = bs g then some k else fnd p g n (k + 1)
def digB (k : Nat) : ByteArray := strOfNums [48 + ((k % 10 : Nat) : Int)]
def setB (p : ByteArray) (k : Nat) : ByteArray := strOfNums [bt p ((k / 10 : Nat) : Int)]
def rdS (s p : ByteArray) (step : Nat) : Nat → Nat → ByteArray → ByteArray → ByteArray × ByteArray × Bool
  | 0, i, d, t => (d, t, true)
  | n + 1, i, d, t => if i + 7 ≤ s.size then (match fnd p (s.extract i (i + 7)) (10 * p.size) 0 with
    | some k => rdS s p step n (i + step) (d ++ digB k) (t ++ setB p k)
    | none => (⟨#[]⟩, ⟨#[]⟩, false)) else (d, t, true)
def rdA (s p : ByteArray) (step : Nat) : ByteArray × ByteArray × Bool := rdS s p step (s.size + 1) 0 ⟨#[]⟩ ⟨#[]⟩
theorem one_sz (x : Int) : (strOfNums [x]).size = 1 := rfl
theorem fnd_lt (p g : ByteArray) (n : Nat) : ∀ j k, fnd p g n j = some k → k < j + n := by
  induction n with
  | zero => intro j k h; cases h
  | succ n ih =>
    intro j k h
    unfold fnd at h
    split at h
    · injection h with h; omega
    · have := ih _ _ h; omega
theorem tdiv10 (j : Nat) : Int.tdiv (j : Int) 10 = ((j / 10 : Nat) : Int) := by rw [Int.tdiv_eq_ediv_of_nonneg (by omega)]; omega
theorem tmod10 (j : Nat) : Int.tmod (j : Int) 10 = ((j % 10 : Nat) : Int) := by rw [Int.tmod_eq_emod_of_nonneg (by omega)]; omega
theorem wn (j : Nat) (h : j < 4611686018427387904) : wrap64 (j : Int) = (j : Int) := wrap_id _ (by omega) (by omega)
theorem w48 (r : Nat) (h : r < 10) : (wrap64 (48 + (r : Int))) % 256 = 48 + (r : Int) := by rw [wrap_id _ (by omega) (by omega)]; omega
theorem wadd7 (i : Nat) (h : i < 4611686018427387000) : wrap64 ((i : Int) + 7) = ((i + 7 : Nat) : Int) := by rw [wrap_id _ (by omega) (by omega)]; omega
theorem wadd (i m : Nat) (h : i + m < 4611686018427387000) : wrap64 ((i : Int) + (m : Int)) = ((i + m : Nat) : Int) := by rw [wrap_id _ (by omega) (by omega)]; omega
theorem grd_in (s p : ByteArray) (step i : Nat) (d t : ByteArray) (R : ByteArray × ByteArray × Bool) (hp : p.size ≤ 2) (hi : i + 7 ≤ s.size) (hs : s.size ≤ 70000) (hd : d.size ≤ 70000) (ht : t.size ≤ 70000) (hst : step ≤ 9) (n : Nat) :
    ∀ j : Nat, j + n = 10 * p.size → (∀ k, fnd p (s.extract i (i + 7)) n j = some k → Ev (fun f => ean_readDigits.l0 f s p (step : Int) (d ++ digB k) (t ++ setB p k) ((i + step : Nat) : Int)) R) →
    (fnd p (s.extract i (i + 7)) n j = none → R = (⟨#[]⟩, ⟨#[]⟩, false)) →
    Ev (fun f => ean_readDigits.l1 f s p (step : Int) d t (i : Int) false ((10 * p.size : Nat) : Int) (j : Int)) R := by
  induction n with
  | zero =>
    intro j hj _ hR
    refine Ev.succ ?_
    simp only [ean_readDigits.l1]
    refine Ev.neg (by omega) ?_
    rw [hR rfl]
    exact Ev.neg (by decide) (Ev.const rfl)
  | succ n ih =>
    intro j hj hk hR
    refine Ev.succ ?_
    simp only [ean_readDigits.l1]
    rw [tdiv10, tmod10, wn (j / 10) (by omega), w48 (j % 10) (Nat.mod_lt _ (by decide)), wadd7 i (by omega), wadd i step (by omega), wrap_next j (by omega), Int.toNat_natCast, Int.toNat_natCast]
    refine Ev.pos (by omega) (Ev.pos (by omega) (Ev.pos (by omega) ?_))
    have hpat : ean_pattern.f (48 + ((j % 10 : Nat) : Int)) (bt p ((j / 10 : Nat) : Int)) = some ⟨(patL (j % 10) (bt p ((j / 10 : Nat) : Int))).toArray⟩ := by
      unfold ean_pattern.f
      rw [if_pos (by omega), show (48 + ((j % 10 : Nat) : Int) - 48).toNat = j % 10 by omega]
    refine Ev.bind (Ev.const hpat) (Ev.pos (by omega) (Ev.pos (by omega) (Ev.pos (by omega) ?_)))
    by_cases h : patL (j % 10) (bt p ((j / 10 : Nat) : Int)) = bs (s.extract i (i + 7))
    · have hf : fnd p (s.extract i (i + 7)) (n + 1) j = some j := by unfold fnd; rw [if_pos h]
      have hz1 : (digB j).size = 1 := rfl
      refine Ev.pos (by rw [bs_toList, bs_toList]; exact h) ?_
      simp only [Option.bind_some]
      exact Ev.pos (by rw [one_sz]; omega) (Ev.pos (by rw [one_sz]; omega) (hk j hf))
    · have hf : fnd p (s.extract i (i + 7)) (n + 1) j = fnd p (s.extract i (i + 7)) n (j + 1) := by
        show (if _ then _ else _) = _
        rw [if_neg h]
      rw [hf] at hk hR
      exact Ev.neg (by rw [bs_toList, bs_toList]; exact h) (ih (j + 1) (by omega) hk hR)
theorem grd_l (s p : ByteArray) (step : Nat) (hp : p.size ≤ 2) (hs : s.size ≤ 65536) (hst : step ≤ 9) (h1 : 1 ≤ step) (n : Nat) : ∀ (i : Nat) (d t : ByteArray), s.size < i + n → i ≤ s.size + 9 → d.size ≤ i → t.size ≤ i →
    Ev (fun f => ean_readDigits.l0 f s p (step : Int) d t (i : Int)) (rdS s p step n i d t) := by
  induction n with
  | zero =>
    intro i d t hn hb hd ht
    refine Ev.succ ?_
    simp only [ean_readDigits.l0]
    rw [wrap_id _ (by omega) (by omega)]
    exact Ev.neg (by omega) (Ev.const rfl)
  | succ n ih =>
    intro i d t hn hb hd ht
    refine Ev.succ ?_
    simp only [ean_readDigits.l0]
    rw [wrap_id _ (by omega) (by omega)]
    by_cases h : i + 7 ≤ s.size
    · refine Ev.pos (by omega) ?_
      rw [wrap_id _ (by omega) (by omega), show 10 * (p.size : Int) = ((10 * p.size : Nat) : Int) by omega]
      refine grd_in s p step i d t _ hp h (by omega) (by omega) (by omega) hst (10 * p.size) 0 (by omega) ?_ ?_
      · intro k hk
        have e : rdS s p step (n + 1) i d t = rdS s p step n (i + step) (d ++ digB k) (t ++ setB p k) := by
          show (if i + 7 ≤ s.size then _ else _) = _
          rw [if_pos h]
          simp only [hk]
        rw [e]
        exact ih (i + step) _ _ (by omega) (by omega) (by rw [ap_size, show (digB k).size = 1 from rfl]; omega) (by rw [ap_size, show (setB p k).size = 1 from rfl]; omega)
      · intro hk
        show (if i + 7 ≤ s.size then _ else _) = _
        rw [if_pos h]
        simp only [hk]
    · have e : rdS s p step (n + 1) i d t = (d, t, true) := by
        show (if i + 7 ≤ s.size then _ else _) = _
        rw [if_neg h]
      rw [e]
      exact Ev.neg (by omega) (Ev.const rfl)
theorem grd (s p : ByteArray) (step : Nat) (hp : p.size ≤ 2) (hs : s.size ≤ 65536) (hst : step ≤ 9) (h1 : 1 ≤ step) : Ev (fun f => ean_readDigits.f f s p (step : Int)) (rdA s p step) := by
  unfold ean_readDigits.f
  exact grd_l s p step hp hs hst h1 (s.size + 1) 0 _ _ (by omega) (by omega) (Nat.le_refl _) (Nat.le_refl _)
theorem rd_sz (s p : ByteArray) (step n : Nat) : ∀ (i : Nat) (d t : ByteArray), (rdS s p step n i d t).1.size ≤ d.size + n ∧ (rdS s p step n i d t).2.1.size ≤ t.size + n := by
  induction n with
  | zero => intro i d t; exact ⟨Nat.le_refl _, Nat.le_refl _⟩
  | succ n ih =>
    intro i d t
    unfold rdS
    split
    · split
      · rename_i k _
        have := ih (i + step) (d ++ digB k) (t ++ setB p k)
        rw [ap_size, ap_size, show (digB k).size = 1 from rfl, show (setB p k).size = 1 from rfl] at this
        omega
      · exact ⟨Nat.zero_le _, Nat.zero_le _⟩
    · exact ⟨Nat.le_add_right _ _, Nat.le_add_right _ _⟩
theorem rdA_sz (s p : ByteArray) (step : Nat) : (rdA s p step).1.size ≤ s.size + 1 ∧ (rdA s p step).2.1.size ≤ s.size + 1 := by
  have := rd_sz s p step (s.size + 1) 0 ⟨#[]⟩ ⟨#[]⟩
  rw [show (⟨#[]⟩ : ByteArray).size = 0 from rfl, Nat.zero_add] at this
  exact this
/-- How many groups there are. -/
def cnt (z step : Nat) : Nat → Nat → Nat
  | 0, _ => 0
  | n + 1, i => if i + 7 ≤ z then cnt z step n (i + step) + 1 else 0
theorem rd_cnt (s p : ByteArray) (step n : Nat) : ∀ (i : Nat) (d t : ByteArray), (rdS s p step n i d t).2.2 = true → (rdS s p step n i d t).1.size = d.size + cnt s.size step n i ∧ (rdS s p step n i d t).2.1.size = t.size + cnt s.size step n i := by
  induction n with
  | zero => intro i d t _; exact ⟨rfl, rfl⟩
  | succ n ih =>
    intro i d t
    unfold rdS cnt
    by_cases h : i + 7 ≤ s.size
    · rw [if_pos h, if_pos h]
      split
      · rename_i k _
        intro ho
        have := ih (i + step) (d ++ digB k) (t ++ setB p k) ho
        rw [ap_size, ap_size, show (digB k).size = 1 from rfl, show (setB p k).size = 1 from rfl] at this
        omega
      · intro ho; cases ho
    · rw [if_neg h, if_neg h]
      intro _
      exact ⟨rfl, rfl⟩
/-! ### Where a text stands in a list -/
def idxL (x : ByteArray) : List ByteArray → Nat → Int
  | [], _ => -1
  | y :: r, j => if x = y then (j : Int) else idxL x r (j + 1)
theorem gidx_l (l : List ByteArray) (x : ByteArray) (hl : l.length ≤ 100) (n : Nat) : ∀ j : Nat, j + n = l.length → Ev (fun k => slices_Index_string_string.l0 k l x (l.length : Int) (j : Int)) (idxL x (l.drop j) j) := by
  induction n with
  | zero =>
    intro j h
    refine Ev.succ ?_
    simp only [slices_Index_string_string.l0]
    rw [List.drop_of_length_le (by omega)]
    exact Ev.neg (by omega) (Ev.const rfl)
  | succ n ih =>
    intro j h
    refine Ev.succ ?_
    simp only [slices_Index_string_string.l0]
    rw [List.drop_eq_getElem_cons (by omega), rdOf_nat _ l j (by omega), wrap_next j (by omega)]
    refine Ev.pos (by omega) (Ev.pos (by omega) (Ev.pos (by omega) ?_))
    unfold idxL
    by_cases hx : x = l[j]
    · rw [if_pos hx]
      exact Ev.pos ((tl_iff _ _).2 hx) (Ev.const rfl)
    · rw [if_neg hx]
      exact Ev.neg (fun h => hx ((tl_iff _ _).1 h)) (ih (j + 1) (by omega))
theorem gidx (l : List ByteArray) (x : ByteArray) (hl : l.length ≤ 100) : Ev (fun k => slices_Index_string_string.f k l x) (idxL x l 0) := by
  unfold slices_Index_string_string.f
  have := gidx_l l x hl l.length 0 (by omega)
  rwa [List.drop_zero] at this
theorem idx_bd (x : ByteArray) (l : List ByteArray) : ∀ j : Nat, idxL x l j = -1 ∨ (j : Int) ≤ idxL x l j ∧ idxL x l j < (j : Int) + l.length := by
  induction l with
  | nil => intro j; exact .inl rfl
  | cons y r ih =>
    intro j
    unfold idxL
    split
    · right; rw [List.length_cons]; omega
    · have := ih (j + 1)
      rw [List.length_cons]
      omega
/-! ### Symbols, read -/
def bAB : ByteArray := ⟨#[65, 66]⟩
def bA : ByteArray := ⟨#[65]⟩
def bC : ByteArray := ⟨#[67]⟩
def bad (e : Int) : Int × ByteArray × ByteArray × Int := (0, ⟨#[]⟩, ⟨#[]⟩, e)
def flipB (t : ByteArray) : ByteArray := ⟨((bs t).map (swapB 65 66)).toArray⟩
def dg (c : Int) : ByteArray := strOfNums [(wrap64 (48 + c)) % 256]
def finE (sy d : ByteArray) (c : Int) : Int × ByteArray × ByteArray × Int :=
  if c < 0 then bad 18 else if cmpS 4 ((sy ++ d) ++ dg c) = 0 then (4, (sy ++ d) ++ dg c, ⟨#[]⟩, 0) else bad 8
def readES (s : ByteArray) : Int × ByteArray × ByteArray × Int :=
  if ¬ s.extract 0 3 = b101 then bad 19 else if ¬ s.extract 45 s.size = bEnd then bad 20
  else if (rdA (s.extract 3 45) bAB 7).2.2 = true then (if idxL (rdA (s.extract 3 45) bAB 7).2.1 parE 0 < 0 then finE ⟨#[49]⟩ (rdA (s.extract 3 45) bAB 7).1 (idxL (flipB (rdA (s.extract 3 45) bAB 7).2.1) parE 0)
    else finE ⟨#[48]⟩ (rdA (s.extract 3 45) bAB 7).1 (idxL (rdA (s.extract 3 45) bAB 7).2.1 parE 0)) else bad 18
theorem lit_iff (s t : ByteArray) (l : List UInt8) (h : bs t = l) : s.toList = l ↔ s = t := by
  rw [bs_toList, ← h]
  exact ⟨bs_inj, fun h => by rw [h]⟩
theorem greadE_j2 (d sy : ByteArray) (c : Int) (b : Bool) (hb : b = decide (c < 0)) (hd : d.size ≤ 100) (hs : sy.size ≤ 1) : Ev (fun k => ean_readE.j2 k d sy c b) (finE sy d c) := by
  have hz : (dg c).size = 1 := rfl
  unfold finE
  refine Ev.succ ?_
  simp only [ean_readE.j2]
  by_cases h : c < 0
  · rw [if_pos h]
    exact Ev.pos (by rw [hb]; exact decide_eq_true h) (Ev.const rfl)
  · rw [if_neg h]
    refine Ev.neg (by rw [hb]; simpa using h) (Ev.pos (by omega) ?_)
    simp only [Option.bind_some]
    have hw : ((sy ++ d) ++ dg c).size ≤ 9223372036854775807 := by simp only [ap_size, hz]; omega
    refine Ev.pos (by rw [ap_size, one_sz]; omega) (Ev.bind (Ev.add 1 fun k => gcomplete k 4 ((sy ++ d) ++ dg c) hw) ?_)
    by_cases hc : cmpS 4 ((sy ++ d) ++ dg c) = 0
    · simp only [if_pos hc]; exact Ev.const rfl
    · simp only [if_neg hc]; exact Ev.const rfl
theorem greadE (s : ByteArray) (hz : s.size = 51) : Ev (fun k => ean_readE.f k s) (readES s) := by
  unfold ean_readE.f readES
  have z := rdA_sz (s.extract 3 45) bAB 7
  rw [ex_size] at z
  refine Ev.pos (by decide) (Ev.pos (by omega) ?_)
  by_cases h1 : s.extract 0 3 = b101
  rotate_left
  · rw [if_pos h1]; exact Ev.neg (fun h => h1 ((lit_iff _ b101 _ rfl).1 h)) (Ev.const rfl)
  rw [if_neg (fun h => h h1)]
  refine Ev.pos ((lit_iff _ b101 _ rfl).2 h1) (Ev.pos (by omega) ?_)
  by_cases h2 : s.extract 45 s.size = bEnd
  rotate_left
  · rw [if_pos h2]; exact Ev.neg (fun h => h2 ((lit_iff _ bEnd _ rfl).1 h)) (Ev.const rfl)
  rw [if_neg (fun h => h h2)]
  refine Ev.pos ((lit_iff _ bEnd _ rfl).2 h2) (Ev.pos (by decide) (Ev.bind (grd (s.extract 3 45) bAB 7 (by decide) (by rw [ex_size]; omega) (by decide) (by decide)) ?_))
  generalize rdA (s.extract 3 45) bAB 7 = r at z
  refine Ev.bind (a := parE) (Ev.const rfl) (Ev.bind (gidx parE r.2.1 (by decide)) ?_)
  by_cases ho : r.2.2 = true
  · rw [if_pos ho]
    refine Ev.pos ho (Ev.succ ?_)
    simp only [ean_readE.j0]
    by_cases hc : idxL r.2.1 parE 0 < 0
    · rw [if_pos hc]
      refine Ev.pos (decide_eq_true hc) (Ev.bind (a := parE) (Ev.const rfl) (Ev.bind (Ev.const (flip_AB _ (by omega))) (Ev.bind (gidx parE (flipB r.2.1) (by decide)) (Ev.succ ?_))))
      simp only [ean_readE.j1]
      refine Ev.pos ho (greadE_j2 _ _ _ _ rfl (by omega) (by decide))
    · rw [if_neg hc]
      refine Ev.neg (by simpa using hc) (Ev.succ ?_)
      simp only [ean_readE.j1]
      refine Ev.pos ho (greadE_j2 _ _ _ _ rfl (by omega) (by decide))
  · rw [if_neg ho]
    refine Ev.neg ho (Ev.succ ?_)
    simp only [ean_readE.j0]
    refine Ev.neg (by decide) (Ev.succ ?_)
    simp only [ean_readE.j1]
    refine Ev.neg ho (Ev.succ ?_)
    simp only [ean_readE.j2]
    exact Ev.pos trivial (Ev.const rfl)
def finX (a b : Bool) (k : Int) (t : ByteArray) : Int × ByteArray × ByteArray × Int := if a = true ∧ b = true then (if cmpS k t = 0 then (k, t, ⟨#[]⟩, 0) else bad 8) else bad 18
def readXS (s : ByteArray) (h : Nat) (p : ByteArray) : Int × ByteArray × ByteArray × Int :=
  if ¬ s.extract 0 3 = b101 then bad 19 else if ¬ s.extract (s.size - 3) s.size = b101 then bad 20 else if ¬ s.extract (3 + h) (8 + h) = bMid then bad 18
  else if s.size = 95 then (if idxL (rdA (s.extract 3 (3 + h)) p 7).2.1 par13 0 < 0 then bad 18
    else if idxL (rdA (s.extract 3 (3 + h)) p 7).2.1 par13 0 = 0 then finX (rdA (s.extract 3 (3 + h)) p 7).2.2 (rdA (s.extract (8 + h) (s.size - 3)) bC 7).2.2 3 ((rdA (s.extract 3 (3 + h)) p 7).1 ++ (rdA (s.extract (8 + h) (s.size - 3)) bC 7).1)
    else finX (rdA (s.extract 3 (3 + h)) p 7).2.2 (rdA (s.extract (8 + h) (s.size - 3)) bC 7).2.2 1 ((dg (idxL (rdA (s.extract 3 (3 + h)) p 7).2.1 par13 0) ++ (rdA (s.extract 3 (3 + h)) p 7).1) ++ (rdA (s.extract (8 + h) (s.size - 3)) bC 7).1))
  else finX (rdA (s.extract 3 (3 + h)) p 7).2.2 (rdA (s.extract (8 + h) (s.size - 3)) bC 7).2.2 2 ((rdA (s.extract 3 (3 + h)) p 7).1 ++ (rdA (s.extract (8 + h) (s.size - 3)) bC 7).1)
def readS (s : ByteArray) : Int × ByteArray × ByteArray × Int := if s.size = 51 then readES s else if s.size = 67 then readXS s 28 bA else readXS s 42 bAB
theorem gread_j1 (a b : Bool) (k : Int) (t : ByteArray) (ht : t.size ≤ 300) : Ev (fun f => ean_read.j1 f a b k t ⟨#[]⟩) (finX a b k t) := by
  have hk : Ev (fun f => (ean_complete.f f k t).bind fun t423 => (if t423 = 0 then some (k, t, (⟨#[]⟩ : ByteArray), (0 : Int)) else some (0, (⟨#[]⟩ : ByteArray), (⟨#[]⟩ : ByteArray), 8))) (if cmpS k t = 0 then (k, t, ⟨#[]⟩, 0) else bad 8) := by
    refine Ev.bind (Ev.add 1 fun f => gcomplete f k t (by omega)) ?_
    by_cases hc : cmpS k t = 0
    · simp only [if_pos hc]; exact Ev.const rfl
    · simp only [if_neg hc]; exact Ev.const rfl
  unfold finX
  refine Ev.succ ?_
  simp only [ean_read.j1]
  cases a with
  | false =>
    rw [if_neg (fun h => by cases h.1)]
    refine Ev.neg (by decide) (Ev.succ ?_)
    simp only [ean_read.j2]
    exact Ev.pos trivial (Ev.const rfl)
  | true =>
    refine Ev.pos rfl (Ev.succ ?_)
    simp only [ean_read.j2]
    cases b with
    | false =>
      rw [if_neg (fun h => by cases h.2)]
      exact Ev.pos rfl (Ev.const rfl)
    | true =>
      rw [if_pos ⟨trivial, rfl⟩]
      exact Ev.neg (by decide) hk
theorem gread_x (s : ByteArray) (h : Nat) (p : ByteArray) (hp : p.size ≤ 2) (hz : s.size = 11 + 2 * h) (hh : h ≤ 42) (F : Nat → Option (Int × ByteArray × ByteArray × Int))
    (hF : ∀ k, F k = if 0 ≤ 3 then (if 3 ≤ (s.size : Int) then (if (s.extract 0 3).toList = ([49, 48, 49] : List UInt8) then (if 0 ≤ (wrap64 ((s.size : Int) - 3)) then (if (wrap64 ((s.size : Int) - 3)) ≤ (s.size : Int) then (if (s.extract ((wrap64 ((s.size : Int) - 3)) : Int).toNat s.size).toList = ([49, 48, 49] : List UInt8) then (if 0 ≤ (wrap64 (3 + (wrap64 (Int.tdiv (wrap64 ((s.size : Int) - 11)) 2)))) then (if (wrap64 (3 + (wrap64 (Int.tdiv (wrap64 ((s.size : Int) - 11)) 2)))) ≤ (wrap64 (8 + (wrap64 (Int.tdiv (wrap64 ((s.size : Int) - 11)) 2)))) then (if (wrap64 (8 + (wrap64 (Int.tdiv (wrap64 ((s.size : Int) - 11)) 2)))) ≤ (s.size : Int) then (if (s.extract ((wrap64 (3 + (wrap64 (Int.tdiv (wrap64 ((s.size : Int) - 11)) 2)))) : Int).toNat ((wrap64 (8 + (wrap64 (Int.tdiv (wrap64 ((s.size : Int) - 11)) 2)))) : Int).toNat).toList = ([48, 49, 48, 49, 48] : List UInt8) then (ean_read.j0 k s (wrap64 (Int.tdiv (wrap64 ((s.size : Int) - 11)) 2)) p) else (some (0, (⟨#[]⟩ : ByteArray), (⟨#[]⟩ : ByteArray), 18))) else (none)) else (none)) else (none)) else (some (0, (⟨#[]⟩ : ByteArray), (⟨#[]⟩ : ByteArray), 20))) else (none)) else (none)) else (some (0, (⟨#[]⟩ : ByteArray), (⟨#[]⟩ : ByteArray), 19))) else (none)) else (none)) :
    Ev F (readXS s h p) := by
  have w1 : ∀ _ : Unit, wrap64 ((s.size : Int) - 3) = ((s.size - 3 : Nat) : Int) := fun _ => by rw [wrap_id _ (by omega) (by omega)]; omega
  have w2 : ∀ _ : Unit, wrap64 (Int.tdiv (wrap64 ((s.size : Int) - 11)) 2) = (h : Int) := fun _ => by
    rw [wrap_id ((s.size : Int) - 11) (by omega) (by omega), Int.tdiv_eq_ediv_of_nonneg (by omega), wrap_id _ (by omega) (by omega)]; omega
  have w3 : ∀ _ : Unit, wrap64 (3 + (h : Int)) = ((3 + h : Nat) : Int) := fun _ => by rw [wrap_id _ (by omega) (by omega)]; omega
  have w8 : ∀ _ : Unit, wrap64 (8 + (h : Int)) = ((8 + h : Nat) : Int) := fun _ => by rw [wrap_id _ (by omega) (by omega)]; omega
  refine Ev.congr ?_ hF
  rw [w2 (), w3 (), w8 (), w1 (), Int.toNat_natCast, Int.toNat_natCast, Int.toNat_natCast]
  unfold readXS
  refine Ev.pos (by decide) (Ev.pos (by omega) ?_)
  by_cases h1 : s.extract 0 3 = b101
  rotate_left
  · rw [if_pos h1]; exact Ev.neg (fun h => h1 ((lit_iff _ b101 _ rfl).1 h)) (Ev.const rfl)
  rw [if_neg (fun h => h h1)]
  refine Ev.pos ((lit_iff _ b101 _ rfl).2 h1) (Ev.pos (by omega) (Ev.pos (by omega) ?_))
  by_cases h2 : s.extract (s.size - 3) s.size = b101
  rotate_left
  · rw [if_pos h2]; exact Ev.neg (fun h => h2 ((lit_iff _ b101 _ rfl).1 h)) (Ev.const rfl)
  rw [if_neg (fun h => h h2)]
  refine Ev.pos ((lit_iff _ b101 _ rfl).2 h2) (Ev.pos (by omega) (Ev.pos (by omega) (Ev.pos (by omega) ?_)))
  by_cases h3 : s.extract (3 + h) (8 + h) = bMid
  rotate_left
  · rw [if_pos h3]; exact Ev.neg (fun h => h3 ((lit_iff _ bMid _ rfl).1 h)) (Ev.const rfl)
  rw [if_neg (fun h => h h3)]
  refine Ev.pos ((lit_iff _ bMid _ rfl).2 h3) (Ev.succ ?_)
  simp only [ean_read.j0]
  rw [w3 (), w8 (), w1 (), Int.toNat_natCast, Int.toNat_natCast, Int.toNat_natCast]
  have za := rdA_sz (s.extract 3 (3 + h)) p 7
  have zb := rdA_sz (s.extract (8 + h) (s.size - 3)) bC 7
  rw [ex_size] at za zb
  refine Ev.pos (by omega) (Ev.pos (by omega) (Ev.bind (grd (s.extract 3 (3 + h)) p 7 hp (by rw [ex_size]; omega) (by decide) (by decide)) (Ev.pos (by omega) (Ev.pos (by omega) (Ev.pos (by omega)
    (Ev.bind (grd (s.extract (8 + h) (s.size - 3)) bC 7 (by decide) (by rw [ex_size]; omega) (by decide) (by decide)) ?_))))))
  generalize rdA (s.extract 3 (3 + h)) p 7 = ra at za
  generalize rdA (s.extract (8 + h) (s.size - 3)) bC 7 = rb at zb
  refine Ev.pos (by omega) ?_
  by_cases h95 : s.size = 95
  · rw [if_pos h95]
    refine Ev.pos (by omega) (Ev.bind (a := par13) (Ev.const rfl) (Ev.bind (gidx par13 ra.2.1 (by decide)) ?_))
    by_cases hc : idxL ra.2.1 par13 0 < 0
    · rw [if_pos hc]; exact Ev.pos hc (Ev.const rfl)
    rw [if_neg hc]
    refine Ev.neg hc ?_
    simp only [Option.bind_some]
    have hz : (dg (idxL ra.2.1 par13 0)).size = 1 := rfl
    refine Ev.pos (by rw [one_sz]; omega) (Ev.pos (by rw [ap_size, one_sz]; omega) ?_)
    by_cases h0 : idxL ra.2.1 par13 0 = 0
    · rw [if_pos h0]
      exact Ev.pos h0 (gread_j1 _ _ _ _ (by rw [ap_size]; omega))
    · rw [if_neg h0]
      exact Ev.neg h0 (gread_j1 _ _ _ _ (by simp only [ap_size, one_sz]; omega))
  · rw [if_neg h95]
    exact Ev.neg (by omega) (gread_j1 _ _ _ _ (by rw [ap_size]; omega))
theorem gread (s : ByteArray) (hz : s.size = 51 ∨ s.size = 67 ∨ s.size = 95) : Ev (fun k => ean_read.f k s) (readS s) := by
  unfold ean_read.f readS
  by_cases h1 : s.size = 51
  · rw [if_pos h1]
    exact Ev.pos (by omega) (Ev.bind (greadE s h1) (Ev.const rfl))
  rw [if_neg h1]
  refine Ev.neg (by omega) ?_
  by_cases h2 : s.size = 67
  · rw [if_pos h2]
    refine gread_x s 28 bA (by decide) (by omega) (by omega) _ fun k => ?_
    rw [if_pos (show (s.size : Int) = 67 by omega)]
    rfl
  · rw [if_neg h2]
    refine gread_x s 42 bAB (by decide) (by omega) (by omega) _ fun k => ?_
    rw [if_neg (show ¬ (s.size : Int) = 67 by omega)]
    rfl
/-! ### The add-on, read -/
def gapsOk (s : ByteArray) : Nat → Nat → Bool
  | 0, _ => true
  | n + 1, i => if i < s.size then (if s.extract i (i + 2) = b01 then gapsOk s n (i + 9) else false) else true
def readAS (s : ByteArray) : ByteArray × Int :=
  if ¬ s.extract 0 4 = bAdd then (⟨#[]⟩, 19) else if gapsOk s (s.size + 1) 11 = true then (if (rdA (s.extract 4 s.size) bAB 9).2.2 = true then (if (rdA (s.extract 4 s.size) bAB 9).2.1 = setsS (rdA (s.extract 4 s.size) bAB 9).1 then ((rdA (s.extract 4 s.size) bAB 9).1, 0) else (⟨#[]⟩, 8)) else (⟨#[]⟩, 18)) else (⟨#[]⟩, 18)
theorem greadA_l (s : ByteArray) (hz : s.size = 20 ∨ s.size = 47) (n : Nat) : ∀ i : Nat, s.size < i + n → (∃ q, i = 11 + 9 * q) → i ≤ 60 → Ev (fun k => ean_readAddOn.l0 k s (i : Int)) (if gapsOk s n i = true then (if (rdA (s.extract 4 s.size) bAB 9).2.2 = true then (if (rdA (s.extract 4 s.size) bAB 9).2.1 = setsS (rdA (s.extract 4 s.size) bAB 9).1 then ((rdA (s.extract 4 s.size) bAB 9).1, 0) else (⟨#[]⟩, 8)) else (⟨#[]⟩, 18)) else (⟨#[]⟩, (18 : Int))) := by
  have fin : ∀ i : Nat, s.size ≤ i → Ev (fun k => ean_readAddOn.l0 k s (i : Int)) (if (rdA (s.extract 4 s.size) bAB 9).2.2 = true then (if (rdA (s.extract 4 s.size) bAB 9).2.1 = setsS (rdA (s.extract 4 s.size) bAB 9).1 then ((rdA (s.extract 4 s.size) bAB 9).1, 0) else (⟨#[]⟩, 8)) else (⟨#[]⟩, (18 : Int))) := by
    intro i hi
    refine Ev.succ ?_
    simp only [ean_readAddOn.l0]
    have hc := rd_cnt (s.extract 4 s.size) bAB 9 ((s.extract 4 s.size).size + 1) 0 ⟨#[]⟩ ⟨#[]⟩
    have hx : (s.extract 4 s.size).size = s.size - 4 := by rw [ex_size]; omega
    have h0 : (⟨#[]⟩ : ByteArray).size = 0 := rfl
    refine Ev.neg (by omega) (Ev.pos (by omega) (Ev.bind (grd (s.extract 4 s.size) bAB 9 (by decide) (by omega) (by decide) (by decide)) ?_))
    by_cases ho : (rdA (s.extract 4 s.size) bAB 9).2.2 = true
    · rw [if_pos ho]
      have hcc : cnt (s.extract 4 s.size).size 9 ((s.extract 4 s.size).size + 1) 0 = 2 ∨ cnt (s.extract 4 s.size).size 9 ((s.extract 4 s.size).size + 1) 0 = 5 := by
        rw [hx]
        rcases hz with h | h
        · rw [h]; left; decide
        · rw [h]; right; decide
      have hd : (rdA (s.extract 4 s.size) bAB 9).1.size = 2 ∨ (rdA (s.extract 4 s.size) bAB 9).1.size = 5 := by
        have h1 := (hc ho).1
        rw [h0, Nat.zero_add] at h1
        have h2 : (rdA (s.extract 4 s.size) bAB 9).1.size = cnt (s.extract 4 s.size).size 9 ((s.extract 4 s.size).size + 1) 0 := h1
        rw [h2]; exact hcc
      refine Ev.pos ho (Ev.bind (gsetsOf _ hd) ?_)
      by_cases he : (rdA (s.extract 4 s.size) bAB 9).2.1 = setsS (rdA (s.extract 4 s.size) bAB 9).1
      · rw [if_pos he]; exact Ev.pos ((tl_iff _ _).2 he) (Ev.const rfl)
      · rw [if_neg he]; exact Ev.neg (fun h => he ((tl_iff _ _).1 h)) (Ev.const rfl)
    · rw [if_neg ho]; exact Ev.neg ho (Ev.const rfl)
  induction n with
  | zero =>
    intro i hn _ _
    exact fin i (by omega)
  | succ n ih =>
    intro i hn hq hb
    unfold gapsOk
    by_cases h : i < s.size
    · rw [if_pos h]
      obtain ⟨q, hq⟩ := hq
      have e1 : wrap64 ((i : Int) + 2) = ((i + 2 : Nat) : Int) := by rw [wrap_id _ (by omega) (by omega)]; omega
      have e2 : wrap64 ((i : Int) + 9) = ((i + 9 : Nat) : Int) := by rw [wrap_id _ (by omega) (by omega)]; omega
      refine Ev.succ ?_
      simp only [ean_readAddOn.l0]
      rw [e1, e2, Int.toNat_natCast, Int.toNat_natCast]
      refine Ev.pos (by omega) (Ev.pos (by omega) (Ev.pos (by omega) (Ev.pos (by omega) ?_)))
      by_cases hg : s.extract i (i + 2) = b01
      · rw [if_pos hg]
        exact Ev.pos ((lit_iff _ b01 _ rfl).2 hg) (ih (i + 9) (by omega) ⟨q + 1, by omega⟩ (by omega))
      · rw [if_neg hg, if_neg (by decide)]
        exact Ev.neg (fun h => hg ((lit_iff _ b01 _ rfl).1 h)) (Ev.const rfl)
    · rw [if_neg h, if_pos rfl]
      exact fin i (by omega)
theorem greadA (s : ByteArray) (hz : s.size = 20 ∨ s.size = 47) : Ev (fun k => ean_readAddOn.f k s) (readAS s) := by
  unfold ean_readAddOn.f readAS
  refine Ev.pos (by decide) (Ev.pos (by omega) ?_)
  by_cases h1 : s.extract 0 4 = bAdd
  · rw [if_neg (fun h => h h1)]
    exact Ev.pos ((lit_iff _ bAdd _ rfl).2 h1) (greadA_l s hz (s.size + 1) 11 (by omega) ⟨0, rfl⟩ (by omega))
  · rw [if_pos h1]
    exact Ev.neg (fun h => h1 ((lit_iff _ bAdd _ rfl).1 h)) (Ev.const rfl)
/-! ### A shape -/
def hasOne (s : ByteArray) : Bool := decide (0 ≤ Lib.indexByte (bs s) 49)
def noFit : Int × ByteArray × ByteArray × Int × Bool := (0, ⟨#[]⟩, ⟨#[]⟩, 0, false)
/-- n: the symbol's modules, m: the add-on's. -/
def shapeS (c : ByteArray) (n m : Nat) : Int × ByteArray × ByteArray × Int × Bool :=
  if m = 0 then (if c.size = n then ((readS c).1, (readS c).2.1, (readS c).2.2.1, (readS c).2.2.2, true) else noFit)
  else if c.size < n + m + 7 ∨ n + m + 12 < c.size then noFit else if hasOne (c.extract n (c.size - m)) = true then noFit
  else if (readS (c.extract 0 n)).2.2.2 = 0 then (if (readAS (c.extract (c.size - m) c.size)).2 = 0 then ((readS (c.extract 0 n)).1, (readS (c.extract 0 n)).2.1, (readAS (c.extract (c.size - m) c.size)).1, 0, true)
    else (0, ⟨#[]⟩, ⟨#[]⟩, (readAS (c.extract (c.size - m) c.size)).2, true)) else (0, ⟨#[]⟩, ⟨#[]⟩, (readS (c.extract 0 n)).2.2.2, true)
theorem gshape (c : ByteArray) (hc : c.size ≤ 65536) (n m : Nat) (hn : n = 95 ∨ n = 67 ∨ n = 51) (hm : m = 0 ∨ m = 20 ∨ m = 47) : Ev (fun k => ean_shape.f k c (n : Int) (m : Int)) (shapeS c n m) := by
  unfold ean_shape.f shapeS
  by_cases h0 : m = 0
  · subst h0
    rw [if_pos rfl]
    refine Ev.pos rfl ?_
    by_cases hz : c.size = n
    · rw [if_pos hz]
      exact Ev.pos (by omega) (Ev.bind (gread c (by omega)) (Ev.const rfl))
    · rw [if_neg hz]
      exact Ev.neg (by omega) (Ev.const rfl)
  rw [if_neg h0]
  refine Ev.neg (by omega) ?_
  obtain ⟨g, hg⟩ : ∃ g : Int, (c.size : Int) - n - m = g := ⟨_, rfl⟩
  have w1 : wrap64 ((wrap64 ((c.size : Int) - (n : Int))) - (m : Int)) = g := by rw [wrap_id ((c.size : Int) - (n : Int)) (by omega) (by omega), wrap_id _ (by omega) (by omega), hg]
  rw [w1]
  clear w1
  have hno : ∀ q : Int, Ev (fun k => ean_shape.j0 k c (n : Int) 0 q true 0 (⟨#[]⟩ : ByteArray) (⟨#[]⟩ : ByteArray)) noFit := by
    intro q
    refine Ev.succ ?_
    simp only [ean_shape.j0]
    exact Ev.pos trivial (Ev.const rfl)
  by_cases h1 : g < 7
  · rw [if_pos (.inl (by omega))]
    exact Ev.pos h1 (hno g)
  refine Ev.neg h1 ?_
  by_cases h2 : g > 12
  · rw [if_pos (.inr (by omega))]
    exact Ev.pos h2 (hno g)
  refine Ev.neg h2 ?_
  rw [if_neg (by omega)]
  have w2 : ∀ _ : Unit, wrap64 ((n : Int) + g) = ((c.size - m : Nat) : Int) := fun _ => by rw [wrap_id _ (by omega) (by omega)]; omega
  rw [w2 (), Int.toNat_natCast, Int.toNat_natCast]
  refine Ev.pos (by omega) (Ev.pos (by omega) (Ev.pos (by omega) (Ev.bind (a := hasOne (c.extract n (c.size - m))) (Ev.const rfl) ?_)))
  by_cases h3 : hasOne (c.extract n (c.size - m)) = true
  · rw [if_pos h3, h3]
    exact hno g
  rw [if_neg h3]
  have e3 : hasOne (c.extract n (c.size - m)) = false := by simpa using h3
  rw [e3]
  refine Ev.succ ?_
  simp only [ean_shape.j0]
  rw [w2 (), Int.toNat_natCast, Int.toNat_natCast]
  have g1 := gread (c.extract 0 n) (by rw [ex_size]; omega)
  have g2 := greadA (c.extract (c.size - m) c.size) (by rw [ex_size]; omega)
  have b1 : (n : Int) ≤ (c.size : Int) := by omega
  have b2 : (0 : Int) ≤ ((c.size - m : Nat) : Int) := by omega
  have b3 : ((c.size - m : Nat) : Int) ≤ (c.size : Int) := by omega
  have b4 : (0 : Int) ≤ (n : Int) := by omega
  generalize readS (c.extract 0 n) = x at g1 ⊢
  generalize readAS (c.extract (c.size - m) c.size) = y at g2 ⊢
  refine Ev.neg (by decide) (Ev.pos b4 (Ev.pos b1 (Ev.bind g1 ?_)))
  by_cases h4 : x.2.2.2 = 0
  · rw [if_pos h4]
    refine Ev.pos h4 (Ev.pos b2 (Ev.pos b3 (Ev.bind g2 ?_)))
    by_cases h5 : y.2 = 0
    · simp only [if_pos h5]; exact Ev.const rfl
    · simp only [if_neg h5]; exact Ev.const rfl
  · rw [if_neg h4]; exact Ev.neg h4 (Ev.const rfl)
/-! ### The row -/
def tryS (c : ByteArray) : List (Nat × Nat) → Int → Int × ByteArray × ByteArray × Int
  | [], e => bad e
  | (n, m) :: r, e => if (shapeS c n m).2.2.2.2 = true then (if (shapeS c n m).2.2.2.1 = 0 then ((shapeS c n m).1, (shapeS c n m).2.1, (shapeS c n m).2.2.1, 0) else tryS c r (if e = 7 then (shapeS c n m).2.2.2.1 else e)) else tryS c r e
def shapes : List (Nat × Nat) := [(95, 0), (95, 20), (95, 47), (67, 0), (67, 20), (67, 47), (51, 0), (51, 20), (51, 47)]
def txtS (l : List Bool) : ByteArray := ⟨(l.map fun x => if x = true then (49 : UInt8) else 48).toArray⟩
def coreS (l : List Bool) : ByteArray := ⟨(Lib.trimS (bs (txtS l)) [48]).toArray⟩
def decS (l : List Bool) : Int × ByteArray × ByteArray × Int :=
  if l.length > 65536 then bad 4 else if (coreS l).size = 0 then bad 5 else if Lib.indexByte (bs (txtS l)) 49 < 7 then bad 9
  else if (l.length : Int) - Lib.indexByte (bs (txtS l)) 49 - (coreS l).size < 7 then bad 9 else tryS (coreS l) shapes 7
theorem gtext_l (l : List Bool) (hl : l.length ≤ 65536) (n : Nat) : ∀ i : Nat, i + n = l.length → Ev (fun k => ean_text.l0 k ((l.map fun x => if x = true then (49 : Int) else 48).take i ++ List.replicate n 0) l (l.length : Int) (i : Int)) (txtS l) := by
  have hm : (l.map fun x => if x = true then (49 : Int) else 48).length = l.length := by rw [List.length_map]
  induction n with
  | zero =>
    intro i h
    refine Ev.succ ?_
    simp only [ean_text.l0]
    rw [List.take_of_length_le (by omega), List.replicate_zero, List.append_nil]
    refine Ev.neg (by omega) (Ev.const ?_)
    congr 1
    apply bs_inj
    show (l.map fun x => if x = true then (49 : Int) else 48).map (fun n => UInt8.ofNat n.toNat) = l.map fun x => if x = true then (49 : UInt8) else 48
    rw [List.map_map]
    apply List.map_congr_left
    intro x _
    cases x <;> rfl
  | succ n ih =>
    intro i h
    refine Ev.succ ?_
    simp only [ean_text.l0]
    rw [Int.toNat_natCast, wrap_next i (by omega), rdOf_nat _ l i (by omega)]
    have hlen : ((l.map fun x => if x = true then (49 : Int) else 48).take i ++ List.replicate (n + 1) (0 : Int)).length = l.length := by rw [List.length_append, List.length_take, List.length_replicate]; omega
    refine Ev.pos (by omega) (Ev.pos (by omega) (Ev.pos (by omega) (Ev.pos (by omega) ?_)))
    simp only [Option.bind_some]
    have st : ∀ v : Int, ((l.map fun x => if x = true then (49 : Int) else 48).take i ++ List.replicate (n + 1) (0 : Int)).set i v = (l.map fun x => if x = true then (49 : Int) else 48).take i ++ v :: List.replicate n 0 := by
      intro v
      rw [List.set_append_right _ _ (by rw [List.length_take]; omega), List.length_take, show i - min i (l.map fun x => if x = true then (49 : Int) else 48).length = 0 by omega, List.replicate_succ, List.set_cons_zero]
    have st2 : ∀ v u : Int, ((l.map fun x => if x = true then (49 : Int) else 48).take i ++ v :: List.replicate n 0).set i u = (l.map fun x => if x = true then (49 : Int) else 48).take i ++ u :: List.replicate n 0 := by
      intro v u
      rw [List.set_append_right _ _ (by rw [List.length_take]; omega), List.length_take, show i - min i (l.map fun x => if x = true then (49 : Int) else 48).length = 0 by omega, List.set_cons_zero]
    have nx : (l.map fun x => if x = true then (49 : Int) else 48).take (i + 1) ++ List.replicate n (0 : Int) = (l.map fun x => if x = true then (49 : Int) else 48).take i ++ (if l[i] = true then (49 : Int) else 48) :: List.replicate n 0 := by
      rw [List.take_succ_eq_append_getElem (by omega), List.append_assoc, List.getElem_map]; rfl
    have ih2 := ih (i + 1) (by omega)
    rw [nx] at ih2
    rw [st 48]
    by_cases hx : l[i] = true
    · rw [if_pos hx] at ih2
      rw [st2 48 49]
      exact Ev.pos hx ih2
    · rw [if_neg hx] at ih2
      exact Ev.neg hx ih2
theorem gtext (l : List Bool) (hl : l.length ≤ 65536) : Ev (fun k => ean_text.f k l) (txtS l) := by
  unfold ean_text.f
  rw [Int.toNat_natCast]
  exact Ev.pos (by omega) (Ev.pos (by omega) (gtext_l l hl l.length 0 (by omega)))
theorem txt_size (l : List Bool) : (txtS l).size = l.length := by unfold txtS; rw [mk_size, List.length_map]
theorem drop_le {α : Type} (p : α → Bool) (l : List α) : (l.dropWhile p).length ≤ l.length := by
  induction l with
  | nil => exact Nat.le_refl _
  | cons a l ih =>
    unfold List.dropWhile
    split
    · rw [List.length_cons]; omega
    · exact Nat.le_refl _
theorem core_le (l : List Bool) : (coreS l).size ≤ l.length := by
  unfold coreS
  rw [mk_size]
  unfold Lib.trimS Lib.trimLeftS Lib.trimRightS
  have h1 := drop_le (([48] : List UInt8).contains ·) (((bs (txtS l)).reverse.dropWhile (([48] : List UInt8).contains ·)).reverse)
  have h2 := drop_le (([48] : List UInt8).contains ·) (bs (txtS l)).reverse
  rw [List.length_reverse] at h1 h2
  rw [bs_len, txt_size] at h2
  omega
theorem gdec_step (c : ByteArray) (hc : c.size ≤ 65536) (n i j m : Nat) (e : Int) (R : Int × ByteArray × ByteArray × Int) (hn : n = 95 ∨ n = 67 ∨ n = 51) (hj : (j = 0 ∧ m = 0) ∨ (j = 1 ∧ m = 20) ∨ (j = 2 ∧ m = 47))
    (h : ∀ e2 : Int, (if (shapeS c n m).2.2.2.2 = true then (if (shapeS c n m).2.2.2.1 = 0 then False else e2 = (if e = 7 then (shapeS c n m).2.2.2.1 else e)) else e2 = e) → Ev (fun k => ean_Decode.l1 k c e2 (n : Int) [95, 67, 51] 3 (i : Int) [0, 20, 47] 3 ((j + 1 : Nat) : Int)) R)
    (hR : (shapeS c n m).2.2.2.2 = true → (shapeS c n m).2.2.2.1 = 0 → R = ((shapeS c n m).1, (shapeS c n m).2.1, (shapeS c n m).2.2.1, 0)) :
    Ev (fun k => ean_Decode.l1 k c e (n : Int) [95, 67, 51] 3 (i : Int) [0, 20, 47] 3 (j : Int)) R := by
  have hrd : rd [0, 20, 47] (j : Int) = (m : Int) := by rcases hj with ⟨rfl, rfl⟩ | ⟨rfl, rfl⟩ | ⟨rfl, rfl⟩ <;> rfl
  refine Ev.succ ?_
  simp only [ean_Decode.l1]
  rw [hrd]
  refine Ev.pos (by omega) (Ev.pos (by omega) (Ev.pos (by show (j : Int) < 3; omega) (Ev.bind (gshape c hc n m hn (by omega)) ?_)))
  generalize shapeS c n m = x at h hR
  have hw : wrap64 ((j : Int) + 1) = ((j + 1 : Nat) : Int) := wrap_next j (by omega)
  by_cases hf : x.2.2.2.2 = true
  · refine Ev.pos hf (Ev.succ ?_)
    simp only [ean_Decode.j2]
    rw [hw]
    by_cases h0 : x.2.2.2.1 = 0
    · rw [hR hf h0]
      exact Ev.pos (beq_iff_eq.2 h0) (Ev.const rfl)
    · refine Ev.neg (by simpa using h0) (Ev.pos hf ?_)
      by_cases h7 : e = 7
      · exact Ev.pos h7 (h _ (by rw [if_pos hf, if_neg h0, if_pos h7]))
      · exact Ev.neg h7 (h _ (by rw [if_pos hf, if_neg h0, if_neg h7]))
  · refine Ev.neg hf (Ev.succ ?_)
    simp only [ean_Decode.j2]
    rw [hw]
    exact Ev.neg (by decide) (Ev.neg hf (h _ (by rw [if_neg hf])))
theorem try_cons (c : ByteArray) (n m : Nat) (r : List (Nat × Nat)) (e : Int) : tryS c ((n, m) :: r) e = if (shapeS c n m).2.2.2.2 = true then (if (shapeS c n m).2.2.2.1 = 0 then ((shapeS c n m).1, (shapeS c n m).2.1, (shapeS c n m).2.2.1, 0) else tryS c r (if e = 7 then (shapeS c n m).2.2.2.1 else e)) else tryS c r e := rfl
theorem gdec_one (c : ByteArray) (hc : c.size ≤ 65536) (n i j m : Nat) (e : Int) (r : List (Nat × Nat)) (hn : n = 95 ∨ n = 67 ∨ n = 51) (hj : (j = 0 ∧ m = 0) ∨ (j = 1 ∧ m = 20) ∨ (j = 2 ∧ m = 47))
    (h : ∀ e2 : Int, Ev (fun k => ean_Decode.l1 k c e2 (n : Int) [95, 67, 51] 3 (i : Int) [0, 20, 47] 3 ((j + 1 : Nat) : Int)) (tryS c r e2)) :
    Ev (fun k => ean_Decode.l1 k c e (n : Int) [95, 67, 51] 3 (i : Int) [0, 20, 47] 3 (j : Int)) (tryS c ((n, m) :: r) e) := by
  refine gdec_step c hc n i j m e _ hn hj ?_ ?_
  · intro e2 he
    have e1 : tryS c ((n, m) :: r) e = tryS c r e2 := by
      rw [try_cons]
      by_cases hf : (shapeS c n m).2.2.2.2 = true
      · rw [if_pos hf] at he ⊢
        by_cases h0 : (shapeS c n m).2.2.2.1 = 0
        · rw [if_pos h0] at he; exact he.elim
        · rw [if_neg h0] at he ⊢
          rw [he]
      · rw [if_neg hf] at he ⊢
        rw [he]
    rw [e1]
    exact h e2
  · intro hf h0
    rw [try_cons, if_pos hf, if_pos h0]
theorem gdec_row (c : ByteArray) (hc : c.size ≤ 65536) (n i : Nat) (e : Int) (r : List (Nat × Nat)) (hn : (i = 0 ∧ n = 95) ∨ (i = 1 ∧ n = 67) ∨ (i = 2 ∧ n = 51))
    (h : ∀ e2 : Int, Ev (fun k => ean_Decode.l0 k c e2 [95, 67, 51] 3 ((i + 1 : Nat) : Int)) (tryS c r e2)) :
    Ev (fun k => ean_Decode.l0 k c e [95, 67, 51] 3 (i : Int)) (tryS c ((n, 0) :: (n, 20) :: (n, 47) :: r) e) := by
  have hrd : rd [95, 67, 51] (i : Int) = (n : Int) := by rcases hn with ⟨rfl, rfl⟩ | ⟨rfl, rfl⟩ | ⟨rfl, rfl⟩ <;> rfl
  refine Ev.succ ?_
  simp only [ean_Decode.l0, Option.bind_some]
  rw [hrd]
  refine Ev.pos (by omega) (Ev.pos (by omega) (Ev.pos (by show (i : Int) < 3; omega) ?_))
  refine gdec_one c hc n i 0 0 e _ (by omega) (by omega) fun e2 => gdec_one c hc n i 1 20 e2 _ (by omega) (by omega) fun e3 => gdec_one c hc n i 2 47 e3 _ (by omega) (by omega) fun e4 => ?_
  refine Ev.succ ?_
  simp only [ean_Decode.l1]
  rw [wrap_next i (by omega)]
  exact Ev.neg (by decide) (h e4)
theorem gDecode (l : List Bool) (hl : l.length ≤ 9223372036854775807) : Ev (fun k => ean_Decode.f k l) (decS l) := by
  unfold ean_Decode.f decS
  by_cases h1 : l.length > 65536
  · rw [if_pos h1]; exact Ev.pos (by omega) (Ev.const rfl)
  rw [if_neg h1]
  have hz := txt_size l
  have hcl := core_le l
  have htrim : strings_Trim.f (txtS l) (⟨#[48]⟩ : ByteArray) = some (coreS l) := by
    unfold strings_Trim.f
    rw [if_pos ⟨by omega, by decide, by decide⟩]
    rfl
  have hi1 := Lib.indexByte_ge (bs (txtS l)) 49
  have hi2 : Lib.indexByte (bs (txtS l)) 49 < 70000 := by
    by_cases hm : (49 : UInt8) ∈ bs (txtS l)
    · obtain ⟨o, ho, hlt, _, _⟩ := indexByte_mem hm
      rw [bs_len] at hlt
      omega
    · rw [indexByte_not hm]; decide
  refine Ev.neg (by omega) (Ev.bind (gtext l (by omega)) (Ev.bind (Ev.const htrim) (Ev.bind (a := Lib.indexByte (bs (txtS l)) 49) (Ev.const rfl) ?_)))
  by_cases h2 : (coreS l).size = 0
  · rw [if_pos h2]
    exact Ev.pos (by rw [bs_toList]; exact List.length_eq_zero_iff.1 ((bs_len _).trans h2)) (Ev.const rfl)
  rw [if_neg h2]
  refine Ev.neg (fun h => h2 (by rw [← bs_len, ← bs_toList, h]; rfl)) ?_
  by_cases h3 : Lib.indexByte (bs (txtS l)) 49 < 7
  · rw [if_pos h3]; exact Ev.pos h3 (Ev.const rfl)
  rw [if_neg h3]
  refine Ev.neg h3 ?_
  rw [hz, wrap_id ((l.length : Int) - Lib.indexByte (bs (txtS l)) 49) (by omega) (by omega), wrap_id _ (by omega) (by omega)]
  by_cases h4 : (l.length : Int) - Lib.indexByte (bs (txtS l)) 49 - (coreS l).size < 7
  · rw [if_pos h4]; exact Ev.pos h4 (Ev.const rfl)
  rw [if_neg h4]
  refine Ev.neg h4 ?_
  simp only [Option.bind_some]
  refine gdec_row (coreS l) (by omega) 95 0 7 _ (by omega) fun e2 => gdec_row (coreS l) (by omega) 67 1 e2 _ (by omega) fun e3 => gdec_row (coreS l) (by omega) 51 2 e3 _ (by omega) fun e4 => ?_
  refine Ev.succ ?_
  simp only [ean_Decode.l0]
  exact Ev.neg (by decide) (Ev.const rfl)
end Go.Proofs.YtjmeekceecpemaaGreatDoor.Q

/- What was drawn is read back: digits, sets, symbols, add-ons. -/
namespace Go.Proofs.YtjmeekceecpemaaGreatDoor.Q
open Go.RowKit Go.Proofs.YtjmeekceecpemaaGreatDoorW.PrintWords Go.Proofs.YtjmeekceecpemaaGreatDoorW.PrintLast Go.Proofs.YtjmeekceecpemaaGreatDoorW.PrintMore
set_option linter.unusedVariables false
set_option linter.unusedSimpArgs false
/-! ### Pieces of a text -/
theorem pc_l (x y : ByteArray) (n : Nat) (h : x.size = n) : (x ++ y).extract 0 n = x := by
  apply bs_inj
  rw [bs_extract, bs_append, List.drop_zero, Nat.sub_zero, List.take_left' (by rw [bs_len]; exact h)]
theorem pc_m (x y z : ByteArray) (n m : Nat) (h : x.size = n) (h2 : m = n + y.size) : ((x ++ y) ++ z).extract n m = y := by
  apply bs_inj
  rw [bs_extract, bs_append, bs_append, List.append_assoc, List.drop_left' (by rw [bs_len]; exact h), List.take_left' (by rw [bs_len]; omega)]
theorem pc_r (x y : ByteArray) (n m : Nat) (h : x.size = n) (h2 : m = n + y.size) : (x ++ y).extract n m = y := by
  apply bs_inj
  rw [bs_extract, bs_append, List.drop_left' (by rw [bs_len]; exact h), List.take_of_length_le (by rw [bs_len]; omega)]
theorem ba_assoc (x y z : ByteArray) : (x ++ y) ++ z = x ++ (y ++ z) := by apply bs_inj; simp only [bs_append, List.append_assoc]
theorem ex_join (u : ByteArray) (a b c : Nat) (h : a ≤ b) (h2 : b ≤ c) : u.extract a b ++ u.extract b c = u.extract a c := by
  apply bs_inj
  rw [bs_append, bs_extract, bs_extract, bs_extract]
  have e : ((bs u).drop b) = ((bs u).drop a).drop (b - a) := by rw [List.drop_drop]; congr 1; omega
  rw [e, show c - a = (b - a) + (c - b) by omega, List.take_add]
theorem ex_whole (u : ByteArray) (n : Nat) (h : u.size = n) : u.extract 0 n = u := by
  apply bs_inj
  rw [bs_extract, List.drop_zero, Nat.sub_zero, List.take_of_length_le (by rw [bs_len]; omega)]
theorem ex_one (u : ByteArray) (i : Nat) (h : i < u.size) : u.extract i (i + 1) = strOfNums [bt u (i : Int)] := by
  have h1 : i < (bs u).length := by rw [bs_len]; exact h
  have e := bt_nat u i h1
  rw [e]
  exact (one_ex u i h _ (UInt8.toNat_lt _)).2 e
theorem ex_grow (u : ByteArray) (i : Nat) (h : i < u.size) (x : Int) (hx : bt u (i : Int) = x) : u.extract 0 i ++ strOfNums [x] = u.extract 0 (i + 1) := by
  rw [← hx, ← ex_one u i h, ex_join u 0 i (i + 1) (by omega) (by omega)]
/-! ### The groups of a drawn text -/
theorem pat_seven (n : Nat) (c : Int) (h : n < 10) : (patL n c).length = 7 := by
  have hl : (leftL.getD n []).length = 7 := (show ∀ n, n < 10 → (leftL.getD n []).length = 7 by decide) n h
  unfold patL
  split
  · exact hl
  split
  · rw [List.length_reverse, List.length_map]; exact hl
  · rw [List.length_map]; exact hl
def sev (s t : ByteArray) : List (List UInt8) := (pats s t).map (·.data.toList)
theorem sev_len (s t : ByteArray) : (sev s t).length = s.size := by unfold sev; rw [List.length_map, pats_len]
theorem sev_all (s t : ByteArray) (hd : allDig s = true) : ∀ x ∈ sev s t, x.length = 7 := by
  intro x hx
  obtain ⟨y, hy, rfl⟩ := List.mem_map.1 hx
  obtain ⟨i, hi, rfl⟩ := List.mem_map.1 hy
  have d := dig_at hd i (by simpa using hi)
  exact pat_seven _ _ (by omega)
theorem sev_at (s t : ByteArray) (i : Nat) (h : i < (sev s t).length) : (sev s t)[i] = patL (bt s (i : Int) - 48).toNat (bt t (i : Int)) := by simp [sev, pats]
theorem jt_cons (sep y : List UInt8) (r : List (List UInt8)) : Lib.joinTail sep (y :: r) = sep ++ Lib.join (y :: r) sep := by
  rw [Lib.join_cons]
  simp [Lib.joinTail]
theorem join_group (sep : List UInt8) (l : List (List UInt8)) (h : ∀ x ∈ l, x.length = 7) : ∀ (i : Nat) (hi : i < l.length), ((Lib.join l sep).drop (i * (7 + sep.length))).take 7 = l[i] := by
  induction l with
  | nil => intro i hi; exact absurd hi (Nat.not_lt_zero _)
  | cons x r ih =>
    intro i hi
    have hx := h x (by simp)
    cases i with
    | zero => rw [Nat.zero_mul, List.drop_zero, Lib.join_cons, List.take_left' hx]; rfl
    | succ i =>
      cases r with
      | nil => exact absurd hi (by simp)
      | cons y r =>
        rw [Lib.join_cons, jt_cons, show (i + 1) * (7 + sep.length) = 7 + (sep.length + i * (7 + sep.length)) by rw [Nat.add_mul]; omega, ← List.drop_drop, List.drop_left' hx, ← List.drop_drop, List.drop_left' rfl]
        exact ih (fun z hz => h z (by simp [hz])) i (by simpa using hi)
theorem join_sep (sep : List UInt8) (l : List (List UInt8)) (h : ∀ x ∈ l, x.length = 7) : ∀ (i : Nat) (hi : i + 1 < l.length), ((Lib.join l sep).drop (i * (7 + sep.length) + 7)).take sep.length = sep := by
  induction l with
  | nil => intro i hi; exact absurd hi (Nat.not_lt_zero _)
  | cons x r ih =>
    intro i hi
    have hx := h x (by simp)
    cases r with
    | nil => exact absurd hi (by simp)
    | cons y r =>
      cases i with
      | zero => rw [Nat.zero_mul, Nat.zero_add, Lib.join_cons, jt_cons, List.drop_left' hx, List.take_left' rfl]
      | succ i =>
        rw [Lib.join_cons, jt_cons, show (i + 1) * (7 + sep.length) + 7 = 7 + (sep.length + (i * (7 + sep.length) + 7)) by rw [Nat.add_mul]; omega, ← List.drop_drop, List.drop_left' hx, ← List.drop_drop, List.drop_left' rfl]
        exact ih (fun z hz => h z (by simp [hz])) i (by simpa using hi)
theorem join_size (sep : List UInt8) (l : List (List UInt8)) (h : ∀ x ∈ l, x.length = 7) : (Lib.join l sep).length + (if l = [] then 0 else sep.length) = l.length * (7 + sep.length) := by
  cases l with
  | nil => simp [Lib.join_nil]
  | cons x r =>
    have hx := h x (by simp)
    have hl : ∀ m : List (List UInt8), (∀ x ∈ m, x.length = 7) → Lib.lens m = 7 * m.length := by
      intro m
      induction m with
      | nil => intro _; rfl
      | cons a m ih =>
        intro h
        have h1 := h a (by simp)
        have h2 := ih fun x hx => h x (by simp [hx])
        have e : Lib.lens (a :: m) = a.length + Lib.lens m := by simp [Lib.lens]
        rw [e, List.length_cons]; omega
    have h2 := hl r fun z hz => h z (by simp [hz])
    rw [if_neg (by simp), Lib.join_cons, List.length_append, Lib.joinTail_length, hx, h2, List.length_cons, Nat.add_mul, Nat.mul_add, Nat.mul_comm sep.length]
    omega
theorem draw_bs (s t b : ByteArray) : bs (drawS s t b) = Lib.join (sev s t) (bs b) := rfl
/-- How long. -/
theorem draw_exact (s t b : ByteArray) (hd : allDig s = true) (h0 : 0 < s.size) : (drawS s t b).size + b.size = s.size * (7 + b.size) := by
  have h := join_size (bs b) (sev s t) (sev_all s t hd)
  have hn : ¬ sev s t = [] := fun e => by have := sev_len s t; rw [e] at this; simp at this; omega
  rw [if_neg hn, sev_len, bs_len, ← draw_bs, bs_len] at h
  exact h
theorem draw_group (s t b : ByteArray) (hd : allDig s = true) (i : Nat) (hi : i < s.size) : bs ((drawS s t b).extract (i * (7 + b.size)) (i * (7 + b.size) + 7)) = patL (bt s (i : Int) - 48).toNat (bt t (i : Int)) := by
  have h := join_group (bs b) (sev s t) (sev_all s t hd) i (by rw [sev_len]; exact hi)
  rw [sev_at, bs_len] at h
  rw [bs_extract, draw_bs, Nat.add_sub_cancel_left]
  exact h
theorem draw_sep (s t b : ByteArray) (hd : allDig s = true) (i : Nat) (hi : i + 1 < s.size) : (drawS s t b).extract (i * (7 + b.size) + 7) (i * (7 + b.size) + 7 + b.size) = b := by
  have h := join_sep (bs b) (sev s t) (sev_all s t hd) i (by rw [sev_len]; exact hi)
  rw [bs_len] at h
  apply bs_inj
  rw [bs_extract, draw_bs, Nat.add_sub_cancel_left]
  exact h
/-! ### Reading them -/
def good (p : ByteArray) : Prop := ∀ d, d < 10 → ∀ c, c < p.size → fnd p ⟨(patL d (bt p ((c : Nat) : Int))).toArray⟩ (10 * p.size) 0 = some (10 * c + d)
theorem good_AB : good bAB := by unfold good; decide +kernel
theorem good_A : good bA := by unfold good; decide +kernel
theorem good_C : good bC := by unfold good; decide +kernel
/-- Each set is one of those. -/
def oneOf (t p : ByteArray) : Prop := ∀ i : Nat, i < t.size → ∃ c : Nat, c < p.size ∧ bt t (i : Int) = bt p (c : Int)
theorem rd_draw (s t b p : ByteArray) (hg : good p) (hd : allDig s = true) (h0 : 0 < s.size) (ht : t.size = s.size) (ho : oneOf t p) (hb : b.size = 0 ∨ b.size = 2) (m : Nat) : ∀ (i n : Nat), i + m = s.size → m < n →
    rdS (drawS s t b) p (7 + b.size) n (i * (7 + b.size)) (s.extract 0 i) (t.extract 0 i) = (s, t, true) := by
  have hz := draw_exact s t b hd h0
  induction m with
  | zero =>
    intro i n hi hn
    obtain ⟨n, rfl⟩ : ∃ k, n = k + 1 := ⟨n - 1, by omega⟩
    unfold rdS
    have hi2 : i = s.size := by omega
    rw [if_neg (by rw [hi2, ← hz]; omega), hi2, ex_whole s _ rfl, ex_whole t _ ht]
  | succ m ih =>
    intro i n hi hn
    obtain ⟨n, rfl⟩ : ∃ k, n = k + 1 := ⟨n - 1, by omega⟩
    have hle : i * (7 + b.size) + 7 ≤ (drawS s t b).size := by
      have h1 : (i + 1) * (7 + b.size) ≤ s.size * (7 + b.size) := Nat.mul_le_mul_right _ (by omega)
      rw [Nat.add_mul] at h1
      omega
    have hd1 := dig_at hd i (by omega)
    obtain ⟨c, hc, hce⟩ := ho i (by omega)
    have hgr : (drawS s t b).extract (i * (7 + b.size)) (i * (7 + b.size) + 7) = ⟨(patL (bt s (i : Int) - 48).toNat (bt p (c : Int))).toArray⟩ := by
      apply bs_inj
      rw [draw_group s t b hd i (by omega), bs_mk, hce]
    have hf := hg (bt s (i : Int) - 48).toNat (by omega) c hc
    unfold rdS
    rw [if_pos hle, hgr, hf]
    simp only
    have e1 : s.extract 0 i ++ digB (10 * c + (bt s (i : Int) - 48).toNat) = s.extract 0 (i + 1) := by
      unfold digB
      exact ex_grow s i (by omega) _ (by omega)
    have e2 : t.extract 0 i ++ setB p (10 * c + (bt s (i : Int) - 48).toNat) = t.extract 0 (i + 1) := by
      unfold setB
      exact ex_grow t i (by omega) _ (by rw [show (10 * c + (bt s (i : Int) - 48).toNat) / 10 = c by omega]; exact hce)
    rw [e1, e2, show i * (7 + b.size) + (7 + b.size) = (i + 1) * (7 + b.size) by rw [Nat.add_mul]; omega]
    exact ih (i + 1) n (by omega) (by omega)
theorem rdA_draw (s t b p : ByteArray) (hg : good p) (hd : allDig s = true) (h0 : 0 < s.size) (ht : t.size = s.size) (ho : oneOf t p) (hb : b.size = 0 ∨ b.size = 2) (step : Nat) (hst : step = 7 + b.size) : rdA (drawS s t b) p step = (s, t, true) := by
  have hz := draw_exact s t b hd h0
  have h1 : s.size * 7 ≤ s.size * (7 + b.size) := Nat.mul_le_mul_left _ (by omega)
  have h := rd_draw s t b p hg hd h0 ht ho hb s.size 0 ((drawS s t b).size + 1) (by omega) (by omega)
  rw [hst]
  unfold rdA
  rw [Nat.zero_mul, show s.extract 0 0 = ⟨#[]⟩ from by apply bs_inj; rw [bs_extract]; rfl, show t.extract 0 0 = ⟨#[]⟩ from by apply bs_inj; rw [bs_extract]; rfl] at h
  exact h
/-! ### Sets -/
def okP (t p : ByteArray) : Bool := (bs t).all fun c => (bs p).contains c
theorem one_of (t p : ByteArray) (h : okP t p = true) : oneOf t p := by
  intro i hi
  have h1 : i < (bs t).length := by rw [bs_len]; exact hi
  unfold okP at h
  rw [List.all_eq_true] at h
  have h2 := h _ (List.getElem_mem h1)
  have h3 : (bs t)[i] ∈ bs p := by simpa using h2
  obtain ⟨c, hc, he⟩ := List.getElem_of_mem h3
  refine ⟨c, by rw [← bs_len]; exact hc, ?_⟩
  rw [bt_nat t i h1, bt_nat p c hc, he]
theorem par13_ok (j : Nat) (h : j < 10) : okP (rdOf ByteArray.empty par13 (j : Int)) bAB = true := (show ∀ j, j < 10 → okP (rdOf ByteArray.empty par13 ((j : Nat) : Int)) bAB = true by decide +kernel) j h
theorem par13_idx (j : Nat) (h : j < 10) : idxL (rdOf ByteArray.empty par13 (j : Int)) par13 0 = (j : Int) := (show ∀ j, j < 10 → idxL (rdOf ByteArray.empty par13 ((j : Nat) : Int)) par13 0 = (j : Int) by decide +kernel) j h
def parEN (sy c : Nat) : ByteArray := if sy = 1 then flipB (rdOf ByteArray.empty parE (c : Int)) else rdOf ByteArray.empty parE (c : Int)
theorem parE_ok (sy c : Nat) (hs : sy < 2) (h : c < 10) : okP (parEN sy c) bAB = true := (show ∀ s, s < 2 → ∀ c, c < 10 → okP (parEN s c) bAB = true by decide +kernel) sy hs c h
theorem parE_idx0 (c : Nat) (h : c < 10) : idxL (parEN 0 c) parE 0 = (c : Int) := (show ∀ c, c < 10 → idxL (parEN 0 c) parE 0 = ((c : Nat) : Int) by decide +kernel) c h
theorem parE_idx1 (c : Nat) (h : c < 10) : idxL (parEN 1 c) parE 0 = -1 ∧ idxL (flipB (parEN 1 c)) parE 0 = (c : Int) := (show ∀ c, c < 10 → idxL (parEN 1 c) parE 0 = -1 ∧ idxL (flipB (parEN 1 c)) parE 0 = ((c : Nat) : Int) by decide +kernel) c h
theorem par2_ok (j : Nat) (h : j < 4) : okP (rdOf ByteArray.empty par2 (j : Int)) bAB = true := (show ∀ j, j < 4 → okP (rdOf ByteArray.empty par2 ((j : Nat) : Int)) bAB = true by decide +kernel) j h
theorem par5_ok (j : Nat) (h : j < 10) : okP (rdOf ByteArray.empty par5 (j : Int)) bAB = true := (show ∀ j, j < 10 → okP (rdOf ByteArray.empty par5 ((j : Nat) : Int)) bAB = true by decide +kernel) j h
theorem sets_ok (o : ByteArray) : okP (setsS o) bAB = true := by
  unfold setsS
  have hb := sum5_bd o o.size
  split
  · have := par2_ok ((((10 * ((bt o 0 - 48) % 256)) + ((bt o 1 - 48) % 256)) % 4).toNat) (by omega)
    rw [Int.toNat_of_nonneg (by omega)] at this
    exact this
  · have := par5_ok ((sum5 o o.size % 10).toNat) (by omega)
    rw [Int.toNat_of_nonneg (by omega)] at this
    exact this
/-! ### Symbols -/
theorem b0_draw (s t : ByteArray) (hd : allDig s = true) (h0 : 0 < s.size) : (drawS s t b0).size = 7 * s.size := by
  have := draw_exact s t b0 hd h0
  rw [b0_size] at this
  omega
theorem rdA_b0 (s t p : ByteArray) (hg : good p) (hd : allDig s = true) (h0 : 0 < s.size) (ht : t.size = s.size) (ho : okP t p = true) : rdA (drawS s t b0) p 7 = (s, t, true) :=
  rdA_draw s t b0 p hg hd h0 ht (one_of t p ho) (.inl rfl) 7 rfl
/-- A symbol of two halves. -/
theorem read_two (A B sa sb p : ByteArray) (h : Nat) (hA : allDig A = true) (hB : allDig B = true) (hza : 7 * A.size = h) (hzb : B.size = A.size) (h0 : 0 < A.size) (hsa : sa.size = A.size) (hsb : sb.size = B.size) (hg : good p) (hoa : okP sa p = true) (hob : okP sb bC = true) :
    (((((b101 ++ drawS A sa b0) ++ bMid) ++ drawS B sb b0) ++ b101).size = 11 + 2 * h) ∧
    readXS ((((b101 ++ drawS A sa b0) ++ bMid) ++ drawS B sb b0) ++ b101) h p = (if 11 + 2 * h = 95 then (if idxL sa par13 0 < 0 then bad 18 else if idxL sa par13 0 = 0 then finX true true 3 (A ++ B) else finX true true 1 ((dg (idxL sa par13 0) ++ A) ++ B)) else finX true true 2 (A ++ B)) := by
  have z1 := b0_draw A sa hA h0
  have z2 := b0_draw B sb hB (by omega)
  have hz : ((((b101 ++ drawS A sa b0) ++ bMid) ++ drawS B sb b0) ++ b101).size = 11 + 2 * h := by
    simp only [ap_size, b101_size, bMid_size]; omega
  refine ⟨hz, ?_⟩
  have e1 : ((((b101 ++ drawS A sa b0) ++ bMid) ++ drawS B sb b0) ++ b101).extract 0 3 = b101 := by
    rw [ba_assoc, ba_assoc, ba_assoc]; exact pc_l _ _ 3 rfl
  have e2 : ((((b101 ++ drawS A sa b0) ++ bMid) ++ drawS B sb b0) ++ b101).extract (11 + 2 * h - 3) (11 + 2 * h) = b101 :=
    pc_r _ _ _ _ (by simp only [ap_size, b101_size, bMid_size]; omega) (by rw [b101_size]; omega)
  have e3 : ((((b101 ++ drawS A sa b0) ++ bMid) ++ drawS B sb b0) ++ b101).extract (3 + h) (8 + h) = bMid := by
    rw [ba_assoc]
    exact pc_m _ _ _ _ _ (by simp only [ap_size, b101_size]; omega) (by rw [bMid_size]; omega)
  have e4 : ((((b101 ++ drawS A sa b0) ++ bMid) ++ drawS B sb b0) ++ b101).extract 3 (3 + h) = drawS A sa b0 := by
    rw [ba_assoc, ba_assoc]
    exact pc_m _ _ _ _ _ b101_size (by omega)
  have e5 : ((((b101 ++ drawS A sa b0) ++ bMid) ++ drawS B sb b0) ++ b101).extract (8 + h) (11 + 2 * h - 3) = drawS B sb b0 :=
    pc_m _ _ _ _ _ (by simp only [ap_size, b101_size, bMid_size]; omega) (by omega)
  have r1 := rdA_b0 A sa p hg hA h0 hsa hoa
  have r2 := rdA_b0 B sb bC good_C hB (by omega) hsb hob
  unfold readXS
  rw [hz, e1, e2, e3, e4, e5, r1, r2, if_neg (fun h => h rfl), if_neg (fun h => h rfl), if_neg (fun h => h rfl)]
theorem fin_ok (k : Int) (t : ByteArray) (h : cmpS k t = 0) : finX true true k t = (k, t, ⟨#[]⟩, 0) := by
  unfold finX
  rw [if_pos ⟨rfl, rfl⟩, if_pos h]
theorem dg_nat (c : Nat) (h : c < 10) : dg (c : Int) = strOfNums [48 + (c : Int)] := by unfold dg; rw [w48 c h]
theorem C6 : okP (⟨#[67, 67, 67, 67, 67, 67]⟩ : ByteArray) bC = true := by decide
theorem C4 : okP (⟨#[67, 67, 67, 67]⟩ : ByteArray) bC = true := by decide
theorem A4 : okP (⟨#[65, 65, 65, 65]⟩ : ByteArray) bA = true := by decide
/-- Thirteen digits. -/
theorem read_upc (x : ByteArray) (hd : allDig x = true) (h : x.size = 13) : (upcS x).size = 95 ∧ readS (upcS x) = (if bt x 0 = 48 then finX true true 3 (x.extract 1 13) else finX true true 1 x) := by
  obtain ⟨j, hj, e⟩ := dig_val hd 0 (by omega)
  rw [show ((0 : Nat) : Int) = 0 from rfl] at e
  have d0 := dig_at hd 0 (by omega)
  rw [show ((0 : Nat) : Int) = 0 from rfl] at d0
  have hr := read_two (x.extract 1 7) (x.extract 7 x.size) (rdOf ByteArray.empty par13 (j : Int)) ⟨#[67, 67, 67, 67, 67, 67]⟩ bAB 42 (dig_extract hd 1 7) (dig_extract hd 7 _) (by rw [ex_size]; omega) (by rw [ex_size, ex_size]; omega) (by rw [ex_size]; omega)
    (by rw [par13_at j hj, ex_size]; omega) (by rw [ex_size, h]; rfl) good_AB (par13_ok j hj) C6
  rw [par13_idx j hj] at hr
  have eu : upcS x = (((b101 ++ drawS (x.extract 1 7) (rdOf ByteArray.empty par13 (j : Int)) b0) ++ bMid) ++ drawS (x.extract 7 x.size) ⟨#[67, 67, 67, 67, 67, 67]⟩ b0) ++ b101 := by unfold upcS; rw [e]
  rw [eu]
  refine ⟨hr.1, ?_⟩
  unfold readS
  rw [hr.1, if_neg (by decide), if_neg (by decide), hr.2, if_pos rfl, if_neg (by omega), h, ex_join x 1 7 13 (by omega) (by omega)]
  by_cases h0 : bt x 0 = 48
  · rw [if_pos h0, if_pos (by omega)]
  · rw [if_neg h0, if_neg (by omega), dg_nat j hj, ba_assoc, ex_join x 1 7 13 (by omega) (by omega)]
    have e1 := ex_one x 0 (by omega)
    rw [show bt x ((0 : Nat) : Int) = 48 + (j : Int) by rw [show ((0 : Nat) : Int) = 0 from rfl]; omega] at e1
    rw [← e1, ex_join x 0 1 13 (by omega) (by omega), ex_whole x 13 h]
/-- Eight digits. -/
theorem read_8 (s : ByteArray) (hd : allDig s = true) (h : s.size = 8) : (symS 2 s).size = 67 ∧ readS (symS 2 s) = finX true true 2 s := by
  have hr := read_two (s.extract 0 4) (s.extract 4 s.size) ⟨#[65, 65, 65, 65]⟩ ⟨#[67, 67, 67, 67]⟩ bA 28 (dig_extract hd 0 4) (dig_extract hd 4 _) (by rw [ex_size]; omega) (by rw [ex_size, ex_size]; omega) (by rw [ex_size]; omega)
    (by rw [ex_size, h]; rfl) (by rw [ex_size, h]; rfl) good_A A4 C4
  have eu : symS 2 s = (((b101 ++ drawS (s.extract 0 4) ⟨#[65, 65, 65, 65]⟩ b0) ++ bMid) ++ drawS (s.extract 4 s.size) ⟨#[67, 67, 67, 67]⟩ b0) ++ b101 := by unfold symS; rw [if_pos rfl]
  rw [eu]
  refine ⟨hr.1, ?_⟩
  unfold readS
  rw [hr.1, if_neg (by decide), if_pos (by decide), hr.2, if_neg (by decide), h, ex_join s 0 4 8 (by omega) (by omega), ex_whole s 8 h]
theorem read_E (s : ByteArray) (hc : cmpS 4 s = 0) : (symS 4 s).size = 51 ∧ readS (symS 4 s) = (4, s, ⟨#[]⟩, 0) := by
  obtain ⟨_, hd, hz, h49, _⟩ := cmp_zero hc
  have hz : s.size = 8 := by rw [len4] at hz; omega
  obtain ⟨c, hcc, e⟩ := dig_val hd 7 (by omega)
  rw [show ((7 : Nat) : Int) = 7 from rfl] at e
  have d7 := dig_at hd 7 (by omega)
  rw [show ((7 : Nat) : Int) = 7 from rfl] at d7
  have d0 := dig_at hd 0 (by omega)
  rw [show ((0 : Nat) : Int) = 0 from rfl] at d0
  obtain ⟨sy, hsy, e0⟩ : ∃ sy : Nat, sy < 2 ∧ bt s 0 = 48 + (sy : Int) := ⟨(bt s 0 - 48).toNat, by omega, by omega⟩
  have hset : setE s = parEN sy c := by
    unfold setE parEN flipB
    rw [e]
    by_cases h : sy = 1
    · rw [if_pos (by omega), if_pos h]
    · rw [if_neg (by omega), if_neg h]
  have hsz := setE_size s hd hz
  rw [hset] at hsz
  have z1 := b0_draw (s.extract 1 7) (parEN sy c) (dig_extract hd 1 7) (by rw [ex_size]; omega)
  rw [ex_size] at z1
  have r1 := rdA_b0 (s.extract 1 7) (parEN sy c) bAB good_AB (dig_extract hd 1 7) (by rw [ex_size]; omega) (by rw [ex_size]; omega) (parE_ok sy c hsy hcc)
  have eu : symS 4 s = (b101 ++ drawS (s.extract 1 7) (parEN sy c) b0) ++ bEnd := by unfold symS; rw [if_neg (by decide), if_pos rfl, hset]
  have hz51 : ((b101 ++ drawS (s.extract 1 7) (parEN sy c) b0) ++ bEnd).size = 51 := by simp only [ap_size, b101_size, bEnd_size]; omega
  rw [eu]
  refine ⟨hz51, ?_⟩
  have x1 : ((b101 ++ drawS (s.extract 1 7) (parEN sy c) b0) ++ bEnd).extract 0 3 = b101 := by rw [ba_assoc]; exact pc_l _ _ 3 rfl
  have x2 : ((b101 ++ drawS (s.extract 1 7) (parEN sy c) b0) ++ bEnd).extract 45 51 = bEnd := pc_r _ _ _ _ (by simp only [ap_size, b101_size]; omega) (by rw [bEnd_size])
  have x3 : ((b101 ++ drawS (s.extract 1 7) (parEN sy c) b0) ++ bEnd).extract 3 45 = drawS (s.extract 1 7) (parEN sy c) b0 := pc_m _ _ _ _ _ b101_size (by omega)
  have back : ∀ sv : ByteArray, sv = strOfNums [48 + (sy : Int)] → finE sv (s.extract 1 7) (c : Int) = (4, s, ⟨#[]⟩, 0) := by
    intro sv hsv
    have e1 := ex_one s 0 (by omega)
    have e7 := ex_one s 7 (by omega)
    rw [show bt s ((0 : Nat) : Int) = 48 + (sy : Int) from e0] at e1
    rw [show bt s ((7 : Nat) : Int) = 48 + (c : Int) by rw [show ((7 : Nat) : Int) = 7 from rfl]; omega] at e7
    have et : (sv ++ s.extract 1 7) ++ dg (c : Int) = s := by
      rw [hsv, dg_nat c hcc, ← e1, ← e7, ex_join s 0 1 7 (by omega) (by omega), ex_join s 0 7 8 (by omega) (by omega), ex_whole s 8 hz]
    unfold finE
    rw [et, if_neg (by omega), if_pos hc]
  unfold readS readES
  rw [hz51, if_pos rfl, x1, x2, x3, r1, if_neg (fun h => h rfl), if_neg (fun h => h rfl), if_pos rfl]
  simp only
  by_cases h : sy = 1
  · subst h
    have hi := parE_idx1 c hcc
    rw [hi.1, if_pos (by decide), hi.2]
    exact back _ rfl
  · obtain rfl : sy = 0 := by omega
    rw [parE_idx0 c hcc, if_neg (by omega)]
    exact back _ rfl
/-! ### The add-on -/
theorem add_back (o : ByteArray) (hd : allDig o = true) (hz : o.size = 2 ∨ o.size = 5) : (bAdd ++ drawS o (setsS o) b01).size + 2 = 4 + o.size * 9 ∧ readAS (bAdd ++ drawS o (setsS o) b01) = (o, 0) := by
  have zb : b01.size = 2 := rfl
  have za : bAdd.size = 4 := rfl
  have z1 := draw_exact o (setsS o) b01 hd (by omega)
  rw [zb] at z1
  have hsz := sets_size o hz
  have hA : (bAdd ++ drawS o (setsS o) b01).size + 2 = 4 + o.size * 9 := by rw [ap_size, za]; omega
  refine ⟨hA, ?_⟩
  have x1 : (bAdd ++ drawS o (setsS o) b01).extract 0 4 = bAdd := pc_l _ _ 4 rfl
  have x2 : (bAdd ++ drawS o (setsS o) b01).extract 4 (bAdd ++ drawS o (setsS o) b01).size = drawS o (setsS o) b01 := pc_r _ _ _ _ za (by rw [ap_size, za])
  have r1 := rdA_draw o (setsS o) b01 bAB good_AB hd (by omega) hsz (one_of _ _ (sets_ok o)) (.inr rfl) 9 rfl
  have hgap : ∀ q, q + 1 < o.size → (bAdd ++ drawS o (setsS o) b01).extract (11 + 9 * q) (11 + 9 * q + 2) = b01 := by
    intro q hq
    have := draw_sep o (setsS o) b01 hd q hq
    rw [zb] at this
    refine Eq.trans ?_ this
    apply bs_inj
    rw [bs_extract, bs_extract, bs_append, show 11 + 9 * q = 4 + (q * (7 + 2) + 7) by omega, ← List.drop_drop, List.drop_left' (by rw [bs_len]; exact za)]
    congr 1
    omega
  have hg : ∀ n q, q < o.size → gapsOk (bAdd ++ drawS o (setsS o) b01) n (11 + 9 * q) = true := by
    intro n
    induction n with
    | zero => intro q _; rfl
    | succ n ih =>
      intro q hq
      unfold gapsOk
      by_cases h : 11 + 9 * q < (bAdd ++ drawS o (setsS o) b01).size
      · rw [if_pos h, if_pos (hgap q (by omega))]
        exact ih (q + 1) (by omega)
      · rw [if_neg h]
  unfold readAS
  rw [x1, x2, r1, if_neg (fun h => h rfl), if_pos (hg _ 0 (by omega)), if_pos rfl]
  simp only
  rw [if_pos trivial]
end Go.Proofs.YtjmeekceecpemaaGreatDoor.Q

/- The row that Encode draws, with more light modules on both sides, is decoded. -/
namespace Go.Proofs.YtjmeekceecpemaaGreatDoor.Q
open Go.RowKit Go.Proofs.YtjmeekceecpemaaGreatDoorW.PrintWords Go.Proofs.YtjmeekceecpemaaGreatDoorW.PrintLast Go.Proofs.YtjmeekceecpemaaGreatDoorW.PrintMore
set_option linter.unusedVariables false
set_option linter.unusedSimpArgs false
/-! ### Texts of the characters 0 and 1 -/
def binL (l : List UInt8) : Bool := l.all fun c => c == 48 || c == 49
theorem bin_app (l m : List UInt8) : binL (l ++ m) = (binL l && binL m) := by unfold binL; rw [List.all_append]
theorem bin_rev (l : List UInt8) : binL l.reverse = binL l := by unfold binL; rw [List.all_reverse]
theorem bin_pat (n : Nat) (c : Int) (h : n < 10) : binL (patL n c) = true := by
  have h1 : binL (leftL.getD n []) = true := (show ∀ n, n < 10 → binL (leftL.getD n []) = true by decide) n h
  have h2 : binL ((leftL.getD n []).map (swapB 48 49)) = true := (show ∀ n, n < 10 → binL ((leftL.getD n []).map (swapB 48 49)) = true by decide) n h
  unfold patL
  split
  · exact h1
  split
  · rw [bin_rev]; exact h2
  · exact h2
theorem bin_tail (sep : List UInt8) (hs : binL sep = true) (l : List (List UInt8)) (h : ∀ x ∈ l, binL x = true) : binL (Lib.joinTail sep l) = true := by
  induction l with
  | nil => rfl
  | cons x r ih =>
    have e : Lib.joinTail sep (x :: r) = (sep ++ x) ++ Lib.joinTail sep r := by simp [Lib.joinTail]
    rw [e, bin_app, bin_app, hs, h x (by simp), ih fun y hy => h y (by simp [hy])]
    rfl
theorem bin_draw (s t b : ByteArray) (hd : allDig s = true) (hb : binL (bs b) = true) : binL (bs (drawS s t b)) = true := by
  rw [draw_bs]
  have hall : ∀ x ∈ sev s t, binL x = true := by
    intro x hx
    obtain ⟨i, hi, rfl⟩ := List.getElem_of_mem hx
    rw [sev_at]
    have d := dig_at hd i (by rw [← sev_len s t]; exact hi)
    exact bin_pat _ _ (by omega)
  cases hq : sev s t with
  | nil => rw [Lib.join_nil]; rfl
  | cons x r =>
    rw [hq] at hall
    rw [Lib.join_cons, bin_app, hall x (by simp), bin_tail _ hb r fun y hy => hall y (by simp [hy])]
    rfl
theorem zS_bs (n : Int) : bs (zS n) = List.replicate n.toNat 48 := by
  unfold zS
  rw [bs_mk]
  induction n.toNat with
  | zero => rfl
  | succ n ih => rw [Lib.repeatL, ih, List.replicate_succ]; rfl
theorem bin_rep (n : Nat) : binL (List.replicate n 48) = true := by
  induction n with
  | zero => rfl
  | succ n ih => rw [List.replicate_succ]; exact ih
theorem txt_mod (b : ByteArray) (h : binL (bs b) = true) : bs (txtS (modS b)) = bs b := by
  unfold txtS modS
  rw [bs_mk, List.map_map]
  have : ∀ l : List UInt8, binL l = true → l.map ((fun x => if x = true then (49 : UInt8) else 48) ∘ fun c => (c.toNat : Int) == 49) = l := by
    intro l
    induction l with
    | nil => intro _; rfl
    | cons a l ih =>
      intro h
      have h2 : (a == 48 || a == 49) = true ∧ binL l = true := by
        have : binL (a :: l) = ((a == 48 || a == 49) && binL l) := rfl
        rw [this, Bool.and_eq_true] at h
        exact h
      rw [List.map_cons, ih h2.2]
      congr 1
      have h3 := h2.1
      rw [Bool.or_eq_true, beq_iff_eq, beq_iff_eq] at h3
      rcases h3 with rfl | rfl <;> rfl
  exact this _ h
theorem txt_app (l m : List Bool) : bs (txtS (l ++ m)) = bs (txtS l) ++ bs (txtS m) := by unfold txtS; rw [bs_mk, bs_mk, bs_mk, List.map_append]
theorem txt_rep (n : Nat) : bs (txtS (List.replicate n false)) = List.replicate n 48 := by unfold txtS; rw [bs_mk, List.map_replicate]; rfl
/-! ### Light modules on both sides -/
theorem drop_zeros (n : Nat) (x : List UInt8) : (List.replicate n 48 ++ 49 :: x).dropWhile (([48] : List UInt8).contains ·) = 49 :: x := by
  induction n with
  | zero => rfl
  | succ n ih => rw [List.replicate_succ, List.cons_append, List.dropWhile_cons_of_pos (by rfl)]; exact ih
theorem trim_edge (l r : Nat) (m : List UInt8) : Lib.trimS (List.replicate l 48 ++ ((49 :: (m ++ [49])) ++ List.replicate r 48)) [48] = 49 :: (m ++ [49]) := by
  unfold Lib.trimS Lib.trimLeftS Lib.trimRightS
  have e : (List.replicate l (48 : UInt8) ++ ((49 :: (m ++ [49])) ++ List.replicate r 48)).reverse = List.replicate r 48 ++ 49 :: (m.reverse ++ (49 :: List.replicate l 48)) := by
    simp [List.reverse_append, List.reverse_cons, List.reverse_replicate]
  rw [e, drop_zeros]
  have e2 : (49 :: (m.reverse ++ (49 :: List.replicate l (48 : UInt8)))).reverse = List.replicate l 48 ++ 49 :: (m ++ [49]) := by
    simp [List.reverse_append, List.reverse_cons, List.reverse_replicate]
  rw [e2, drop_zeros]
theorem index_zeros (l : Nat) (x : List UInt8) : Lib.indexByte (List.replicate l 48 ++ 49 :: x) 49 = (l : Int) := by
  obtain ⟨o, ho, hlt, hat, hbe⟩ := indexByte_mem (l := List.replicate l 48 ++ 49 :: x) (c := 49) (by simp)
  rw [ho]
  have hlen : (List.replicate l (48 : UInt8)).length = l := List.length_replicate
  rcases Nat.lt_trichotomy o l with h | h | h
  · rw [List.getElem?_append_left (by omega), List.getElem?_replicate, if_pos h] at hat
    cases hat
  · rw [h]
  · have := hbe l h
    rw [List.getElem?_append_right (by omega), hlen, Nat.sub_self] at this
    exact absurd rfl this
def edge (c : ByteArray) : Prop := ∃ m, bs c = 49 :: (m ++ [49])
theorem edge_size {c : ByteArray} (h : edge c) : 0 < c.size := by
  obtain ⟨m, h⟩ := h
  rw [← bs_len, h, List.length_cons]
  omega
/-- What decoding comes to. -/
theorem dec_edge (c : ByteArray) (he : edge c) (hb : binL (bs c) = true) (p q l r : Nat) (w : List Bool) (hw : bs (txtS w) = List.replicate (l + p) 48 ++ (bs c ++ List.replicate (q + r) 48)) (hp : 7 ≤ p) (hq : 7 ≤ q) (hl : w.length ≤ 65536) : decS w = tryS c shapes 7 := by
  obtain ⟨m, hm⟩ := id he
  have hlen : w.length = (l + p) + (c.size + (q + r)) := by
    rw [← txt_size w, ← bs_len, hw, List.length_append, List.length_append, List.length_replicate, List.length_replicate, bs_len]
  have hcore : coreS w = c := by
    apply bs_inj
    unfold coreS
    rw [bs_mk, hw, hm, trim_edge]
  have hidx : Lib.indexByte (bs (txtS w)) 49 = ((l + p : Nat) : Int) := by
    rw [hw, hm, List.cons_append]
    exact index_zeros (l + p) _
  have hpos := edge_size he
  unfold decS
  rw [hcore, hidx, if_neg (by omega), if_neg (by omega), if_neg (by omega), if_neg (by omega)]
/-! ### What is read of a complete text -/
def wantK (a : Int) (s : ByteArray) : Int := if a = 1 ∧ bt s 0 = 48 then 3 else a
def wantT (a : Int) (s : ByteArray) : ByteArray := if a = 1 ∧ bt s 0 = 48 then s.extract 1 s.size else s
theorem gsum_same (l l' : List Int) (k : Nat) (h : ∀ j : Nat, j < k → rd l' j = rd l j) : gsumTo l' k = gsumTo l k := by
  induction k with
  | zero => rfl
  | succ k ih =>
    simp only [gsumTo]
    rw [ih fun j hj => h j (by omega), h k (by omega)]
/-- A leading 0 doesn't change the check digit. -/
theorem gchk_zero (y x : ByteArray) (hz : x.size = y.size + 1) (h0 : bt x 0 = 48) (hx : ∀ j : Nat, j < y.size → bt x ((j + 1 : Nat) : Int) = bt y (j : Int)) : gchk x = gchk y := by
  unfold gchk
  rw [backL_len, backL_len, hz]
  have e : gsumTo (backL x) (y.size + 1) = gsumTo (backL y) y.size := by
    have e1 : gsumTo (backL x) (y.size + 1) = gsumTo (backL x) y.size + (3 - (y.size : Int) % 2 * 2) * rd (backL x) y.size := rfl
    have e2 : rd (backL x) (y.size : Int) = 0 := by
      rw [back_rd x y.size 0 (by omega), show ((0 : Nat) : Int) = 0 from rfl, h0]; rfl
    rw [e1, e2, Int.mul_zero, Int.add_zero]
    refine gsum_same _ _ _ fun j hj => ?_
    rw [back_rd x j (y.size - j) (by omega), back_rd y j (y.size - 1 - j) (by omega)]
    have := hx (y.size - 1 - j) (by omega)
    rw [show y.size - 1 - j + 1 = y.size - j by omega] at this
    rw [this]
  rw [e]
theorem ex_ex2 (u : ByteArray) (a b c d : Nat) (h : a + d ≤ b) : (u.extract a b).extract c d = u.extract (a + c) (a + d) := by
  apply bs_inj
  rw [bs_extract, bs_extract, bs_extract, List.drop_take, List.take_take, List.drop_drop]
  congr 1
  omega
theorem tail_ok (s : ByteArray) (h : cmpS 1 s = 0) (h0 : bt s 0 = 48) : cmpS 3 (s.extract 1 13) = 0 := by
  obtain ⟨hn, hd, hz, _, ho⟩ := cmp_zero h
  have hz : s.size = 13 := by have : lenS 1 = 13 := by decide
                              omega
  have h1 := (out_split 1 s hn (by rw [hz]; decide)).1 ho
  have e1 : (lenS 1 - 1).toNat = 12 := by decide
  unfold bodyB checkS at h1
  rw [e1, if_neg (by decide), hz] at h1
  have hg := gchk_zero (s.extract 1 12) (s.extract 0 12) (by rw [ex_size, ex_size]; omega) (by have := bt_ex s 12 0 (by omega) (by omega); rw [show ((0 : Nat) : Int) = 0 from rfl] at this; rw [this, h0]) (by
    intro j hj
    rw [ex_size] at hj
    rw [bt_ex s 12 (j + 1) (by omega) (by omega), bt_mid s 1 12 j (by omega) (by omega), Nat.add_comm])
  have h2 := cmp_grown 3 (s.extract 1 12) (by decide) (by rw [ex_size, len3]; omega) (dig_extract hd 1 12) (fun h => by cases h.1)
  unfold checkS at h2
  rw [if_neg (by decide), ← hg, h1, ex_join s 1 12 13 (by omega) (by omega)] at h2
  exact h2
theorem sym_up (a : Int) (s : ByteArray) (h2 : ¬ a = 2) (h4 : ¬ a = 4) : symS a s = if a = 3 then upcS ((⟨#[48]⟩ : ByteArray) ++ s) else upcS s := by unfold symS; rw [if_neg h2, if_neg h4]
theorem rt_read (a : Int) (s : ByteArray) (h : cmpS a s = 0) : ∃ n : Nat, (n = 95 ∧ (a = 1 ∨ a = 3) ∨ n = 67 ∧ a = 2 ∨ n = 51 ∧ a = 4) ∧ (symS a s).size = n ∧ readS (symS a s) = (wantK a s, wantT a s, ⟨#[]⟩, 0) := by
  obtain ⟨hn, hd, hz, _, _⟩ := cmp_zero h
  have z1 : (⟨#[48]⟩ : ByteArray).size = 1 := rfl
  by_cases h2 : a = 2
  · subst h2
    have hz : s.size = 8 := by have : lenS 2 = 8 := by decide
                               omega
    have hr := read_8 s hd hz
    refine ⟨67, .inr (.inl ⟨rfl, rfl⟩), hr.1, ?_⟩
    rw [hr.2, fin_ok 2 s h]
    unfold wantK wantT
    rw [if_neg (fun h => by cases h.1), if_neg (fun h => by cases h.1)]
  by_cases h4 : a = 4
  · subst h4
    have hr := read_E s h
    refine ⟨51, .inr (.inr ⟨rfl, rfl⟩), hr.1, ?_⟩
    rw [hr.2]
    unfold wantK wantT
    rw [if_neg (fun h => by cases h.1), if_neg (fun h => by cases h.1)]
  by_cases h3 : a = 3
  · subst h3
    have hz : s.size = 12 := by rw [len3] at hz; omega
    have hr := read_upc ((⟨#[48]⟩ : ByteArray) ++ s) (by rw [dig_append, hd]; rfl) (by rw [ap_size]; omega)
    have e0 : bt ((⟨#[48]⟩ : ByteArray) ++ s) 0 = 48 := by rw [bt_left _ _ (by rw [z1]; decide)]; rfl
    refine ⟨95, .inl ⟨rfl, .inr rfl⟩, by rw [sym_up 3 s h2 h4, if_pos rfl]; exact hr.1, ?_⟩
    rw [sym_up 3 s h2 h4, if_pos rfl, hr.2, if_pos e0, pc_r _ s 1 13 z1 (by omega), fin_ok 3 s h]
    unfold wantK wantT
    rw [if_neg (fun h => by cases h.1), if_neg (fun h => by cases h.1)]
  have h1 : a = 1 := by
    by_cases h1 : a = 1
    · exact h1
    · unfold lenS at hn
      rw [if_neg h1, if_neg (by omega), if_neg h3] at hn
      exact absurd rfl hn
  subst h1
  have hz : s.size = 13 := by have : lenS 1 = 13 := by decide
                              omega
  have hr := read_upc s hd hz
  refine ⟨95, .inl ⟨rfl, .inl rfl⟩, by rw [sym_up 1 s h2 h4, if_neg h3]; exact hr.1, ?_⟩
  rw [sym_up 1 s h2 h4, if_neg h3, hr.2]
  unfold wantK wantT
  by_cases h0 : bt s 0 = 48
  · rw [if_pos h0, if_pos ⟨rfl, h0⟩, if_pos ⟨rfl, h0⟩, fin_ok 3 _ (tail_ok s h h0), hz]
  · rw [if_neg h0, if_neg (fun h => h0 h.2), if_neg (fun h => h0 h.2), fin_ok 1 s h]
/-! ### Edges -/
theorem edge_of (x y z : List UInt8) (c : ByteArray) (h : bs c = (49 :: x) ++ (y ++ (z ++ [49]))) : edge c := ⟨x ++ (y ++ z), by rw [h]; simp⟩
theorem upc_edge (x : ByteArray) (hd : allDig x = true) : ∃ m, upcS x = b101 ++ (m ++ b101) ∧ binL (bs (upcS x)) = true := by
  refine ⟨drawS (x.extract 1 7) (rdOf ByteArray.empty par13 ((bt x 0 - 48) % 256)) b0 ++ (bMid ++ drawS (x.extract 7 x.size) ⟨#[67, 67, 67, 67, 67, 67]⟩ b0), ?_, ?_⟩
  · unfold upcS; simp only [ba_assoc]
  · unfold upcS
    simp only [bs_append, bin_app, bin_draw _ _ b0 (dig_extract hd 1 7) rfl, bin_draw _ _ b0 (dig_extract hd 7 _) rfl]
    rfl
theorem sym_edge (a : Int) (s : ByteArray) (h : cmpS a s = 0) : ∃ m e : ByteArray, symS a s = b101 ++ (m ++ e) ∧ (e = b101 ∨ e = bEnd) ∧ binL (bs (symS a s)) = true := by
  obtain ⟨hn, hd, hz, _, _⟩ := cmp_zero h
  by_cases h2 : a = 2
  · have e : symS a s = (((b101 ++ drawS (s.extract 0 4) ⟨#[65, 65, 65, 65]⟩ b0) ++ bMid) ++ drawS (s.extract 4 s.size) ⟨#[67, 67, 67, 67]⟩ b0) ++ b101 := by unfold symS; rw [if_pos h2]
    refine ⟨drawS (s.extract 0 4) ⟨#[65, 65, 65, 65]⟩ b0 ++ (bMid ++ drawS (s.extract 4 s.size) ⟨#[67, 67, 67, 67]⟩ b0), b101, by rw [e]; simp only [ba_assoc], .inl rfl, ?_⟩
    rw [e]
    simp only [bs_append, bin_app, bin_draw _ _ b0 (dig_extract hd 0 4) rfl, bin_draw _ _ b0 (dig_extract hd 4 _) rfl]
    rfl
  by_cases h4 : a = 4
  · have e : symS a s = (b101 ++ drawS (s.extract 1 7) (setE s) b0) ++ bEnd := by unfold symS; rw [if_neg h2, if_pos h4]
    refine ⟨drawS (s.extract 1 7) (setE s) b0, bEnd, by rw [e, ba_assoc], .inr rfl, ?_⟩
    rw [e]
    simp only [bs_append, bin_app, bin_draw _ _ b0 (dig_extract hd 1 7) rfl]
    rfl
  rw [sym_up a s h2 h4]
  by_cases h3 : a = 3
  · rw [if_pos h3]
    obtain ⟨m, e, hb⟩ := upc_edge ((⟨#[48]⟩ : ByteArray) ++ s) (by rw [dig_append, hd]; rfl)
    exact ⟨m, b101, e, .inl rfl, hb⟩
  · rw [if_neg h3]
    obtain ⟨m, e, hb⟩ := upc_edge s hd
    exact ⟨m, b101, e, .inl rfl, hb⟩
/-- The last module of an add-on's digit is dark. -/
theorem add_dark (o : ByteArray) (hd : allDig o = true) (hz : o.size = 2 ∨ o.size = 5) (i : Nat) (hi : i < o.size) : ∃ x, bs ((drawS o (setsS o) b01).extract (i * 9) (i * 9 + 7)) = x ++ [49] ∧ x.length = 6 := by
  have zb : b01.size = 2 := rfl
  have h := draw_group o (setsS o) b01 hd i hi
  rw [zb] at h
  have d := dig_at hd i hi
  have hsz := sets_size o hz
  obtain ⟨c, hc, e⟩ := one_of _ _ (sets_ok o) i (by omega)
  have hc2 : c < 2 := hc
  have key : ∀ n, n < 10 → ∀ c, c < 2 → (patL n (bt bAB ((c : Nat) : Int))).drop 6 = [49] := by decide +kernel
  rw [e] at h
  refine ⟨(patL (bt o (i : Int) - 48).toNat (bt bAB (c : Int))).take 6, ?_, ?_⟩
  · rw [h, ← key _ (show (bt o (i : Int) - 48).toNat < 10 by omega) c hc2, List.take_append_drop]
  · rw [List.length_take, pat_seven _ _ (by omega)]; rfl
theorem add_edge (o : ByteArray) (hd : allDig o = true) (hz : o.size = 2 ∨ o.size = 5) : ∃ x, bs (drawS o (setsS o) b01) = x ++ [49] := by
  obtain ⟨x, hx, _⟩ := add_dark o hd hz (o.size - 1) (by omega)
  have z1 := draw_exact o (setsS o) b01 hd (by omega)
  rw [show b01.size = 2 from rfl] at z1
  have e : drawS o (setsS o) b01 = (drawS o (setsS o) b01).extract 0 ((o.size - 1) * 9) ++ (drawS o (setsS o) b01).extract ((o.size - 1) * 9) ((o.size - 1) * 9 + 7) := by
    rw [ex_join _ _ _ _ (by omega) (by omega), ex_whole]
    omega
  exact ⟨bs ((drawS o (setsS o) b01).extract 0 ((o.size - 1) * 9)) ++ x, by rw [e, bs_append, ← e, hx, List.append_assoc]⟩
/-! ### The shapes -/
def coreR (a : Int) (s o : ByteArray) : ByteArray := if o.size = 0 then symS a s else (symS a s ++ zS 9) ++ (bAdd ++ drawS o (setsS o) b01)
theorem try_no (c : ByteArray) (n m : Nat) (r : List (Nat × Nat)) (e : Int) (h : shapeS c n m = noFit) : tryS c ((n, m) :: r) e = tryS c r e := by
  rw [try_cons, h]
  exact if_neg (by decide)
theorem try_yes (c : ByteArray) (n m : Nat) (r : List (Nat × Nat)) (e k : Int) (t o : ByteArray) (h : shapeS c n m = (k, t, o, 0, true)) : tryS c ((n, m) :: r) e = (k, t, o, 0) := by
  rw [try_cons, h]
  exact (if_pos rfl).trans (if_pos rfl)
theorem no_zero (c : ByteArray) (n : Nat) (h : ¬ c.size = n) : shapeS c n 0 = noFit := by unfold shapeS; rw [if_pos rfl, if_neg h]
theorem no_size (c : ByteArray) (n m : Nat) (hm : ¬ m = 0) (h : c.size < n + m + 7 ∨ n + m + 12 < c.size) : shapeS c n m = noFit := by unfold shapeS; rw [if_neg hm, if_pos h]
theorem has_one (g : ByteArray) (h : (49 : UInt8) ∈ bs g) : hasOne g = true := by
  obtain ⟨o, ho, _⟩ := indexByte_mem h
  unfold hasOne
  rw [ho]
  exact decide_eq_true (Int.natCast_nonneg o)
theorem no_zeros (n : Int) : hasOne (zS n) = false := by
  unfold hasOne
  rw [indexByte_not]
  · rfl
  · rw [zS_bs]
    intro h
    have := List.eq_of_mem_replicate h
    cases this
theorem yes_plain (S : ByteArray) (n : Nat) (h : S.size = n) (k : Int) (t : ByteArray) (hr : readS S = (k, t, ⟨#[]⟩, 0)) : shapeS S n 0 = (k, t, ⟨#[]⟩, 0, true) := by
  unfold shapeS
  rw [if_pos rfl, if_pos h, hr]
theorem yes_add (S A : ByteArray) (n m : Nat) (hm : ¬ m = 0) (h : S.size = n) (hA : A.size = m) (k : Int) (t o : ByteArray) (hr : readS S = (k, t, ⟨#[]⟩, 0)) (ha : readAS A = (o, 0)) : shapeS ((S ++ zS 9) ++ A) n m = (k, t, o, 0, true) := by
  have zz : (zS 9).size = 9 := zS_size 9
  have hz : ((S ++ zS 9) ++ A).size = n + 9 + m := by simp only [ap_size]; omega
  have e1 : ((S ++ zS 9) ++ A).extract n (n + 9 + m - m) = zS 9 := pc_m S (zS 9) A _ _ h (by omega)
  have e2 : ((S ++ zS 9) ++ A).extract 0 n = S := by rw [ba_assoc]; exact pc_l _ _ n h
  have e3 : ((S ++ zS 9) ++ A).extract (n + 9 + m - m) (n + 9 + m) = A := pc_r _ _ _ _ (by rw [ap_size]; omega) (by omega)
  unfold shapeS
  rw [if_neg hm, hz, if_neg (by omega), e1, e2, e3, no_zeros, hr, ha, if_neg (by decide)]
  exact (if_pos rfl).trans (if_pos rfl)
/-- An EAN-8 symbol with five digits more isn't taken for an EAN-13 symbol with two. -/
theorem no_mixed (S o : ByteArray) (h : S.size = 67) (hd : allDig o = true) (h5 : o.size = 5) : shapeS ((S ++ zS 9) ++ (bAdd ++ drawS o (setsS o) b01)) 95 20 = noFit := by
  have zz : (zS 9).size = 9 := zS_size 9
  have za : bAdd.size = 4 := rfl
  have z1 := draw_exact o (setsS o) b01 hd (by omega)
  rw [show b01.size = 2 from rfl, h5] at z1
  have hz : ((S ++ zS 9) ++ (bAdd ++ drawS o (setsS o) b01)).size = 123 := by simp only [ap_size]; omega
  obtain ⟨x, hx, hx6⟩ := add_dark o hd (.inr h5) 1 (by omega)
  have hone : hasOne (((S ++ zS 9) ++ (bAdd ++ drawS o (setsS o) b01)).extract 95 (123 - 20)) = true := by
    apply has_one
    have e : (drawS o (setsS o) b01).extract (1 * 9) (1 * 9 + 7) = (drawS o (setsS o) b01).extract 9 16 := rfl
    rw [e] at hx
    have h15 : (bs (drawS o (setsS o) b01))[15]? = some 49 := by
      rw [bs_extract] at hx
      have := congrArg (fun l => l[6]?) hx
      simp only [List.getElem?_take, List.getElem?_drop] at this
      rw [List.getElem?_append_right (by omega), hx6] at this
      simpa using this
    have h95 : (bs ((S ++ zS 9) ++ (bAdd ++ drawS o (setsS o) b01)))[95]? = some 49 := by
      rw [bs_append, bs_append, bs_append, List.getElem?_append_right (by rw [List.length_append, bs_len, bs_len]; omega), List.length_append, bs_len, bs_len, List.getElem?_append_right (by rw [bs_len]; omega), bs_len, h, zz, za]
      exact h15
    rw [bs_extract]
    apply List.mem_of_getElem? (i := 0)
    rw [List.getElem?_take, if_pos (by omega), List.getElem?_drop]
    exact h95
  unfold shapeS
  rw [if_neg (by decide), hz, if_neg (by omega), if_pos hone]
theorem try_core (a : Int) (s o : ByteArray) (h : cmpS a s = 0) (hd : allDig o = true) (hz : o.size = 0 ∨ o.size = 2 ∨ o.size = 5) : tryS (coreR a s o) shapes 7 = (wantK a s, wantT a s, o, 0) := by
  obtain ⟨n, hn, hsz, hr⟩ := rt_read a s h
  have zz : (zS 9).size = 9 := zS_size 9
  unfold coreR shapes
  by_cases h0 : o.size = 0
  · have e0 : o = ⟨#[]⟩ := by apply bs_inj; exact List.length_eq_zero_iff.1 ((bs_len o).trans h0)
    rw [if_pos h0, e0]
    have hy := yes_plain (symS a s) n hsz _ _ hr
    rcases hn with ⟨rfl, _⟩ | ⟨rfl, _⟩ | ⟨rfl, _⟩
    · exact try_yes _ _ _ _ _ _ _ _ hy
    · rw [try_no _ _ _ _ _ (no_zero _ _ (by omega)), try_no _ _ _ _ _ (no_size _ _ _ (by decide) (by omega)), try_no _ _ _ _ _ (no_size _ _ _ (by decide) (by omega))]
      exact try_yes _ _ _ _ _ _ _ _ hy
    · rw [try_no _ _ _ _ _ (no_zero _ _ (by omega)), try_no _ _ _ _ _ (no_size _ _ _ (by decide) (by omega)), try_no _ _ _ _ _ (no_size _ _ _ (by decide) (by omega)),
        try_no _ _ _ _ _ (no_zero _ _ (by omega)), try_no _ _ _ _ _ (no_size _ _ _ (by decide) (by omega)), try_no _ _ _ _ _ (no_size _ _ _ (by decide) (by omega))]
      exact try_yes _ _ _ _ _ _ _ _ hy
  rw [if_neg h0]
  have hz2 : o.size = 2 ∨ o.size = 5 := by omega
  obtain ⟨hA, ha⟩ := add_back o hd hz2
  have hc : ((symS a s ++ zS 9) ++ (bAdd ++ drawS o (setsS o) b01)).size = n + 9 + (bAdd ++ drawS o (setsS o) b01).size := by rw [ap_size, ap_size]; omega
  rcases hz2 with h2 | h5
  · have hA : (bAdd ++ drawS o (setsS o) b01).size = 20 := by omega
    rw [hA] at hc
    have hy := yes_add (symS a s) _ n 20 (by decide) hsz hA _ _ _ hr ha
    rcases hn with ⟨rfl, _⟩ | ⟨rfl, _⟩ | ⟨rfl, _⟩
    · rw [try_no _ _ _ _ _ (no_zero _ _ (by omega))]
      exact try_yes _ _ _ _ _ _ _ _ hy
    · rw [try_no _ _ _ _ _ (no_zero _ _ (by omega)), try_no _ _ _ _ _ (no_size _ _ _ (by decide) (by omega)), try_no _ _ _ _ _ (no_size _ _ _ (by decide) (by omega)), try_no _ _ _ _ _ (no_zero _ _ (by omega))]
      exact try_yes _ _ _ _ _ _ _ _ hy
    · rw [try_no _ _ _ _ _ (no_zero _ _ (by omega)), try_no _ _ _ _ _ (no_size _ _ _ (by decide) (by omega)), try_no _ _ _ _ _ (no_size _ _ _ (by decide) (by omega)),
        try_no _ _ _ _ _ (no_zero _ _ (by omega)), try_no _ _ _ _ _ (no_size _ _ _ (by decide) (by omega)), try_no _ _ _ _ _ (no_size _ _ _ (by decide) (by omega)), try_no _ _ _ _ _ (no_zero _ _ (by omega))]
      exact try_yes _ _ _ _ _ _ _ _ hy
  · have hA : (bAdd ++ drawS o (setsS o) b01).size = 47 := by omega
    rw [hA] at hc
    have hy := yes_add (symS a s) _ n 47 (by decide) hsz hA _ _ _ hr ha
    rcases hn with ⟨rfl, _⟩ | ⟨rfl, _⟩ | ⟨rfl, _⟩
    · rw [try_no _ _ _ _ _ (no_zero _ _ (by omega)), try_no _ _ _ _ _ (no_size _ _ _ (by decide) (by omega))]
      exact try_yes _ _ _ _ _ _ _ _ hy
    · rw [try_no _ _ _ _ _ (no_zero _ _ (by omega)), try_no _ _ _ _ _ (no_mixed _ o hsz hd h5), try_no _ _ _ _ _ (no_size _ _ _ (by decide) (by omega)), try_no _ _ _ _ _ (no_zero _ _ (by omega)), try_no _ _ _ _ _ (no_size _ _ _ (by decide) (by omega))]
      exact try_yes _ _ _ _ _ _ _ _ hy
    · rw [try_no _ _ _ _ _ (no_zero _ _ (by omega)), try_no _ _ _ _ _ (no_size _ _ _ (by decide) (by omega)), try_no _ _ _ _ _ (no_size _ _ _ (by decide) (by omega)),
        try_no _ _ _ _ _ (no_zero _ _ (by omega)), try_no _ _ _ _ _ (no_size _ _ _ (by decide) (by omega)), try_no _ _ _ _ _ (no_size _ _ _ (by decide) (by omega)), try_no _ _ _ _ _ (no_zero _ _ (by omega)), try_no _ _ _ _ _ (no_size _ _ _ (by decide) (by omega))]
      exact try_yes _ _ _ _ _ _ _ _ hy
/-! ### Both together -/
def lastM (a : Int) (o : ByteArray) : Int := if o.size = 0 then (margS a).2 else 7
theorem row_core (a : Int) (s o : ByteArray) : rowB a s o = (zS (margS a).1 ++ coreR a s o) ++ zS (lastM a o) := by
  unfold rowB coreR lastM
  by_cases h : o.size = 0
  · rw [if_pos h, if_pos h, if_pos h]
  · rw [if_neg h, if_neg h, if_neg h]
    simp only [ba_assoc]
theorem core_edge (a : Int) (s o : ByteArray) (h : cmpS a s = 0) (hd : allDig o = true) (hz : o.size = 0 ∨ o.size = 2 ∨ o.size = 5) : edge (coreR a s o) ∧ binL (bs (coreR a s o)) = true := by
  obtain ⟨m, e, hs, he, hb⟩ := sym_edge a s h
  have h1 : bs b101 = [49, 48, 49] := rfl
  unfold coreR
  by_cases h0 : o.size = 0
  · rw [if_pos h0]
    refine ⟨?_, hb⟩
    rcases he with rfl | rfl
    · exact edge_of [48, 49] (bs m) [49, 48] _ (by rw [hs, bs_append, bs_append]; rfl)
    · exact edge_of [48, 49] (bs m) [48, 49, 48, 49, 48] _ (by rw [hs, bs_append, bs_append]; rfl)
  · rw [if_neg h0]
    have hz2 : o.size = 2 ∨ o.size = 5 := by omega
    obtain ⟨x, hx⟩ := add_edge o hd hz2
    refine ⟨?_, ?_⟩
    · exact edge_of [48, 49] (bs (m ++ e) ++ (bs (zS 9) ++ bs bAdd)) x _ (by simp only [hs, bs_append, hx, h1]; simp)
    · rw [bs_append, bs_append, bs_append, bin_app, bin_app, bin_app, hb, zS_bs, bin_rep, bin_draw _ _ _ hd rfl]
      rfl
theorem marg_seven (a : Int) : 7 ≤ (margS a).1 ∧ 7 ≤ (margS a).2 := by
  unfold margS
  by_cases h1 : a = 1
  · rw [if_pos h1]; decide
  by_cases h2 : a = 2
  · rw [if_neg h1, if_pos h2]; decide
  by_cases h3 : a = 3
  · rw [if_neg h1, if_neg h2, if_pos h3]; decide
  · rw [if_neg h1, if_neg h2, if_neg h3]; decide
theorem enc_len2 (a : Int) (s o : ByteArray) (h : cmpS a s = 0) (hz : o.size = 0 ∨ o.size = 2 ∨ o.size = 5) : (modS (rowB a s o)).length ≤ 1000 := by
  have hsz := sym_size a s h
  have hm := marg_bd a
  have e : (modS (rowB a s o)).length = (rowB a s o).size := by unfold modS; rw [List.length_map, bs_len]
  rw [e]
  unfold rowB
  have z01 : b01.size = 2 := rfl
  have zA : bAdd.size = 4 := rfl
  have d1 := draw_le o (setsS o) b01 (by omega) (by omega)
  split
  · simp only [ap_size, zS_size]; omega
  · simp only [ap_size, zS_size]; omega
theorem dec_row (a : Int) (s o : ByteArray) (h : cmpS a s = 0) (hd : allDig o = true) (hz : o.size = 0 ∨ o.size = 2 ∨ o.size = 5) (l r : Nat) (hl : l ≤ 1000) (hr : r ≤ 1000) :
    decS ((List.replicate l false ++ modS (rowB a s o)) ++ List.replicate r false) = (wantK a s, wantT a s, o, 0) := by
  obtain ⟨he, hb⟩ := core_edge a s o h hd hz
  have hm := marg_seven a
  have hq : 7 ≤ lastM a o := by unfold lastM; split <;> omega
  have hlen : (modS (rowB a s o)).length ≤ 1000 := by
    have := enc_len2 a s o h hz
    exact this
  rw [← try_core a s o h hd hz]
  refine dec_edge (coreR a s o) he hb (margS a).1.toNat (lastM a o).toNat l r _ ?_ (by omega) (by omega) (by rw [List.length_append, List.length_append, List.length_replicate, List.length_replicate]; omega)
  have hbin : binL (bs (rowB a s o)) = true := by
    rw [row_core, bs_append, bs_append, bin_app, bin_app, hb, zS_bs, zS_bs, bin_rep, bin_rep]; rfl
  rw [txt_app, txt_app, txt_rep, txt_rep, txt_mod _ hbin, row_core, bs_append, bs_append, zS_bs, zS_bs, ← List.replicate_append_replicate, ← List.replicate_append_replicate]
  simp only [List.append_assoc]
end Go.Proofs.YtjmeekceecpemaaGreatDoor.Q

/- What is read without an add-on is what Encode draws. -/
namespace Go.Proofs.YtjmeekceecpemaaGreatDoor.Q
open Go.RowKit Go.Proofs.YtjmeekceecpemaaGreatDoorW.PrintWords Go.Proofs.YtjmeekceecpemaaGreatDoorW.PrintLast Go.Proofs.YtjmeekceecpemaaGreatDoorW.PrintMore
set_option linter.unusedVariables false
set_option linter.unusedSimpArgs false
/-! ### Digits that were read are drawn so -/
theorem fnd_some (p g : ByteArray) (n : Nat) : ∀ j k, fnd p g n j = some k → patL (k % 10) (bt p ((k / 10 : Nat) : Int)) = bs g := by
  induction n with
  | zero => intro j k h; cases h
  | succ n ih =>
    intro j k h
    unfold fnd at h
    by_cases hp : patL (j % 10) (bt p ((j / 10 : Nat) : Int)) = bs g
    · rw [if_pos hp] at h; injection h with h; rw [← h]; exact hp
    · rw [if_neg hp] at h; exact ih _ _ h
theorem bt_one (x : Int) (h : 0 ≤ x ∧ x < 256) : bt (strOfNums [x]) ((0 : Nat) : Int) = x := by
  have h1 : 0 < (bs (strOfNums [x])).length := show 0 < 1 by decide
  rw [bt_nat _ 0 h1]
  show ((UInt8.ofNat x.toNat).toNat : Int) = x
  rw [UInt8.toNat_ofNat']
  omega
theorem bt_u8 (p : ByteArray) (i : Nat) : 0 ≤ bt p (i : Int) ∧ bt p (i : Int) < 256 := by
  by_cases h : i < (bs p).length
  · rw [bt_nat p i h]
    have := UInt8.toNat_lt ((bs p)[i])
    omega
  · unfold bt
    have : ¬ i < p.size := by rw [← bs_len]; exact h
    simp [this]
theorem draw_snoc (d t : ByteArray) (x y : Int) (h : t.size = d.size) (hx : 0 ≤ x ∧ x < 256) (hy : 0 ≤ y ∧ y < 256) : drawS (d ++ strOfNums [x]) (t ++ strOfNums [y]) b0 = drawS d t b0 ++ ⟨(patL (x - 48).toNat y).toArray⟩ := by
  have hs : sev (d ++ strOfNums [x]) (t ++ strOfNums [y]) = sev d t ++ [patL (x - 48).toNat y] := by
    unfold sev pats
    rw [ap_size, one_sz, List.range_succ, List.map_append, List.map_append]
    congr 1
    · rw [List.map_map, List.map_map]
      apply List.map_congr_left
      intro i hi
      have hi := List.mem_range.1 hi
      simp only [Function.comp]
      rw [bt_app_l d _ i hi, bt_app_l t _ i (by omega)]
    · have e1 := bt_app_r d (strOfNums [x]) 0 (show 0 < 1 by decide)
      have e2 := bt_app_r t (strOfNums [y]) 0 (show 0 < 1 by decide)
      rw [Nat.add_zero, bt_one x hx] at e1
      rw [Nat.add_zero, bt_one y hy, h] at e2
      simp only [List.map_cons, List.map_nil]
      rw [e1, e2]
  have j0 : ∀ l : List (List UInt8), Lib.join l [] = l.flatten := by
    intro l
    cases l with
    | nil => rfl
    | cons a r =>
      rw [Lib.join_cons]
      simp [Lib.joinTail]
  apply bs_inj
  rw [draw_bs, bs_append, draw_bs, hs, show bs b0 = [] from rfl, j0, j0, List.flatten_append]
  simp [bs_mk]
theorem dig_one (k : Nat) : allDig (digB k) = true := by
  unfold allDig digB
  show [UInt8.ofNat (48 + ((k % 10 : Nat) : Int)).toNat].all isDig = true
  have : ∀ r, r < 10 → [UInt8.ofNat (48 + ((r : Nat) : Int)).toNat].all isDig = true := by decide
  exact this _ (Nat.mod_lt _ (by decide))
theorem one_snoc (t p : ByteArray) (k : Nat) (ho : oneOf t p) (hk : k < 10 * p.size) : oneOf (t ++ setB p k) p := by
  intro i hi
  rw [ap_size, show (setB p k).size = 1 from rfl] at hi
  by_cases h : i < t.size
  · obtain ⟨c, hc, he⟩ := ho i h
    exact ⟨c, hc, by rw [bt_app_l t _ i h]; exact he⟩
  · have hi2 : i = t.size := by omega
    refine ⟨k / 10, by omega, ?_⟩
    have e := bt_app_r t (setB p k) 0 (show 0 < 1 by decide)
    rw [Nat.add_zero] at e
    rw [hi2, e]
    exact bt_one _ (bt_u8 p (k / 10))
theorem rd_inv (s p : ByteArray) (n : Nat) : ∀ (d t D T : ByteArray), rdS s p 7 n (7 * d.size) d t = (D, T, true) → s.size < 7 * d.size + n → 7 * d.size ≤ s.size → t.size = d.size → allDig d = true → oneOf t p → s.extract 0 (7 * d.size) = drawS d t b0 →
    T.size = D.size ∧ allDig D = true ∧ oneOf T p ∧ 7 * D.size ≤ s.size ∧ s.size < 7 * D.size + 7 ∧ s.extract 0 (7 * D.size) = drawS D T b0 := by
  induction n with
  | zero => intro d t D T h hn hle; omega
  | succ n ih =>
    intro d t D T h hn hle ht hd ho he
    unfold rdS at h
    by_cases hi : 7 * d.size + 7 ≤ s.size
    · rw [if_pos hi] at h
      cases hf : fnd p (s.extract (7 * d.size) (7 * d.size + 7)) (10 * p.size) 0 with
      | none => rw [hf] at h; cases congrArg (fun x => x.2.2) h
      | some k =>
        rw [hf] at h
        simp only at h
        have hk := fnd_lt _ _ _ _ _ hf
        have hpat := fnd_some _ _ _ _ _ hf
        have hsz : (d ++ digB k).size = d.size + 1 := by rw [ap_size]; rfl
        have hsz2 : (t ++ setB p k).size = t.size + 1 := by rw [ap_size]; rfl
        rw [show 7 * d.size + 7 = 7 * (d ++ digB k).size by rw [hsz]; omega] at h
        refine ih (d ++ digB k) (t ++ setB p k) D T h (by omega) (by omega) (by omega) (by rw [dig_append, hd, dig_one]; rfl) (one_snoc t p k ho (by omega)) ?_
        rw [hsz, show 7 * (d.size + 1) = 7 * d.size + 7 by omega, ← ex_join s 0 (7 * d.size) (7 * d.size + 7) (by omega) (by omega), he]
        unfold digB setB
        rw [draw_snoc d t _ _ ht (by omega) (bt_u8 p (k / 10)), show (48 + ((k % 10 : Nat) : Int) - 48).toNat = k % 10 by omega, hpat]
        rfl
    · rw [if_neg hi] at h
      have h1 : d = D := congrArg (fun x => x.1) h
      have h2 : t = T := congrArg (fun x => x.2.1) h
      subst h1 h2
      exact ⟨ht, hd, ho, hle, by omega, he⟩
theorem rdA_inv (s p : ByteArray) (N : Nat) (hz : s.size = 7 * N) (h : (rdA s p 7).2.2 = true) :
    (rdA s p 7).1.size = N ∧ (rdA s p 7).2.1.size = N ∧ allDig (rdA s p 7).1 = true ∧ oneOf (rdA s p 7).2.1 p ∧ s = drawS (rdA s p 7).1 (rdA s p 7).2.1 b0 := by
  have h2 := rd_inv s p (s.size + 1) ⟨#[]⟩ ⟨#[]⟩ (rdA s p 7).1 (rdA s p 7).2.1 (Prod.ext rfl (Prod.ext rfl h)) (by omega) (by show 7 * 0 ≤ _; omega) rfl (by decide) (fun i hi => absurd hi (Nat.not_lt_zero _)) (by apply bs_inj; rw [bs_extract]; rfl)
  have hD : (rdA s p 7).1.size = N := by omega
  refine ⟨hD, by omega, h2.2.1, h2.2.2.1, ?_⟩
  rw [← h2.2.2.2.2.2, hD, ex_whole s _ hz]
/-! ### Sets -/
theorem idx_some (x : ByteArray) (l : List ByteArray) : ∀ j : Nat, 0 ≤ idxL x l j → ∃ i : Nat, i < l.length ∧ idxL x l j = ((j + i : Nat) : Int) ∧ x = rdOf ByteArray.empty l (i : Int) := by
  induction l with
  | nil => intro j h; exact absurd h (by unfold idxL; decide)
  | cons y r ih =>
    intro j h
    unfold idxL at h ⊢
    by_cases hx : x = y
    · exact ⟨0, by rw [List.length_cons]; omega, by rw [if_pos hx, Nat.add_zero], hx⟩
    · rw [if_neg hx] at h ⊢
      obtain ⟨i, hi, he, hr⟩ := ih (j + 1) h
      refine ⟨i + 1, by rw [List.length_cons]; omega, by rw [he]; omega, ?_⟩
      rw [hr]
      simp [rdOf]
theorem ba_same (s t : ByteArray) (h : s.size = t.size) (he : ∀ j : Nat, j < s.size → bt s (j : Int) = bt t (j : Int)) : s = t := by
  apply bs_inj
  apply List.ext_getElem (by rw [bs_len, bs_len, h])
  intro j h1 h2
  have := he j (by rw [bs_len] at h1; exact h1)
  rw [bt_nat s j h1, bt_nat t j h2] at this
  exact UInt8.toNat_inj.1 (by omega)
theorem all_one (t q p : ByteArray) (c : UInt8) (hp : p = ⟨#[c]⟩) (ho : oneOf t p) (hq : oneOf q p) (hz : t.size = q.size) : t = q := by
  subst hp
  refine ba_same t q hz fun i hi => ?_
  obtain ⟨a, ha, e⟩ := ho i hi
  obtain ⟨b, hb, e2⟩ := hq i (by omega)
  have ha : a < 1 := ha
  have hb : b < 1 := hb
  rw [e, e2, show a = b by omega]
theorem flip_flip (t : ByteArray) : flipB (flipB t) = t := by
  apply bs_inj
  unfold flipB
  rw [bs_mk, bs_mk, List.map_map]
  have : ∀ c : UInt8, (swapB 65 66 ∘ swapB 65 66) c = c := by
    intro c
    simp only [Function.comp]
    unfold swapB
    by_cases h1 : c = 65
    · subst h1; decide
    · by_cases h2 : c = 66
      · subst h2; decide
      · rw [if_neg h1, if_neg h2, if_neg h1, if_neg h2]
  rw [List.map_congr_left (g := id) fun c _ => this c, List.map_id]
end Go.Proofs.YtjmeekceecpemaaGreatDoor.Q

/- What Decode tells of any row. -/
namespace Go.Proofs.YtjmeekceecpemaaGreatDoor.Q
open Go.RowKit Go.Proofs.YtjmeekceecpemaaGreatDoorW.PrintWords Go.Proofs.YtjmeekceecpemaaGreatDoorW.PrintLast Go.Proofs.YtjmeekceecpemaaGreatDoorW.PrintMore
set_option linter.unusedVariables false
set_option linter.unusedSimpArgs false
theorem fin_inv (a b : Bool) (k : Int) (t : ByteArray) (h : (finX a b k t).2.2.2 = 0) : a = true ∧ b = true ∧ cmpS k t = 0 ∧ finX a b k t = (k, t, ⟨#[]⟩, 0) := by
  unfold finX at h ⊢
  by_cases h1 : a = true ∧ b = true
  · rw [if_pos h1] at h ⊢
    by_cases h2 : cmpS k t = 0
    · rw [if_pos h2]; exact ⟨h1.1, h1.2, h2, rfl⟩
    · rw [if_neg h2] at h; cases h
  · rw [if_neg h1] at h; cases h
theorem upc_of (A B sa : ByteArray) (i : Nat) (hi : i < 10) (hA : A.size = 6) (hB : B.size = 6) (hs : sa = rdOf ByteArray.empty par13 (i : Int)) :
    upcS ((strOfNums [48 + (i : Int)] ++ A) ++ B) = (((b101 ++ drawS A sa b0) ++ bMid) ++ drawS B ⟨#[67, 67, 67, 67, 67, 67]⟩ b0) ++ b101 := by
  have z1 : (strOfNums [48 + (i : Int)]).size = 1 := rfl
  have e0 : bt ((strOfNums [48 + (i : Int)] ++ A) ++ B) 0 = 48 + (i : Int) := by
    rw [bt_left _ _ (by rw [ap_size]; omega), bt_left _ _ (by omega)]
    exact bt_one _ (by omega)
  have e1 : ((strOfNums [48 + (i : Int)] ++ A) ++ B).extract 1 7 = A := pc_m _ _ _ _ _ z1 (by omega)
  have e2 : ((strOfNums [48 + (i : Int)] ++ A) ++ B).extract 7 ((strOfNums [48 + (i : Int)] ++ A) ++ B).size = B := pc_r _ _ _ _ (by rw [ap_size]; omega) (by simp only [ap_size]; omega)
  unfold upcS
  rw [e0, e1, e2, show (48 + (i : Int) - 48) % 256 = (i : Int) by omega, ← hs]
theorem rdx_inv (S : ByteArray) (h N : Nat) (p : ByteArray) (hz : S.size = 11 + 2 * h) (hN : h = 7 * N) (hr : (readXS S h p).2.2.2 = 0) :
    ∃ A sa B sb : ByteArray, A.size = N ∧ B.size = N ∧ sa.size = N ∧ sb.size = N ∧ oneOf sa p ∧ oneOf sb bC ∧ S = (((b101 ++ drawS A sa b0) ++ bMid) ++ drawS B sb b0) ++ b101 ∧
      ((S.size = 95 ∧ ∃ i : Nat, i < 10 ∧ sa = rdOf ByteArray.empty par13 (i : Int) ∧ (i = 0 ∧ cmpS 3 (A ++ B) = 0 ∧ readXS S h p = (3, A ++ B, ⟨#[]⟩, 0) ∨ i ≠ 0 ∧ cmpS 1 ((strOfNums [48 + (i : Int)] ++ A) ++ B) = 0 ∧ readXS S h p = (1, (strOfNums [48 + (i : Int)] ++ A) ++ B, ⟨#[]⟩, 0)))
        ∨ (¬ S.size = 95 ∧ cmpS 2 (A ++ B) = 0 ∧ readXS S h p = (2, A ++ B, ⟨#[]⟩, 0))) := by
  have i1 := rdA_inv (S.extract 3 (3 + h)) p N (by rw [ex_size]; omega)
  have i2 := rdA_inv (S.extract (8 + h) (S.size - 3)) bC N (by rw [ex_size]; omega)
  unfold readXS at hr ⊢
  by_cases h1 : S.extract 0 3 = b101
  rotate_left
  · rw [if_pos h1] at hr; cases hr
  rw [if_neg (fun h => h h1)] at hr ⊢
  by_cases h2 : S.extract (S.size - 3) S.size = b101
  rotate_left
  · rw [if_pos h2] at hr; cases hr
  rw [if_neg (fun h => h h2)] at hr ⊢
  by_cases h3 : S.extract (3 + h) (8 + h) = bMid
  rotate_left
  · rw [if_pos h3] at hr; cases hr
  rw [if_neg (fun h => h h3)] at hr ⊢
  have hS : S = (((S.extract 0 3 ++ S.extract 3 (3 + h)) ++ S.extract (3 + h) (8 + h)) ++ S.extract (8 + h) (S.size - 3)) ++ S.extract (S.size - 3) S.size := by
    rw [ex_join S 0 3 (3 + h) (by omega) (by omega), ex_join S 0 (3 + h) (8 + h) (by omega) (by omega), ex_join S 0 (8 + h) (S.size - 3) (by omega) (by omega), ex_join S 0 (S.size - 3) S.size (by omega) (by omega), ex_whole S _ rfl]
  rw [h1, h2, h3] at hS
  generalize rdA (S.extract 3 (3 + h)) p 7 = ra at i1 hr ⊢
  generalize rdA (S.extract (8 + h) (S.size - 3)) bC 7 = rb at i2 hr ⊢
  have fin : ra.2.2 = true → rb.2.2 = true → S = (((b101 ++ drawS ra.1 ra.2.1 b0) ++ bMid) ++ drawS rb.1 rb.2.1 b0) ++ b101 := by
    intro o1 o2
    rw [← (i1 o1).2.2.2.2, ← (i2 o2).2.2.2.2]
    exact hS
  by_cases h95 : S.size = 95
  · rw [if_pos h95] at hr ⊢
    by_cases hc : idxL ra.2.1 par13 0 < 0
    · rw [if_pos hc] at hr; cases hr
    rw [if_neg hc] at hr ⊢
    obtain ⟨i, hi, he, hrd⟩ := idx_some ra.2.1 par13 0 (by omega)
    have hi : i < 10 := hi
    rw [Nat.zero_add] at he
    rw [he] at hr ⊢
    by_cases h0 : (i : Int) = 0
    · rw [if_pos h0] at hr ⊢
      obtain ⟨o1, o2, hcm, hv⟩ := fin_inv _ _ _ _ hr
      exact ⟨ra.1, ra.2.1, rb.1, rb.2.1, (i1 o1).1, (i2 o2).1, (i1 o1).2.1, (i2 o2).2.1, (i1 o1).2.2.2.1, (i2 o2).2.2.2.1, fin o1 o2, .inl ⟨h95, i, hi, hrd, .inl ⟨by omega, hcm, hv⟩⟩⟩
    · rw [if_neg h0, dg_nat i hi] at hr ⊢
      obtain ⟨o1, o2, hcm, hv⟩ := fin_inv _ _ _ _ hr
      exact ⟨ra.1, ra.2.1, rb.1, rb.2.1, (i1 o1).1, (i2 o2).1, (i1 o1).2.1, (i2 o2).2.1, (i1 o1).2.2.2.1, (i2 o2).2.2.2.1, fin o1 o2, .inl ⟨h95, i, hi, hrd, .inr ⟨by omega, hcm, hv⟩⟩⟩
  · rw [if_neg h95] at hr ⊢
    obtain ⟨o1, o2, hcm, hv⟩ := fin_inv _ _ _ _ hr
    exact ⟨ra.1, ra.2.1, rb.1, rb.2.1, (i1 o1).1, (i2 o2).1, (i1 o1).2.1, (i2 o2).2.1, (i1 o1).2.2.2.1, (i2 o2).2.2.2.1, fin o1 o2, .inr ⟨h95, hcm, hv⟩⟩
theorem finE_inv (sy d : ByteArray) (c : Int) (h : (finE sy d c).2.2.2 = 0) : 0 ≤ c ∧ cmpS 4 ((sy ++ d) ++ dg c) = 0 ∧ finE sy d c = (4, (sy ++ d) ++ dg c, ⟨#[]⟩, 0) := by
  unfold finE at h ⊢
  by_cases h1 : c < 0
  · rw [if_pos h1] at h; cases h
  · rw [if_neg h1] at h ⊢
    by_cases h2 : cmpS 4 ((sy ++ d) ++ dg c) = 0
    · rw [if_pos h2]; exact ⟨by omega, h2, rfl⟩
    · rw [if_neg h2] at h; cases h
theorem rde_inv (S : ByteArray) (hz : S.size = 51) (hr : (readES S).2.2.2 = 0) : ∃ t : ByteArray, cmpS 4 t = 0 ∧ S = symS 4 t ∧ readES S = (4, t, ⟨#[]⟩, 0) := by
  have i1 := rdA_inv (S.extract 3 45) bAB 6 (by rw [ex_size]; omega)
  unfold readES at hr ⊢
  by_cases h1 : S.extract 0 3 = b101
  rotate_left
  · rw [if_pos h1] at hr; cases hr
  rw [if_neg (fun h => h h1)] at hr ⊢
  by_cases h2 : S.extract 45 S.size = bEnd
  rotate_left
  · rw [if_pos h2] at hr; cases hr
  rw [if_neg (fun h => h h2)] at hr ⊢
  have hS : S = (S.extract 0 3 ++ S.extract 3 45) ++ S.extract 45 S.size := by
    rw [ex_join S 0 3 45 (by omega) (by omega), ex_join S 0 45 S.size (by omega) (by omega), ex_whole S _ rfl]
  rw [h1, h2] at hS
  generalize rdA (S.extract 3 45) bAB 7 = ra at i1 hr ⊢
  by_cases ho : ra.2.2 = true
  rotate_left
  · rw [if_neg ho] at hr; cases hr
  rw [if_pos ho] at hr ⊢
  obtain ⟨z1, z2, hd, _, he⟩ := i1 ho
  rw [he] at hS
  have fin : ∀ (sy : ByteArray) (y : Int) (c : Nat), c < 10 → sy = strOfNums [y] → (y = 48 ∧ ra.2.1 = rdOf ByteArray.empty parE (c : Int) ∨ y = 49 ∧ ra.2.1 = flipB (rdOf ByteArray.empty parE (c : Int))) → S = symS 4 ((sy ++ ra.1) ++ dg (c : Int)) := by
    intro sy y c hc hsy hst
    have hz1 : sy.size = 1 := by rw [hsy]; rfl
    have e0 : bt ((sy ++ ra.1) ++ dg (c : Int)) 0 = y := by
      rw [bt_left _ _ (by rw [ap_size]; omega), bt_left _ _ (by omega), hsy]
      exact bt_one _ (by omega)
    have e7 : bt ((sy ++ ra.1) ++ dg (c : Int)) 7 = 48 + (c : Int) := by
      have := bt_app_r (sy ++ ra.1) (dg (c : Int)) 0 (show 0 < 1 by decide)
      rw [ap_size, hz1, z1, dg_nat c hc, bt_one _ (by omega)] at this
      rw [dg_nat c hc]
      exact this
    have e1 : ((sy ++ ra.1) ++ dg (c : Int)).extract 1 7 = ra.1 := pc_m _ _ _ _ _ hz1 (by omega)
    unfold symS setE
    rw [if_neg (by decide), if_pos rfl, e0, e7, e1, show (48 + (c : Int) - 48) % 256 = (c : Int) by omega]
    rcases hst with ⟨hy, hs⟩ | ⟨hy, hs⟩
    · rw [if_neg (by omega), ← hs]; exact hS
    · rw [if_pos hy]
      show S = (b101 ++ drawS ra.1 (flipB (rdOf ByteArray.empty parE (c : Int))) b0) ++ bEnd
      rw [← hs]; exact hS
  by_cases hc : idxL ra.2.1 parE 0 < 0
  · rw [if_pos hc] at hr ⊢
    obtain ⟨h0, hcm, hv⟩ := finE_inv _ _ _ hr
    obtain ⟨i, hi, hie, hrd⟩ := idx_some (flipB ra.2.1) parE 0 h0
    rw [Nat.zero_add] at hie
    rw [hie] at hcm hv ⊢
    exact ⟨_, hcm, fin ⟨#[49]⟩ 49 i hi rfl (.inr ⟨rfl, by rw [← hrd, flip_flip]⟩), hv⟩
  · rw [if_neg hc] at hr ⊢
    obtain ⟨h0, hcm, hv⟩ := finE_inv _ _ _ hr
    obtain ⟨i, hi, hie, hrd⟩ := idx_some ra.2.1 parE 0 h0
    rw [Nat.zero_add] at hie
    rw [hie] at hcm hv ⊢
    exact ⟨_, hcm, fin ⟨#[48]⟩ 48 i hi rfl (.inl ⟨rfl, hrd⟩), hv⟩
theorem read_inv (S : ByteArray) (hz : S.size = 51 ∨ S.size = 67 ∨ S.size = 95) (hr : (readS S).2.2.2 = 0) : ∃ (k : Int) (t : ByteArray), cmpS k t = 0 ∧ S = symS k t ∧ readS S = (k, t, ⟨#[]⟩, 0) := by
  unfold readS at hr ⊢
  by_cases h1 : S.size = 51
  · rw [if_pos h1] at hr ⊢
    obtain ⟨t, a, b, c⟩ := rde_inv S h1 hr
    exact ⟨4, t, a, b, c⟩
  rw [if_neg h1] at hr ⊢
  by_cases h2 : S.size = 67
  · rw [if_pos h2] at hr ⊢
    obtain ⟨A, sa, B, sb, zA, zB, za, zb, oa, ob, hS, hx⟩ := rdx_inv S 28 4 bA (by omega) rfl hr
    rcases hx with ⟨h95, _⟩ | ⟨_, hcm, hv⟩
    · omega
    refine ⟨2, A ++ B, hcm, ?_, hv⟩
    have e1 := all_one sa ⟨#[65, 65, 65, 65]⟩ bA 65 rfl oa (one_of _ _ A4) za
    have e2 := all_one sb ⟨#[67, 67, 67, 67]⟩ bC 67 rfl ob (one_of _ _ C4) zb
    unfold symS
    rw [if_pos rfl, pc_l A B 4 zA, pc_r A B 4 _ zA (by rw [ap_size]; omega), ← e1, ← e2]
    exact hS
  · rw [if_neg h2] at hr ⊢
    obtain ⟨A, sa, B, sb, zA, zB, za, zb, oa, ob, hS, hx⟩ := rdx_inv S 42 6 bAB (by omega) rfl hr
    have e2 := all_one sb ⟨#[67, 67, 67, 67, 67, 67]⟩ bC 67 rfl ob (one_of _ _ C6) zb
    rcases hx with ⟨_, i, hi, hsa, ⟨hi0, hcm, hv⟩ | ⟨hi0, hcm, hv⟩⟩ | ⟨h95, _⟩
    · refine ⟨3, A ++ B, hcm, ?_, hv⟩
      have hu := upc_of A B sa i hi zA zB hsa
      rw [sym_up 3 _ (by decide) (by decide), if_pos rfl, ← ba_assoc, show (⟨#[48]⟩ : ByteArray) = strOfNums [48 + (i : Int)] by rw [hi0]; rfl, hu, ← e2]
      exact hS
    · refine ⟨1, _, hcm, ?_, hv⟩
      have hu := upc_of A B sa i hi zA zB hsa
      rw [sym_up 1 _ (by decide) (by decide), if_neg (by decide), hu, ← e2]
      exact hS
    · omega
/-! ### Shapes -/
theorem add_inv (A : ByteArray) (hz : A.size = 20 ∨ A.size = 47) (h : (readAS A).2 = 0) : (readAS A).1.size = 2 ∨ (readAS A).1.size = 5 := by
  have hc := rd_cnt (A.extract 4 A.size) bAB 9 ((A.extract 4 A.size).size + 1) 0 ⟨#[]⟩ ⟨#[]⟩
  have hx : (A.extract 4 A.size).size = A.size - 4 := by rw [ex_size]; omega
  unfold readAS at h ⊢
  by_cases h1 : A.extract 0 4 = bAdd
  rotate_left
  · rw [if_pos h1] at h; cases h
  rw [if_neg (fun h => h h1)] at h ⊢
  by_cases h2 : gapsOk A (A.size + 1) 11 = true
  rotate_left
  · rw [if_neg h2] at h; cases h
  rw [if_pos h2] at h ⊢
  by_cases h3 : (rdA (A.extract 4 A.size) bAB 9).2.2 = true
  rotate_left
  · rw [if_neg h3] at h; cases h
  rw [if_pos h3] at h ⊢
  have h4 : (rdA (A.extract 4 A.size) bAB 9).1.size = 0 + cnt (A.extract 4 A.size).size 9 ((A.extract 4 A.size).size + 1) 0 := (hc h3).1
  have h5 : (rdA (A.extract 4 A.size) bAB 9).1.size = 2 ∨ (rdA (A.extract 4 A.size) bAB 9).1.size = 5 := by
    rw [h4, hx, Nat.zero_add]
    rcases hz with hz | hz
    · rw [hz]; left; decide
    · rw [hz]; right; decide
  generalize rdA (A.extract 4 A.size) bAB 9 = ra at h h5 ⊢
  by_cases h6 : ra.2.1 = setsS ra.1
  · rw [if_pos h6]; exact h5
  · rw [if_neg h6] at h; cases h
/-- What a row that is read says. -/
def okR (c : ByteArray) (r : Int × ByteArray × ByteArray × Int) : Prop := (∃ (k : Int) (t : ByteArray), cmpS k t = 0 ∧ c = symS k t ∧ r = (k, t, ⟨#[]⟩, 0)) ∨ ∃ (k : Int) (t o : ByteArray), (o.size = 2 ∨ o.size = 5) ∧ r = (k, t, o, 0)
theorem shape_inv (c : ByteArray) (n m : Nat) (hn : n = 95 ∨ n = 67 ∨ n = 51) (hm : m = 0 ∨ m = 20 ∨ m = 47) (hf : (shapeS c n m).2.2.2.2 = true) (he : (shapeS c n m).2.2.2.1 = 0) :
    okR c ((shapeS c n m).1, (shapeS c n m).2.1, (shapeS c n m).2.2.1, 0) := by
  unfold shapeS at hf he ⊢
  by_cases h0 : m = 0
  · rw [if_pos h0] at hf he ⊢
    by_cases hz : c.size = n
    · rw [if_pos hz] at hf he ⊢
      obtain ⟨k, t, a, b, hv⟩ := read_inv c (by omega) he
      exact .inl ⟨k, t, a, b, by rw [hv]⟩
    · rw [if_neg hz] at hf; cases hf
  rw [if_neg h0] at hf he ⊢
  by_cases h1 : c.size < n + m + 7 ∨ n + m + 12 < c.size
  · rw [if_pos h1] at hf; cases hf
  rw [if_neg h1] at hf he ⊢
  by_cases h2 : hasOne (c.extract n (c.size - m)) = true
  · rw [if_pos h2] at hf; cases hf
  rw [if_neg h2] at hf he ⊢
  have ha := add_inv (c.extract (c.size - m) c.size) (by rw [ex_size]; omega)
  generalize readS (c.extract 0 n) = x at hf he ⊢
  generalize readAS (c.extract (c.size - m) c.size) = y at ha hf he ⊢
  by_cases h3 : x.2.2.2 = 0
  · rw [if_pos h3] at hf he ⊢
    by_cases h4 : y.2 = 0
    · rw [if_pos h4]
      exact .inr ⟨x.1, x.2.1, y.1, ha h4, rfl⟩
    · rw [if_neg h4] at he; exact absurd he h4
  · rw [if_neg h3] at he; exact absurd he h3
theorem try_inv (c : ByteArray) (L : List (Nat × Nat)) (hL : ∀ x ∈ L, (x.1 = 95 ∨ x.1 = 67 ∨ x.1 = 51) ∧ (x.2 = 0 ∨ x.2 = 20 ∨ x.2 = 47)) : ∀ e : Int, e ≠ 0 → (∃ e2 : Int, e2 ≠ 0 ∧ tryS c L e = bad e2) ∨ okR c (tryS c L e) := by
  induction L with
  | nil => intro e he; exact .inl ⟨e, he, rfl⟩
  | cons x r ih =>
    intro e he
    obtain ⟨n, m⟩ := x
    have hx := hL (n, m) (by simp)
    have ih := ih fun y hy => hL y (by simp [hy])
    rw [try_cons]
    by_cases hf : (shapeS c n m).2.2.2.2 = true
    · rw [if_pos hf]
      by_cases h0 : (shapeS c n m).2.2.2.1 = 0
      · rw [if_pos h0]; exact .inr (shape_inv c n m hx.1 hx.2 hf h0)
      · rw [if_neg h0]
        by_cases h7 : e = 7
        · rw [if_pos h7]; exact ih _ h0
        · rw [if_neg h7]; exact ih _ he
    · rw [if_neg hf]; exact ih _ he
theorem dec_inv (l : List Bool) : (∃ e : Int, e ≠ 0 ∧ decS l = bad e) ∨ ((coreS l).size ≠ 0 ∧ okR (coreS l) (decS l)) := by
  unfold decS
  split
  · exact .inl ⟨4, by decide, rfl⟩
  split
  · exact .inl ⟨5, by decide, rfl⟩
  rename_i h5
  split
  · exact .inl ⟨9, by decide, rfl⟩
  split
  · exact .inl ⟨9, by decide, rfl⟩
  rcases try_inv (coreS l) shapes (by decide) 7 (by decide) with h | h
  · exact .inl h
  · exact .inr ⟨h5, h⟩
end Go.Proofs.YtjmeekceecpemaaGreatDoor.Q

namespace Go.Proofs.YtjmeekceecpemaaGreatDoor.Q
open Go.RowKit Go.Proofs.YtjmeekceecpemaaGreatDoorW.PrintWords Go.Proofs.YtjmeekceecpemaaGreatDoorW.PrintLast Go.Proofs.YtjmeekceecpemaaGreatDoorW.PrintMore

set_option linter.unusedVariables false
set_option linter.unusedSimpArgs false

/-! ### barscanlaw11_trim: function 23 -/
/-- The two indexes, where they lie in the row. -/
def trimE (l : List Bool) (a b : Int) : Option (Int × Int) := if 0 ≤ a then (if a ≤ b then (if b ≤ (l.length : Int) then some (a, b) else none) else none) else none
theorem trimE_some {l : List Bool} {a b c d : Int} (h : trimE l a b = some (c, d)) : 0 ≤ a ∧ a ≤ b ∧ b ≤ (l.length : Int) ∧ a = c ∧ b = d := by
  unfold trimE at h
  obtain ⟨h1, h⟩ := ifn h
  obtain ⟨h2, h⟩ := ifn h
  obtain ⟨h3, h⟩ := ifn h
  injection h with h
  injection h with h4 h5
  exact ⟨h1, h2, h3, h4, h5⟩
mutual
def barscanlaw11_trim.j1 : Nat → List Bool → Int → Option (Int × Int)
  | 0, _, _ => none
  | k + 1, x0, x4 => barscanlaw11_trim.l1 k x0 x4 (x0.length : Int)
def barscanlaw11_trim.l1 : Nat → List Bool → Int → Int → Option (Int × Int)
  | 0, _, _, _ => none
  | k + 1, x0, x4, x5 => if x5 > x4 then (if 0 ≤ (wrap64 (x5 - 1)) then (if (wrap64 (x5 - 1)) < (x0.length : Int) then (if (rdOf false x0 (wrap64 (x5 - 1)) = true) then (trimE x0 x4 x5) else (barscanlaw11_trim.l1 k x0 x4 (wrap64 (x5 - 1)))) else (none)) else (none)) else (trimE x0 x4 x5)
def barscanlaw11_trim.l0 : Nat → List Bool → Int → Option (Int × Int)
  | 0, _, _ => none
  | k + 1, x0, x4 => if x4 < (x0.length : Int) then (if 0 ≤ x4 then (if rdOf false x0 x4 = true then (barscanlaw11_trim.j1 k x0 x4) else (barscanlaw11_trim.l0 k x0 (wrap64 (x4 + 1)))) else (none)) else (barscanlaw11_trim.j1 k x0 x4)
end
def barscanlaw11_trim.f (k : Nat) (l0 : List Bool) : Option (Int × Int) := barscanlaw11_trim.l0 k l0 0
theorem barscanlaw11_trim.mono_l : ∀ k, (∀ y0 y1, LeO (barscanlaw11_trim.j1 k y0 y1) (barscanlaw11_trim.j1 (k + 1) y0 y1)) ∧ (∀ y0 y1 y2, LeO (barscanlaw11_trim.l1 k y0 y1 y2) (barscanlaw11_trim.l1 (k + 1) y0 y1 y2)) ∧ (∀ y0 y1, LeO (barscanlaw11_trim.l0 k y0 y1) (barscanlaw11_trim.l0 (k + 1) y0 y1))
  | 0 => ⟨fun _ _ r h => by simp [barscanlaw11_trim.j1] at h, fun _ _ _ r h => by simp [barscanlaw11_trim.l1] at h, fun _ _ r h => by simp [barscanlaw11_trim.l0] at h⟩
  | k + 1 => by
    obtain ⟨ih0, ih1, ih2⟩ := barscanlaw11_trim.mono_l k
    refine ⟨?_, ?_, ?_⟩
    · intro y0 y1
      unfold barscanlaw11_trim.j1
      repeat' with_reducible first | exact ih0 _ _ | exact ih1 _ _ _ | exact ih2 _ _ | exact LeO.refl _ | exact LeO.none _ | refine LeO.ite ?_ ?_ | refine LeO.bind ?_ (fun _ => ?_)
    · intro y0 y1 y2
      unfold barscanlaw11_trim.l1
      repeat' with_reducible first | exact ih0 _ _ | exact ih1 _ _ _ | exact ih2 _ _ | exact LeO.refl _ | exact LeO.none _ | refine LeO.ite ?_ ?_ | refine LeO.bind ?_ (fun _ => ?_)
    · intro y0 y1
      unfold barscanlaw11_trim.l0
      repeat' with_reducible first | exact ih0 _ _ | exact ih1 _ _ _ | exact ih2 _ _ | exact LeO.refl _ | exact LeO.none _ | refine LeO.ite ?_ ?_ | refine LeO.bind ?_ (fun _ => ?_)
theorem barscanlaw11_trim.mono : ∀ a0 k, LeO (barscanlaw11_trim.f k a0) (barscanlaw11_trim.f (k + 1) a0) := by
  intro a0 k
  obtain ⟨ih0, ih1, ih2⟩ := barscanlaw11_trim.mono_l k
  unfold barscanlaw11_trim.f
  repeat' with_reducible first | exact ih0 _ _ | exact ih1 _ _ _ | exact ih2 _ _ | exact LeO.refl _ | exact LeO.none _ | refine LeO.ite ?_ ?_ | refine LeO.bind ?_ (fun _ => ?_)
set_option maxHeartbeats 8000000 in
set_option maxRecDepth 100000 in
theorem barscanlaw11_trim.calls (k : Nat) (A0 : Option Addr) (c0 : Nat) (l0 : List Bool) (r1 : Int) (r2 : Int) (w : World) (hr0 : Kd.C Kd.bool w A0 l0.length l0) (hc0 : l0.length ≤ c0) (h : barscanlaw11_trim.f k l0 = some (r1, r2)) :
    Calls Tryz.prog 23 #[.slice A0 l0.length c0] w fun e w' => ∃ (A : Option Addr) (c : Nat), e = .returned (.slice A ((l0.take r2.toNat).drop r1.toNat).length c) ∧ Kd.C Kd.bool w A ((l0.take r2.toNat).drop r1.toNat).length ((l0.take r2.toNat).drop r1.toNat) ∧ ((l0.take r2.toNat).drop r1.toNat).length ≤ c ∧ Drawn0 w w' := by
 have HR0 := Aside0.mk hr0
 have HC0 := Aside0.mk hc0
 clear hr0 hc0
 have H := h
 clear h
 unfold barscanlaw11_trim.f at H
 have HC2 := Aside0.mk H
 clear H
 go_enter Tryz.func23, Tryz.ntmps23
 go_upto_block 0 with (fail)
 go_cut [3] (fun v4 wc => ∃ (kq : Nat) (x4_1 : Int), v4 = .int .i64 x4_1 ∧ Aside0 (barscanlaw11_trim.j1 kq l0 x4_1 = some (r1, r2)) ∧ Aside0 (kq ≤ k) ∧ Drawn0 w wc)
 case first =>
  have H := HC2.out
  clear HC2
  have H' := Aside0.mk H
  clear H
  go_wp2
  go_loopg [3] k (fun kq v4 w' => ∃ (x4_1 : Int), v4 = .int .i64 x4_1 ∧ Aside0 (barscanlaw11_trim.l0 kq l0 x4_1 = some (r1, r2)) ∧ Aside0 (kq ≤ k) ∧ Drawn0 w w')
  case atStart => exact ⟨(0), rs, H', ⟨Nat.le_refl _⟩, by repeat (first | exact Drawn0.refl _ | apply Drawn0.step)⟩
  case round =>
   clear H'
   try clear p2
   obtain ⟨x4_1, rfl, HA, HK1, ⟨m1, rfl⟩⟩ := hrel
   cases gk with
   | zero => exact absurd HA.out (by simp [barscanlaw11_trim.l0])
   | succ k1 =>
    have H := HA.out
    clear HA
    simp only [barscanlaw11_trim.l0] at H
    replace H := ifc H
    obtain ⟨c3, H⟩ | ⟨c3, H⟩ := H
    rotate_left
    ·have c3b0 : decide (x4_1 < (l0.length : Int)) = false := decide_eq_false c3
     clear c3
     (first | rw [c3b0] | (simp only [i64_w]; rw [c3b0]) | skip)
     have H' := Aside0.mk H
     clear H
     go_wp2
     go_meet
     case rel => exact ⟨_, (x4_1), rs, H', ⟨by have := HK1.out; first | omega | exact Nat.le_refl _⟩, by repeat (first | exact Drawn0.refl _ | apply Drawn0.step)⟩
    have c3b0 : decide (x4_1 < (l0.length : Int)) = true := decide_eq_true c3
    clear c3
    (first | rw [c3b0] | (simp only [i64_w]; rw [c3b0]) | skip)
    replace H := ifn H
    obtain ⟨c4, H⟩ := H
    have c4b0 : decide (0 ≤ x4_1) = true := decide_eq_true c4
    clear c4
    obtain ⟨bq5, hbq5⟩ : ∃ b_ : Bool, b_ = (rdOf false l0 x4_1) := ⟨_, rfl⟩
    replace H : (if bq5 = true then (barscanlaw11_trim.j1 k1 l0 x4_1) else (barscanlaw11_trim.l0 k1 l0 (wrap64 (x4_1 + 1)))) = some (r1, r2) := by rw [← hbq5] at H; exact H
    have Nbq5 := Aside0.mk hbq5
    clear hbq5
    by_cases c6 : bq5 = true
    ·subst c6
     rw [if_pos rfl] at H
     have H' := Aside0.mk H
     clear H
     have p504 : 0 ≤ (x4_1 : Int) := of_decide_eq_true am
     have q504 : x4_1 < (l0.length : Int) := of_decide_eq_true am
     obtain ⟨ad504, e504, hx504_0⟩ := Kd.at_bool HR0.out x4_1 p504 q504
     (try rw [← Nbq5.out] at hx504_0)
     cases e504
     replace p504 := eq_true p504
     replace q504 := eq_true q504
     go_wp2
     go_meet
     case rel => exact ⟨_, (x4_1), rs, H', ⟨by have := HK1.out; first | omega | exact Nat.le_refl _⟩, by repeat (first | exact Drawn0.refl _ | apply Drawn0.step)⟩
    replace c6 := Bool.eq_false_iff.mpr c6
    subst c6
    rw [if_neg (show ¬ (false = true) by decide)] at H
    have H' := Aside0.mk H
    clear H
    have p504 : 0 ≤ (x4_1 : Int) := of_decide_eq_true am
    have q504 : x4_1 < (l0.length : Int) := of_decide_eq_true am
    obtain ⟨ad504, e504, hx504_0⟩ := Kd.at_bool HR0.out x4_1 p504 q504
    (try rw [← Nbq5.out] at hx504_0)
    cases e504
    replace p504 := eq_true p504
    replace q504 := eq_true q504
    go_wp2
    go_roundg k1
    case measure => have := HK1.out; omega
    case rel => exact ⟨(wrap64 (x4_1 + 1)), rs, H', ⟨by have := HK1.out; omega⟩, by repeat (first | exact Drawn0.refl _ | apply Drawn0.step)⟩
 case rest =>
  clear HC2
  try clear p2
  try clear c3
  try clear c3b0
  try clear c4
  try clear c4b0
  try clear p5
  try clear q5
  try clear hx5
  try clear c6
  try clear p6
  try clear hx504_0
  try clear p2
  try clear p504
  try clear q504
  obtain ⟨kq, x4_1, rfl, HA, HJ1, ⟨mc1, rfl⟩⟩ := hcut
  cases kq with
  | zero => exact absurd HA.out (by simp [barscanlaw11_trim.j1])
  | succ kj1 =>
   have H := HA.out
   clear HA
   simp only [barscanlaw11_trim.j1] at H
   have H' := Aside0.mk H
   clear H
   go_wp2
   go_loopg [4] kj1 (fun kq v5 w' => ∃ (x5_2 : Int), v5 = .int .i64 x5_2 ∧ Aside0 (barscanlaw11_trim.l1 kq l0 x4_1 x5_2 = some (r1, r2)) ∧ Aside0 (kq ≤ kj1) ∧ Drawn0 w w')
   case atStart => exact ⟨((l0.length : Int)), rs, H', ⟨Nat.le_refl _⟩, by repeat (first | exact Drawn0.refl _ | apply Drawn0.step)⟩
   case round =>
    clear H'
    try clear c1
    try clear p2
    try clear c3
    try clear c3b0
    try clear c4
    try clear c4b0
    try clear p5
    try clear q5
    try clear hx5
    try clear c6
    try clear p6
    try clear hx504_0
    try clear p2
    try clear p5
    try clear p504
    try clear p6
    try clear q5
    try clear q504
    obtain ⟨x5_2, rfl, HA, HK2, ⟨m2, rfl⟩⟩ := hrel
    cases gk with
    | zero => exact absurd HA.out (by simp [barscanlaw11_trim.l1])
    | succ k2 =>
     have H := HA.out
     clear HA
     simp only [barscanlaw11_trim.l1] at H
     replace H := ifc H
     obtain ⟨c7, H⟩ | ⟨c7, H⟩ := H
     rotate_left
     ·have c7b0 : decide (x4_1 < x5_2) = false := decide_eq_false c7
      clear c7
      obtain ⟨cA, cB, cC, rfl, rfl⟩ := trimE_some H
      clear H
      obtain ⟨i031, hi031, _, hsz31, _⟩ := info_parts info4
      obtain ⟨A31, hcut31, hA31, hC31⟩ := print_mid_of (P := Tryz.prog) Value.bool false 23 4 .i64 .i64 Tryz.underlying23 hi031 hsz31 A0 c0 l0 x4_1 x5_2 cA cB cC HC0.out
      have HR597 := Aside0.mk (Kd.C_of_reads (h1 := fun _ => rfl) (hA31 _ (Kd.reads_of_C HR0.out)))
      have HC597 := Aside0.mk hC31
      clear hA31 hC31 hi031 hsz31
      go_wp2
      go_ret
      exact ⟨A31, _, by first | rfl | (simp; omega), HR597.out, HC597.out, by repeat (first | exact Drawn0.refl _ | apply Drawn0.step)⟩
     have c7b0 : decide (x4_1 < x5_2) = true := decide_eq_true c7
     clear c7
     obtain ⟨ji8, hji8⟩ : ∃ j_ : Int, (wrap64 (x5_2 - 1)) = j_ := ⟨_, rfl⟩
     replace H : (if 0 ≤ (ji8) then (if (ji8) < (l0.length : Int) then (if (rdOf false l0 (ji8) = true) then (trimE l0 x4_1 x5_2) else (barscanlaw11_trim.l1 k2 l0 x4_1 ji8)) else (none)) else (none)) = some (r1, r2) := by first | (rw [hji8] at H; exact H) | (simp only [hji8] at H ⊢; exact H)
     have hji8w : (IntKind.i64.wrap (x5_2 - 1)) = ji8 := (i64_w _).trans hji8
     replace H := ifn H
     obtain ⟨c9, H⟩ := H
     have c9b0 : decide (0 ≤ (ji8)) = true := decide_eq_true c9
     clear c9
     by_cases c10 : (ji8) < (l0.length : Int)
     rotate_left
     ·rw [if_neg c10] at H
      exact absurd H (by simp)
     rw [if_pos c10] at H
     have c10b0 : decide ((ji8) < (l0.length : Int)) = true := decide_eq_true c10
     clear c10
     obtain ⟨bq11, hbq11⟩ : ∃ b_ : Bool, b_ = (rdOf false l0 (ji8)) := ⟨_, rfl⟩
     replace H : (if (bq11 = true) then (trimE l0 x4_1 x5_2) else (barscanlaw11_trim.l1 k2 l0 x4_1 ji8)) = some (r1, r2) := by rw [← hbq11] at H; exact H
     have Nbq11 := Aside0.mk hbq11
     clear hbq11
     by_cases c12 : (bq11 = true)
     ·subst c12
      rw [if_pos rfl] at H
      obtain ⟨cA, cB, cC, rfl, rfl⟩ := trimE_some H
      clear H
      obtain ⟨i031, hi031, _, hsz31, _⟩ := info_parts info4
      obtain ⟨A31, hcut31, hA31, hC31⟩ := print_mid_of (P := Tryz.prog) Value.bool false 23 4 .i64 .i64 Tryz.underlying23 hi031 hsz31 A0 c0 l0 x4_1 x5_2 cA cB cC HC0.out
      have HR597 := Aside0.mk (Kd.C_of_reads (h1 := fun _ => rfl) (hA31 _ (Kd.reads_of_C HR0.out)))
      have HC597 := Aside0.mk hC31
      clear hA31 hC31 hi031 hsz31
      have p505 : 0 ≤ ((ji8) : Int) := of_decide_eq_true am
      have q505 : (ji8) < (l0.length : Int) := of_decide_eq_true am
      obtain ⟨ad505, e505, hx505_0⟩ := Kd.at_bool HR0.out (ji8) p505 q505
      (try rw [← Nbq11.out] at hx505_0)
      cases e505
      replace p505 := eq_true p505
      replace q505 := eq_true q505
      go_wp2
      go_ret
      exact ⟨A31, _, by first | rfl | (simp; omega), HR597.out, HC597.out, by repeat (first | exact Drawn0.refl _ | apply Drawn0.step)⟩
     replace c12 := Bool.eq_false_iff.mpr c12
     subst c12
     rw [if_neg (show ¬ (false = true) by decide)] at H
     have H' := Aside0.mk H
     clear H
     have p505 : 0 ≤ ((ji8) : Int) := of_decide_eq_true am
     have q505 : (ji8) < (l0.length : Int) := of_decide_eq_true am
     obtain ⟨ad505, e505, hx505_0⟩ := Kd.at_bool HR0.out (ji8) p505 q505
     (try rw [← Nbq11.out] at hx505_0)
     cases e505
     replace p505 := eq_true p505
     replace q505 := eq_true q505
     go_wp2
     go_roundg k2
     case measure => have := HJ1.out; have := HK2.out; omega
     case rel => exact ⟨(ji8), (by first | rfl | (simp; done) | (simp only [← hji8] <;> (first | rfl | simp)) | (simp [*]; done)), H', ⟨by have := HJ1.out; have := HK2.out; omega⟩, by repeat (first | exact Drawn0.refl _ | apply Drawn0.step)⟩

end Go.Proofs.YtjmeekceecpemaaGreatDoor.Q

namespace Go.Proofs.YtjmeekceecpemaaGreatDoor.Q
open Go.RowKit Go.Proofs.YtjmeekceecpemaaGreatDoorW.PrintWords Go.Proofs.YtjmeekceecpemaaGreatDoorW.PrintLast Go.Proofs.YtjmeekceecpemaaGreatDoorW.PrintMore

set_option linter.unusedVariables false
set_option linter.unusedSimpArgs false

/-! ### barscanref11_Equal: function 40 -/
def barscanref11_Equal.l0 : Nat → List Bool → List Bool → Int → Option (Bool)
  | 0, _, _, _ => none
  | k + 1, x0, x1, x5 => if x5 < (x0.length : Int) then (if 0 ≤ x5 then (if x5 < (x1.length : Int) then (if ((rdOf false x0 x5) != (rdOf false x1 x5)) = true then (some false) else (barscanref11_Equal.l0 k x0 x1 (wrap64 (x5 + 1)))) else (none)) else (none)) else (some true)
def barscanref11_Equal.f (k : Nat) (l0 : List Bool) (l1 : List Bool) : Option (Bool) := if (l0.length : Int) = (l1.length : Int) then (barscanref11_Equal.l0 k l0 l1 0) else (some false)
theorem barscanref11_Equal.mono_l : ∀ k, (∀ y0 y1 y2, LeO (barscanref11_Equal.l0 k y0 y1 y2) (barscanref11_Equal.l0 (k + 1) y0 y1 y2))
  | 0 => fun _ _ _ r h => by simp [barscanref11_Equal.l0] at h
  | k + 1 => by
    have ih0 := barscanref11_Equal.mono_l k
    · intro y0 y1 y2
      unfold barscanref11_Equal.l0
      repeat' with_reducible first | exact ih0 _ _ _ | exact LeO.refl _ | exact LeO.none _ | refine LeO.ite ?_ ?_ | refine LeO.bind ?_ (fun _ => ?_)
theorem barscanref11_Equal.mono : ∀ a0 a1 k, LeO (barscanref11_Equal.f k a0 a1) (barscanref11_Equal.f (k + 1) a0 a1) := by
  intro a0 a1 k
  have ih0 := barscanref11_Equal.mono_l k
  unfold barscanref11_Equal.f
  repeat' with_reducible first | exact ih0 _ _ _ | exact LeO.refl _ | exact LeO.none _ | refine LeO.ite ?_ ?_ | refine LeO.bind ?_ (fun _ => ?_)
set_option maxHeartbeats 8000000 in
set_option maxRecDepth 100000 in
theorem barscanref11_Equal.calls (k : Nat) (A0 : Option Addr) (c0 : Nat) (l0 : List Bool) (A1 : Option Addr) (c1 : Nat) (l1 : List Bool) (r : Bool) (w : World) (hr0 : Kd.C Kd.bool w A0 l0.length l0) (hc0 : l0.length ≤ c0) (hr1 : Kd.C Kd.bool w A1 l1.length l1) (hc1 : l1.length ≤ c1) (h : barscanref11_Equal.f k l0 l1 = some r) :
    Calls Tryz.prog 40 #[.slice A0 l0.length c0, .slice A1 l1.length c1] w fun e w' => e = .returned (.bool r) ∧ Drawn0 w w' := by
 have HR0 := Aside0.mk hr0
 have HC0 := Aside0.mk hc0
 clear hr0 hc0
 have HR1 := Aside0.mk hr1
 have HC1 := Aside0.mk hc1
 clear hr1 hc1
 have H := h
 clear h
 unfold barscanref11_Equal.f at H
 replace H := ifc H
 obtain ⟨c3, H⟩ | ⟨c3, H⟩ := H
 rotate_left
 ·have c3b0 : ((l0.length : Int) == (l1.length : Int)) = false := beq_eq_false_iff_ne.mpr c3
  have c3b1 : ((l0.length : Int) != (l1.length : Int)) = true := bne_iff_ne.mpr c3
  have c3b2 : (l0.length == l1.length) = false := by first | simpa using c3 | (simp at c3 ⊢; omega)
  obtain rfl := Option.some.inj H
  go_enter Tryz.func40, Tryz.ntmps40
  go_wp2
  repeat (go_quiet (fail); try go_wp2)
  go_ret
  exact ⟨rs, by repeat (first | exact Drawn0.refl _ | apply Drawn0.step)⟩
 have c3b0 : ((l0.length : Int) == (l1.length : Int)) = true := beq_iff_eq.mpr c3
 have c3b1 : ((l0.length : Int) != (l1.length : Int)) = false := bne_eq_false_iff_eq.mpr c3
 have c3b2 : (l0.length == l1.length) = true := by first | simpa using c3 | (simp at c3 ⊢; omega)
 clear c3
 have H' := Aside0.mk H
 clear H
 go_enter Tryz.func40, Tryz.ntmps40
 go_wp2
 repeat (go_quiet (fail); try go_wp2)
 go_loopg [5] k (fun kq v5 w' => ∃ (x5_1 : Int), v5 = .int .i64 x5_1 ∧ Aside0 (barscanref11_Equal.l0 kq l0 l1 x5_1 = some r) ∧ Aside0 (kq ≤ k) ∧ Drawn0 w w')
 case atStart => exact ⟨(0), rs, H', ⟨Nat.le_refl _⟩, by repeat (first | exact Drawn0.refl _ | apply Drawn0.step)⟩
 case round =>
  clear H'
  try clear c1
  try clear p2
  try clear c3
  try clear c3b0
  try clear c3b1
  try clear c3b2
  obtain ⟨x5_1, rfl, HA, HK1, ⟨m1, rfl⟩⟩ := hrel
  cases gk with
  | zero => exact absurd HA.out (by simp [barscanref11_Equal.l0])
  | succ k1 =>
   have H := HA.out
   clear HA
   simp only [barscanref11_Equal.l0] at H
   replace H := ifc H
   obtain ⟨c4, H⟩ | ⟨c4, H⟩ := H
   rotate_left
   ·have c4b0 : decide (x5_1 < (l0.length : Int)) = false := decide_eq_false c4
    clear c4
    obtain rfl := Option.some.inj H
    go_wp2
    repeat (go_quiet (fail); try go_wp2)
    go_ret
    exact ⟨rs, by repeat (first | exact Drawn0.refl _ | apply Drawn0.step)⟩
   have c4b0 : decide (x5_1 < (l0.length : Int)) = true := decide_eq_true c4
   clear c4
   replace H := ifn H
   obtain ⟨c5, H⟩ := H
   have c5b0 : decide (0 ≤ x5_1) = true := decide_eq_true c5
   clear c5
   by_cases c6 : x5_1 < (l1.length : Int)
   rotate_left
   ·rw [if_neg c6] at H
    exact absurd H (by simp)
   rw [if_pos c6] at H
   have c6b0 : decide (x5_1 < (l1.length : Int)) = true := decide_eq_true c6
   clear c6
   replace H := ifc H
   obtain ⟨c7, H⟩ | ⟨c7, H⟩ := H
   ·have c7b0 : ((rdOf false l0 x5_1) != (rdOf false l1 x5_1)) = true := c7
    (try (have c7b1 : decide ((rdOf false l0 x5_1) = (rdOf false l1 x5_1)) = false := by simpa using c7))
    (try (have c7b2 : ((rdOf false l0 x5_1) == (rdOf false l1 x5_1)) = false := by simpa using c7))
    (try (have c7b3 : ¬ ((rdOf false l0 x5_1) = (rdOf false l1 x5_1)) := by simpa using c7))
    clear c7
    obtain rfl := Option.some.inj H
    have p370 : 0 ≤ (x5_1 : Int) := of_decide_eq_true am
    have q370 : x5_1 < (l0.length : Int) := of_decide_eq_true am
    obtain ⟨ad370, e370, hx370_0⟩ := Kd.at_bool HR0.out x5_1 p370 q370
    cases e370
    replace p370 := eq_true p370
    replace q370 := eq_true q370
    try have q370s := s1 q370
    have p371 : 0 ≤ (x5_1 : Int) := of_decide_eq_true am
    have q371 : x5_1 < (l1.length : Int) := of_decide_eq_true am
    obtain ⟨ad371, e371, hx371_0⟩ := Kd.at_bool HR1.out x5_1 p371 q371
    cases e371
    replace p371 := eq_true p371
    replace q371 := eq_true q371
    try have q371s := s1 q371
    go_wp2
    repeat (go_quiet (fail); try go_wp2)
    go_ret
    exact ⟨rs, by repeat (first | exact Drawn0.refl _ | apply Drawn0.step)⟩
   have c7b0 : ((rdOf false l0 x5_1) != (rdOf false l1 x5_1)) = false := by simpa using c7
   (try (have c7b1 : decide ((rdOf false l0 x5_1) = (rdOf false l1 x5_1)) = true := by simpa using c7))
   (try (have c7b2 : ((rdOf false l0 x5_1) == (rdOf false l1 x5_1)) = true := by simpa using c7))
   clear c7
   have H' := Aside0.mk H
   clear H
   have p370 : 0 ≤ (x5_1 : Int) := of_decide_eq_true am
   have q370 : x5_1 < (l0.length : Int) := of_decide_eq_true am
   obtain ⟨ad370, e370, hx370_0⟩ := Kd.at_bool HR0.out x5_1 p370 q370
   cases e370
   replace p370 := eq_true p370
   replace q370 := eq_true q370
   try have q370s := s1 q370
   have p371 : 0 ≤ (x5_1 : Int) := of_decide_eq_true am
   have q371 : x5_1 < (l1.length : Int) := of_decide_eq_true am
   obtain ⟨ad371, e371, hx371_0⟩ := Kd.at_bool HR1.out x5_1 p371 q371
   cases e371
   replace p371 := eq_true p371
   replace q371 := eq_true q371
   try have q371s := s1 q371
   go_wp2
   repeat (go_quiet (fail); try go_wp2)
   go_roundg k1
   case measure => have := HK1.out; omega
   case rel => exact ⟨(wrap64 (x5_1 + 1)), rs, H', ⟨by have := HK1.out; omega⟩, by repeat (first | exact Drawn0.refl _ | apply Drawn0.step)⟩

end Go.Proofs.YtjmeekceecpemaaGreatDoor.Q

namespace Go.Proofs.YtjmeekceecpemaaGreatDoor.Q
open Go.RowKit Go.Proofs.YtjmeekceecpemaaGreatDoorW.PrintWords Go.Proofs.YtjmeekceecpemaaGreatDoorW.PrintLast Go.Proofs.YtjmeekceecpemaaGreatDoorW.PrintMore

set_option linter.unusedVariables false
set_option linter.unusedSimpArgs false

/-! ### barscanlaw11_equal: function 13 -/
def barscanlaw11_equal.f (k : Nat) (l0 : List Bool) (l1 : List Bool) : Option (Bool) := (barscanref11_Equal.f k l0 l1).bind fun t372 => (some t372)
theorem barscanlaw11_equal.mono : ∀ a0 a1 k, LeO (barscanlaw11_equal.f k a0 a1) (barscanlaw11_equal.f (k + 1) a0 a1) := by
  intro a0 a1 k
  unfold barscanlaw11_equal.f
  repeat' with_reducible first | exact barscanref11_Equal.mono _ _ _ | exact LeO.refl _ | exact LeO.none _ | refine LeO.ite ?_ ?_ | refine LeO.bind ?_ (fun _ => ?_)
set_option maxHeartbeats 8000000 in
set_option maxRecDepth 100000 in
theorem barscanlaw11_equal.calls (k : Nat) (A0 : Option Addr) (c0 : Nat) (l0 : List Bool) (A1 : Option Addr) (c1 : Nat) (l1 : List Bool) (r : Bool) (w : World) (hr0 : Kd.C Kd.bool w A0 l0.length l0) (hc0 : l0.length ≤ c0) (hr1 : Kd.C Kd.bool w A1 l1.length l1) (hc1 : l1.length ≤ c1) (h : barscanlaw11_equal.f k l0 l1 = some r) :
    Calls Tryz.prog 13 #[.slice A0 l0.length c0, .slice A1 l1.length c1] w fun e w' => e = .returned (.bool r) ∧ Drawn0 w w' := by
 have HR0 := Aside0.mk hr0
 have HC0 := Aside0.mk hc0
 clear hr0 hc0
 have HR1 := Aside0.mk hr1
 have HC1 := Aside0.mk hc1
 clear hr1 hc1
 have H := h
 clear h
 unfold barscanlaw11_equal.f at H
 replace H := bd H
 obtain ⟨t372, A3, H⟩ := H
 obtain rfl := Option.some.inj H
 go_enter Tryz.func13, Tryz.ntmps13
 go_wp2_with (first | ((with_reducible refine gate_callee (f := 40) rfl ?_); refine goesL_ (some 7) rfl rfl Tryz.func40 kr rfl #[.slice A0 l0.length c0, .slice A1 l1.length c1] rfl ar ?_; (with_reducible refine (barscanref11_Equal.calls k _ _ l0 _ _ l1 t372 _ ?side1 ?side2 ?side3 ?side4 A3.out).mono ?_); (case side1 => repeat (first | exact HR0.out | (with_reducible refine Kd.C_alloc ?_ _) | (with_reducible refine Kd.C_drewN ?_ _) | (with_reducible refine Kd.C_drew ?_))); (case side2 => exact HC0.out); (case side3 => repeat (first | exact HR1.out | (with_reducible refine Kd.C_alloc ?_ _) | (with_reducible refine Kd.C_drewN ?_ _) | (with_reducible refine Kd.C_drew ?_))); (case side4 => exact HC1.out); rintro e w' ⟨rfl, ⟨nd, rfl⟩⟩; refine ⟨_, rfl, ?_⟩))
 go_ret
 exact ⟨rs, by repeat (first | exact Drawn0.refl _ | apply Drawn0.step)⟩

end Go.Proofs.YtjmeekceecpemaaGreatDoor.Q

/- The law EanCanonical: the walk, by hand: it hands rows on that are parts of others. -/
namespace Go.Proofs.YtjmeekceecpemaaGreatDoor.Q
open Go.RowKit Go.Proofs.YtjmeekceecpemaaGreatDoorW.PrintWords Go.Proofs.YtjmeekceecpemaaGreatDoorW.PrintLast Go.Proofs.YtjmeekceecpemaaGreatDoorW.PrintMore
set_option linter.unusedVariables false
set_option maxRecDepth 100000 in
set_option maxHeartbeats 8000000 in
theorem canon_1 (k : Nat) (A0 : Option Addr) (c0 : Nat) (l : List Bool) (e : Int) (w : World) (hr0 : Kd.C Kd.bool w A0 l.length l) (hc0 : l.length ≤ c0) (hX : barscanlaw11_examples.f k = some true) (hD : ean_Decode.f k l = some (0, ⟨#[]⟩, ⟨#[]⟩, e)) (he : e ≠ 0) :
    Calls Tryz.prog 9 #[.slice A0 l.length c0] w fun e w' => e = .returned (.bool true) ∧ Below w.heap.size w w' := by
  have hu := Tryz.underlying31
  have HB := Aside0.mk (Below.refl w.heap.size w)
  have HR := Aside0.mk hr0
  clear hr0
  have e1 : (e != 0) = true := bne_iff_ne.2 he
  have heq : ∀ (d : Nat) (W : World), (Op.equalIn (d + 2) 31 (.agg #[.int .i64 0, .string ⟨#[]⟩, .string ⟨#[]⟩]) (.agg #[.int .i64 0, .string ⟨#[]⟩, .string ⟨#[]⟩])).run Tryz.prog W = .ok true W := fun d W => by rw [eqA31]; simp
  go_enter Tryz.func9, Tryz.ntmps9
  go_wp2_with (first | (go_at_call 15; refine (ean_Decode.calls k A0 c0 l 0 ⟨#[]⟩ ⟨#[]⟩ e _ HR.out hc0 hD).mono ?_; rintro e_ w4 ⟨rfl, hb⟩; replace HB := Aside0.mk (below_step bw hb); clear hb) | (go_at_call 14; refine (barscanlaw11_examples.calls k true _ hX rfl).mono ?_; rintro e_ w9 ⟨rfl, hb⟩; replace HB := Aside0.mk (below_step bw hb); clear hb))
  go_ret
  exact ⟨rfl, bw⟩
set_option maxRecDepth 100000 in
set_option maxHeartbeats 8000000 in
theorem canon_2 (k : Nat) (A0 : Option Addr) (c0 : Nat) (l : List Bool) (a : Int) (t o : ByteArray) (w : World) (hr0 : Kd.C Kd.bool w A0 l.length l) (hc0 : l.length ≤ c0) (hX : barscanlaw11_examples.f k = some true) (hD : ean_Decode.f k l = some (a, t, o, 0)) (ho : o.size = 2 ∨ o.size = 5) :
    Calls Tryz.prog 9 #[.slice A0 l.length c0] w fun e w' => e = .returned (.bool true) ∧ Below w.heap.size w w' := by
  have hu := Tryz.underlying31
  have HB := Aside0.mk (Below.refl w.heap.size w)
  have HR := Aside0.mk hr0
  clear hr0
  have e1 : (o.toList == []) = false := beq_eq_false_iff_ne.2 fun h => by have h2 := bs_len o; rw [← bs_toList, h] at h2; simp at h2; omega
  have e1b : (o.toList != []) = true := bne_iff_ne.2 (beq_eq_false_iff_ne.1 e1)
  rcases ho with h2 | h5
  · have e2 : ((o.size : Int) == 2) = true := beq_iff_eq.2 (by omega)
    go_enter Tryz.func9, Tryz.ntmps9
    go_wp2_with (first | (go_at_call 15; refine (ean_Decode.calls k A0 c0 l a t o 0 _ HR.out hc0 hD).mono ?_; rintro e_ w4 ⟨rfl, hb⟩; replace HB := Aside0.mk (below_step bw hb); clear hb) | (go_at_call 14; refine (barscanlaw11_examples.calls k true _ hX rfl).mono ?_; rintro e_ w9 ⟨rfl, hb⟩; replace HB := Aside0.mk (below_step bw hb); clear hb))
    go_ret
    exact ⟨rfl, bw⟩
  · have e2 : ((o.size : Int) == 2) = false := beq_eq_false_iff_ne.2 (by omega)
    have e3 : ((o.size : Int) == 5) = true := beq_iff_eq.2 (by omega)
    go_enter Tryz.func9, Tryz.ntmps9
    go_wp2_with (first | (go_at_call 15; refine (ean_Decode.calls k A0 c0 l a t o 0 _ HR.out hc0 hD).mono ?_; rintro e_ w4 ⟨rfl, hb⟩; replace HB := Aside0.mk (below_step bw hb); clear hb) | (go_at_call 14; refine (barscanlaw11_examples.calls k true _ hX rfl).mono ?_; rintro e_ w9 ⟨rfl, hb⟩; replace HB := Aside0.mk (below_step bw hb); clear hb))
    go_ret
    exact ⟨rfl, bw⟩
set_option maxRecDepth 100000 in
set_option maxHeartbeats 8000000 in
theorem canon_3 (k : Nat) (A0 : Option Addr) (c0 : Nat) (l r : List Bool) (a p q p2 q2 : Int) (t : ByteArray) (w : World) (hr0 : Kd.C Kd.bool w A0 l.length l) (hc0 : l.length ≤ c0) (hX : barscanlaw11_examples.f k = some true) (hD : ean_Decode.f k l = some (a, t, ⟨#[]⟩, 0))
    (hN : ean_Encode.f k a t ⟨#[]⟩ = some (r, 0)) (hT : barscanlaw11_trim.f k l = some (p, q)) (hT2 : barscanlaw11_trim.f k r = some (p2, q2)) (hE : barscanlaw11_equal.f k ((l.take q.toNat).drop p.toNat) ((r.take q2.toNat).drop p2.toNat) = some true) :
    Calls Tryz.prog 9 #[.slice A0 l.length c0] w fun e w' => e = .returned (.bool true) ∧ Below w.heap.size w w' := by
  have hu := Tryz.underlying31
  have HB := Aside0.mk (Below.refl w.heap.size w)
  have HR := Aside0.mk hr0
  clear hr0
  have e1 : ((⟨#[]⟩ : ByteArray).toList == []) = true := by rw [bs_toList]; rfl
  have e1b : ((⟨#[]⟩ : ByteArray).toList != []) = false := by rw [bs_toList]; rfl
  go_enter Tryz.func9, Tryz.ntmps9
  go_wp2_with (first | (go_at_call 15; (with_reducible refine (ean_Decode.calls k A0 c0 l a t ⟨#[]⟩ 0 _ HR.out hc0 hD).mono ?_); rintro e_ w4 ⟨rfl, hb⟩; replace HB := Aside0.mk (below_step bw hb); clear hb) | (go_at_call 11; (with_reducible refine (ean_Encode.calls k a t ⟨#[]⟩ r 0 _ hN).mono ?_); rintro e_ w5 ⟨v0_, rfl, ho, hb⟩; have HO := Aside0.mk ho; replace HB := Aside0.mk (below_step bw hb); clear hb ho; obtain ⟨Ao, co, eo⟩ := Kd.R_slice HO.out; subst eo) | (go_at_call 23; (with_reducible refine (barscanlaw11_trim.calls k A0 c0 l p q _ (Kd.C_below HR.out HB.out) hc0 hT).mono ?_); rintro e_ w6 ⟨A1, c1, rfl, hC1, hc1, ⟨nd, rfl⟩⟩; generalize (l.take q.toNat).drop p.toNat = L1 at hC1 hc1 hE ⊢) | (go_at_call 23; (with_reducible refine (barscanlaw11_trim.calls k _ _ r p2 q2 _ (Kd.C_drewN (Kd.R_reads' HO.out).2.2 _) (Kd.R_reads' HO.out).2.1 hT2).mono ?_); rintro e_ w7 ⟨A2, c2, rfl, hC2, hc2, ⟨nd2, rfl⟩⟩; generalize (r.take q2.toNat).drop p2.toNat = L2 at hC2 hc2 hE ⊢) | (go_at_call 13; (with_reducible refine (barscanlaw11_equal.calls k _ _ L1 _ _ L2 true _ ?s1 ?s2 ?s3 ?s4 hE).mono ?_); (case s1 => exact hC1); (case s2 => exact hc1); (case s3 => exact hC2); (case s4 => exact hc2); rintro e_ w8 ⟨rfl, ⟨nd3, rfl⟩⟩) | (go_at_call 14; (with_reducible refine (barscanlaw11_examples.calls k true _ hX rfl).mono ?_); rintro e_ w9 ⟨rfl, hb⟩; replace HB := Aside0.mk (below_step bw hb); clear hb))
  go_ret
  exact ⟨rfl, bw⟩
end Go.Proofs.YtjmeekceecpemaaGreatDoor.Q

/- The plain law EanCanonical: a row's trimmed modules. -/
namespace Go.Proofs.YtjmeekceecpemaaGreatDoor.Q
open Go.RowKit Go.Proofs.YtjmeekceecpemaaGreatDoorW.PrintWords Go.Proofs.YtjmeekceecpemaaGreatDoorW.PrintLast Go.Proofs.YtjmeekceecpemaaGreatDoorW.PrintMore
set_option linter.unusedVariables false
set_option linter.unusedSimpArgs false
/-- From dark to dark. -/
def darkE (C : List Bool) : Prop := ∃ m, C = true :: (m ++ [true])
def wideR (a b : Nat) (C : List Bool) : List Bool := List.replicate a false ++ (C ++ List.replicate b false)
theorem wide_len (a b : Nat) (C : List Bool) : (wideR a b C).length = a + (C.length + b) := by simp [wideR]
theorem wide_l (a b : Nat) (C : List Bool) (i : Nat) (h : i < a) : rdOf false (wideR a b C) (i : Int) = false := by
  rw [rdOf_nat _ _ i (by rw [wide_len]; omega)]
  unfold wideR
  rw [List.getElem_append_left (by simpa using h)]
  simp
theorem wide_r (a b : Nat) (C : List Bool) (i : Nat) (h : i < b) : rdOf false (wideR a b C) ((a + C.length + i : Nat) : Int) = false := by
  rw [rdOf_nat _ _ _ (by rw [wide_len]; omega)]
  unfold wideR
  rw [List.getElem_append_right (by first | (simp; done) | (simp; omega)), List.getElem_append_right (by first | (simp; done) | (simp; omega))]
  simp
theorem wide_first (a b : Nat) (C : List Bool) (h : darkE C) : rdOf false (wideR a b C) (a : Int) = true := by
  obtain ⟨m, rfl⟩ := h
  rw [rdOf_nat _ _ a (by rw [wide_len]; simp; omega)]
  unfold wideR
  rw [List.getElem_append_right (by simp)]
  simp
theorem wide_last (a b : Nat) (C : List Bool) (h : darkE C) : rdOf false (wideR a b C) ((a + C.length - 1 : Nat) : Int) = true := by
  obtain ⟨m, rfl⟩ := h
  have hz : (true :: (m ++ [true])).length = m.length + 2 := by simp
  rw [hz, rdOf_nat _ _ _ (by rw [wide_len, hz]; omega)]
  unfold wideR
  rw [List.getElem_append_right (by first | (simp; done) | (simp; omega)), List.getElem_append_left (by first | (simp; done) | (simp; omega))]
  have e : a + (m.length + 2) - 1 - (List.replicate a false).length = m.length + 1 := by rw [List.length_replicate]; omega
  simp only [e]
  rw [List.getElem_cons_succ, List.getElem_append_right (Nat.le_refl _)]
  simp
theorem wide_cut (a b : Nat) (C : List Bool) : ((wideR a b C).take (((a + C.length : Nat) : Int)).toNat).drop ((a : Int)).toNat = C := by
  rw [Int.toNat_natCast, Int.toNat_natCast]
  unfold wideR
  rw [← List.append_assoc, List.take_left' (by simp), List.drop_left' (by simp)]
theorem trim_r (a b : Nat) (C : List Bool) (hC : darkE C) (hl : (wideR a b C).length ≤ 9223372036854775807) (n : Nat) : n ≤ b → Ev (fun k => barscanlaw11_trim.l1 k (wideR a b C) (a : Int) ((a + C.length + n : Nat) : Int)) ((a : Int), ((a + C.length : Nat) : Int)) := by
  have hz := wide_len a b C
  have h2 : 2 ≤ C.length := by obtain ⟨m, rfl⟩ := hC; simp
  induction n with
  | zero =>
    intro _
    refine Ev.succ ?_
    simp only [barscanlaw11_trim.l1]
    rw [show wrap64 (((a + C.length + 0 : Nat) : Int) - 1) = ((a + C.length - 1 : Nat) : Int) by unfold wrap64; omega]
    refine Ev.pos (by omega) (Ev.pos (by omega) (Ev.pos (by omega) (Ev.pos (wide_last a b C hC) (Ev.const ?_))))
    unfold trimE
    rw [Nat.add_zero, if_pos (by omega), if_pos (by omega), if_pos (by omega)]
  | succ n ih =>
    intro hn
    refine Ev.succ ?_
    simp only [barscanlaw11_trim.l1]
    rw [show wrap64 (((a + C.length + (n + 1) : Nat) : Int) - 1) = ((a + C.length + n : Nat) : Int) by unfold wrap64; omega]
    exact Ev.pos (by omega) (Ev.pos (by omega) (Ev.pos (by omega) (Ev.neg (by rw [wide_r a b C n (by omega)]; decide) (ih (by omega)))))
theorem trim_l (a b : Nat) (C : List Bool) (hC : darkE C) (hl : (wideR a b C).length ≤ 9223372036854775807) (n : Nat) : ∀ i : Nat, i + n = a → Ev (fun k => barscanlaw11_trim.l0 k (wideR a b C) (i : Int)) ((a : Int), ((a + C.length : Nat) : Int)) := by
  have hz := wide_len a b C
  have h2 : 2 ≤ C.length := by obtain ⟨m, rfl⟩ := hC; simp
  induction n with
  | zero =>
    intro i h
    obtain rfl : i = a := by omega
    refine Ev.succ ?_
    simp only [barscanlaw11_trim.l0]
    refine Ev.pos (by omega) (Ev.pos (by omega) (Ev.pos (wide_first i b C hC) (Ev.succ ?_)))
    simp only [barscanlaw11_trim.j1]
    rw [hz, show ((i + (C.length + b) : Nat) : Int) = ((i + C.length + b : Nat) : Int) by omega]
    exact trim_r i b C hC hl b (Nat.le_refl _)
  | succ n ih =>
    intro i h
    refine Ev.succ ?_
    simp only [barscanlaw11_trim.l0]
    rw [wrap_next i (by omega)]
    exact Ev.pos (by omega) (Ev.pos (by omega) (Ev.neg (by rw [wide_l a b C i (by omega)]; decide) (ih (i + 1) (by omega))))
theorem ev_trim (a b : Nat) (C : List Bool) (hC : darkE C) (hl : (wideR a b C).length ≤ 9223372036854775807) : Ev (fun k => barscanlaw11_trim.f k (wideR a b C)) ((a : Int), ((a + C.length : Nat) : Int)) := by
  unfold barscanlaw11_trim.f
  exact trim_l a b C hC hl a 0 (by omega)
/-! ### Every row is light, its core, light -/
theorem drop_split (l : List UInt8) : ∃ n, l = List.replicate n 48 ++ l.dropWhile (([48] : List UInt8).contains ·) := by
  induction l with
  | nil => exact ⟨0, rfl⟩
  | cons x l ih =>
    by_cases h : ([48] : List UInt8).contains x = true
    · obtain ⟨n, hn⟩ := ih
      have hx : x = 48 := by simpa using h
      refine ⟨n + 1, ?_⟩
      rw [List.dropWhile_cons_of_pos h, List.replicate_succ, List.cons_append, ← hn, hx]
    · exact ⟨0, by rw [List.dropWhile_cons_of_neg h]; rfl⟩
theorem trim_split (l : List UInt8) : ∃ a b, l = List.replicate a 48 ++ (Lib.trimS l [48] ++ List.replicate b 48) := by
  obtain ⟨b, hb⟩ := drop_split l.reverse
  obtain ⟨a, ha⟩ := drop_split ((l.reverse.dropWhile (([48] : List UInt8).contains ·)).reverse)
  refine ⟨a, b, ?_⟩
  have h1 : l = (l.reverse.dropWhile (([48] : List UInt8).contains ·)).reverse ++ List.replicate b 48 := by
    have := congrArg List.reverse hb
    rw [List.reverse_reverse, List.reverse_append, List.reverse_replicate] at this
    exact this
  unfold Lib.trimS Lib.trimLeftS Lib.trimRightS
  rw [← List.append_assoc, ← ha]
  exact h1
def mB (l : List UInt8) : List Bool := l.map fun c => (c.toNat : Int) == 49
theorem mB_app (l m : List UInt8) : mB (l ++ m) = mB l ++ mB m := by unfold mB; rw [List.map_append]
theorem mB_rep (n : Nat) : mB (List.replicate n 48) = List.replicate n false := by unfold mB; rw [List.map_replicate]; rfl
theorem mB_txt (l : List Bool) : mB (bs (txtS l)) = l := by
  unfold mB txtS
  rw [bs_mk, List.map_map]
  have : ∀ x : Bool, ((fun c : UInt8 => (c.toNat : Int) == 49) ∘ fun x : Bool => if x = true then (49 : UInt8) else 48) x = x := by decide
  rw [List.map_congr_left (g := id) fun x _ => this x, List.map_id]
theorem row_split (l : List Bool) : ∃ a b, l = wideR a b (mB (bs (coreS l))) := by
  obtain ⟨a, b, h⟩ := trim_split (bs (txtS l))
  refine ⟨a, b, ?_⟩
  have h2 := congrArg mB h
  rw [mB_txt, mB_app, mB_app, mB_rep, mB_rep] at h2
  exact h2
theorem dark_edge (c : ByteArray) (h : edge c) : darkE (mB (bs c)) := by
  obtain ⟨m, h⟩ := h
  exact ⟨mB m, by rw [h]; unfold mB; rw [List.map_cons, List.map_append]; rfl⟩
theorem enc_wide (k : Int) (t : ByteArray) : modS (rowB k t ⟨#[]⟩) = wideR (margS k).1.toNat (lastM k ⟨#[]⟩).toNat (mB (bs (symS k t))) := by
  rw [row_core]
  show mB (bs _) = _
  rw [bs_append, bs_append, mB_app, mB_app, zS_bs, zS_bs, mB_rep, mB_rep, List.append_assoc]
  rfl
theorem equal_l (l : List Bool) (hz : l.length ≤ 9223372036854775807) (n : Nat) : ∀ i : Nat, i + n = l.length → Ev (fun k => barscanref11_Equal.l0 k l l (i : Int)) true := by
  induction n with
  | zero =>
    intro i h
    refine Ev.succ ?_
    simp only [barscanref11_Equal.l0]
    exact Ev.neg (by omega) (Ev.const rfl)
  | succ n ih =>
    intro i h
    refine Ev.succ ?_
    simp only [barscanref11_Equal.l0]
    rw [wrap_next i (by omega)]
    exact Ev.pos (by omega) (Ev.pos (by omega) (Ev.pos (by omega) (Ev.neg (by simp) (ih (i + 1) (by omega)))))
theorem equal_ev (l : List Bool) (hz : l.length ≤ 9223372036854775807) : Ev (fun k => barscanlaw11_equal.f k l l) true := by
  unfold barscanlaw11_equal.f barscanref11_Equal.f
  exact Ev.bind (Ev.pos rfl (equal_l l hz l.length 0 (by omega))) (Ev.const rfl)
theorem canonical_calls (A0 : Option Addr) (c0 : Nat) (l : List Bool) (w : World) (hr0 : Kd.C Kd.bool w A0 l.length l) (hc0 : l.length ≤ c0) (hl : l.length ≤ 9223372036854775807) :
    Calls Tryz.prog 9 #[.slice A0 l.length c0] w fun e w' => e = .returned (.bool true) ∧ Below w.heap.size w w' := by
  obtain ⟨K0, hX⟩ := ev_examples
  obtain ⟨K1, hD⟩ := gDecode l hl
  rcases dec_inv l with ⟨e, he, hd⟩ | ⟨hne, ⟨k, t, hc, hcs, hd⟩ | ⟨k, t, o, ho, hd⟩⟩
  · have hD := hD (max K0 K1) (by omega)
    rw [hd] at hD
    exact canon_1 _ A0 c0 l e w hr0 hc0 (hX (max K0 K1) (by omega)) hD he
  rotate_left
  · have hD := hD (max K0 K1) (by omega)
    rw [hd] at hD
    exact canon_2 _ A0 c0 l k t o w hr0 hc0 (hX (max K0 K1) (by omega)) hD ho
  obtain ⟨hn, hdt, hzt, _, _⟩ := cmp_zero hc
  have hb := len_bd k
  have hedge := (core_edge k t ⟨#[]⟩ hc (by decide) (.inl rfl)).1
  have hco : coreR k t ⟨#[]⟩ = symS k t := by unfold coreR; rw [if_pos (show (⟨#[]⟩ : ByteArray).size = 0 from rfl)]
  rw [hco] at hedge
  have hC := dark_edge _ hedge
  obtain ⟨a, b, hrow⟩ := row_split l
  rw [hcs] at hrow
  have hen : encS k t ⟨#[]⟩ = (modS (rowB k t ⟨#[]⟩), 0) := by unfold encS; rw [if_pos hc, if_pos (by decide), if_pos (.inl rfl)]
  obtain ⟨K2, hN⟩ := gEncode k t ⟨#[]⟩ (by omega) (by decide)
  have hlen := enc_len2 k t ⟨#[]⟩ hc (.inl rfl)
  rw [hen, enc_wide] at hN
  rw [enc_wide] at hlen
  obtain ⟨K3, hT⟩ := ev_trim a b _ hC (by rw [← hrow]; exact hl)
  obtain ⟨K4, hT2⟩ := ev_trim (margS k).1.toNat (lastM k ⟨#[]⟩).toNat _ hC (by omega)
  obtain ⟨K5, hE⟩ := equal_ev (mB (bs (symS k t))) (by rw [wide_len] at hlen; omega)
  obtain ⟨M, h0, h1, h2, h3, h4, h5⟩ : ∃ M, K0 ≤ M ∧ K1 ≤ M ∧ K2 ≤ M ∧ K3 ≤ M ∧ K4 ≤ M ∧ K5 ≤ M := ⟨K0 + K1 + K2 + K3 + K4 + K5, by omega, by omega, by omega, by omega, by omega, by omega⟩
  have hD := hD M h1
  rw [hd] at hD
  have hT := hT M h3
  rw [← hrow] at hT
  have hE := hE M h5
  refine canon_3 M A0 c0 l _ k _ _ _ _ t w hr0 hc0 (hX M h0) hD (hN M h2) hT (hT2 M h4) ?_
  have e1 : ((l.take (((a + (mB (bs (symS k t))).length : Nat) : Int)).toNat).drop ((a : Int)).toNat) = mB (bs (symS k t)) := by
    have := wide_cut a b (mB (bs (symS k t)))
    rw [← hrow] at this
    exact this
  rw [e1, wide_cut]
  exact hE
end Go.Proofs.YtjmeekceecpemaaGreatDoor.Q

/- The law EanCanonical: its row and its card: A row that is read without an add-on has, from its first to its last dark module, the modules that Encode returns for its contents. -/
namespace Go.Proofs.YtjmeekceecpemaaGreatDoor.eanCanonical
open Go.ChangeShapes Go.WideShapes Go.ChangeAt Go.RowKit
open Go.ChangeMaps (open_string shut_string)
set_option linter.unusedVariables false
theorem laidOut : laidOutB Tryz.prog = true := by kernel_rfl
set_option maxRecDepth 2000000 in
/-- WHAT THE WALK GIVES. -/
theorem contract (H : Type) (enc : TypeId × Value → H) (W : World) (base : Nat) (args : Array Value) (ds gs : List (DataW H)) (before : List MemPlace)
    (hval : ∀ (j : Nat) t v, Tryz.f9.params[j]? = some t → args[j]? = some v → Value.okWide Tryz.prog W .any base t v)
    (hW : DataW.Whole enc Tryz.prog Tryz.f9.params.toList Rows.eanCanonicalSpec.vars false W args.toList ds gs before) (hL : laidMetH Tryz.prog Rows.eanCanonicalRow.laid W) :
    Calls Tryz.prog 9 args W fun e W' => ∃ v, e = .returned v ∧ Rows.eanCanonicalSpec.post enc Tryz.prog Tryz.f9 false true false false W args v W' := by
  have hW' := hW
  obtain ⟨p, q, hA0, hV, rfl, hfz, hnd⟩ := hW
  have hA : DataW.TrodAll enc Tryz.prog W 0 (fun _ => true) true Tryz.f9.params.toList args.toList ds p := hA0
  rw [Tryz.params9] at hA hval
  obtain ⟨v0, vs0, d0, ds0, p0, q0, hargs, rfl, rfl, h0, r0⟩ := trodAll_cons hA
  obtain ⟨rfl, rfl, rfl⟩ := trodAll_nil r0
  obtain rfl : args = #[v0] := by cases args; simp_all
  obtain ⟨rfl, rfl⟩ := trodVars_none hV
  have k0 := h0
  obtain ⟨u0, len0, cap0, rfl⟩ := okWide_slice Tryz.underlying23 (hval 0 23 v0 rfl rfl)
  have lt0 : ∀ x ∈ p0, x.block < W.heap.size := by obtain ⟨m, hm⟩ := k0; exact DataW.trod_lt m _ _ _ hm
  obtain ⟨fuel, hf⟩ := h0
  obtain ⟨A, l, c, hv, hlc, hC, hz⟩ : ∃ (A : Option Addr) (l : List Bool) (c : Nat), Value.slice u0 len0 cap0 = .slice A l.length c ∧ l.length ≤ c ∧ Go.Proofs.YtjmeekceecpemaaGreatDoorW.PrintWords.Kd.C Go.Proofs.YtjmeekceecpemaaGreatDoorW.PrintWords.Kd.bool W A l.length l ∧ l.length ≤ 9223372036854775807 := by
    rcases Go.Deep.open_bools Tryz.underlying23 Tryz.underlying4 (by kernel_rfl) hf with ⟨hcs, _⟩ | ⟨a, len, cap, B, hcs, _, hl, hm, _, hcell⟩
    · have e : Value.slice u0 len0 cap0 = .slice none 0 0 := (List.cons.inj (show [Value.slice u0 len0 cap0] = [Value.slice none 0 0] from hcs)).1
      exact ⟨none, [], 0, e, Nat.le_refl _, ⟨rfl, by simp, fun h => absurd h (Nat.lt_irrefl 0)⟩, Nat.zero_le _⟩
    · have e : Value.slice u0 len0 cap0 = .slice (some a) len cap := (List.cons.inj (show [Value.slice u0 len0 cap0] = [Value.slice (some a) len cap] from hcs)).1
      have hlen : ((List.range len).map B).length = len := by simp
      refine ⟨some a, (List.range len).map B, cap, by rw [hlen]; exact e, by rw [hlen]; exact hl, ⟨rfl, by rw [hlen]; exact Nat.le_trans hl hm, fun _ => ⟨a, rfl, fun j p hp => ⟨[.bool p], rfl, rfl, fun i u hu => ?_⟩⟩⟩, by rw [hlen]; exact Nat.le_trans (Nat.le_trans hl hm) (by decide)⟩
      have hj : j < len := by have := (List.getElem?_eq_some_iff.1 hp).1; omega
      rw [List.getElem?_map, List.getElem?_range hj] at hp
      match i, hu with
      | 0, hu =>
        obtain rfl := Option.some.inj hu
        obtain rfl := Option.some.inj hp
        have h3 := hcell j (by omega)
        show W.cell? (a.add (j * 1 + 0)) = _
        rw [Nat.mul_one, Nat.add_zero]
        exact h3
  clear hA0
  have walk := Q.canonical_calls A c l W hC hlc hz
  rw [← hv] at walk
  refine walk.mono fun e W' ⟨he, hg⟩ => ?_
  subst he
  exact ⟨_, rfl, _, _, _, [], _, [], hW', trodAll_mk1 (shut_bool Tryz.underlying4 _), (trodAll_cons_mk (Below.trod laidOut (by kernel_rfl) (of_decide_eq_true (by kernel_rfl)) k0 hg lt0) trodAll_mk0), rfl, hg.frame _, fun h => by cases h⟩
theorem reads (os : Os) {H : Type} (enc : TypeId × Value → H) : ∃ places, DataW.whole enc Tryz.prog ((Wit.laidWorld os).forCall (fun _ _ => 0) ⟨#[], #[.slice none 0 0], []⟩).memory Tryz.f9.params.toList Rows.eanCanonicalSpec.vars false #[Value.slice none 0 0].toList 8 = some ([.nil], [], places) :=
  ⟨[], by kernel_rfl⟩
set_option maxRecDepth 100000 in
theorem lifted (os : Os) (started : os.Started) (H : Type) (enc : TypeId × Value → H) (F : Stop.Interp) :
    ReturnsInHanded {} Tryz.checked os 9 .any ((OpenSpec.ofChange Rows.eanCanonicalSpec).preRow enc Tryz.prog Tryz.f9 Rows.eanCanonicalRow.domain false Rows.eanCanonicalRow.laid) (((OpenSpec.ofChange Rows.eanCanonicalSpec).at F).post enc Tryz.prog Tryz.f9 false true false false) := by
  obtain ⟨places, hx⟩ := reads os enc
  refine returnsInHanded_of_row (C := Tryz.checked) (s := OpenSpec.ofChange Rows.eanCanonicalSpec) Wit.own started (by kernel_rfl) Tryz.func9
    (witness_row_atRef (enc := enc) (C := Tryz.checked) false (Wit.laidWorld os) #[.slice none 0 0] rfl (by kernel_rfl) (by kernel_rfl) (by kernel_rfl)
      (OpenSpec.preRow_of_cond 8 hx (by kernel_rfl) (fun k hk => by cases hk) (by kernel_rfl) (Wit.laid_met os _))) ?_
  intro W base args ds gs before hval hW _ _ _ hL _ _
  exact contract H enc W base args ds gs before hval hW hL
theorem said : Rows.EanCanonicalSaid :=
  OpenClaim.holds_of_cond 9 Tryz.f9 rfl rfl rfl rfl rfl rfl rfl ⟨rfl, rfl, rfl, rfl, rfl⟩ rfl rfl rfl rfl rfl (by kernel_rfl) Tryz.func9 (by kernel_rfl)
    (of_decide_eq_true (by kernel_rfl)) (by unfold Func.isWrapper; first | (rw [if_pos (by decide +kernel)]; kernel_rfl) | (rw [if_neg (by decide +kernel)]; exact ⟨rfl, rfl⟩))
    (fun os started H enc _ F => by rw [OpenClaim.pre_eq_preRow]; exact lifted os started H enc F)
theorem plain (f : FuncId) (fn : Func) (hf : Tryz.pinned.checked.prog.funcNamed "barscan/barscanlaw11.EanCanonical" = some f) (hfn : Tryz.pinned.checked.prog.funcs[f]? = some fn) :
    true = Tryz.pinned.checked.prog.looks [] ∧ ∀ (j : Nat) t, fn.params[j]? = some t → Tryz.pinned.checked.prog.wantsStandIn t = false := by
  obtain rfl : f = 9 := Option.some.inj ((show Tryz.prog.funcNamed "barscan/barscanlaw11.EanCanonical" = some 9 by kernel_rfl).symm.trans hf) |>.symm
  obtain rfl : fn = Tryz.f9 := (Option.some.inj (Tryz.func9.symm.trans hfn)).symm
  refine ⟨by kernel_rfl, fun j t ht => ?_⟩
  rw [Tryz.params9] at ht
  obtain rfl : t = 23 := by simpa using Array.mem_of_getElem? ht
  exact (show Tryz.prog.wantsStandIn 23 = false by kernel_rfl)
/-- THE CARD. -/
theorem card : Rows.EanCanonicalCardSaid :=
  Claim7.holds_tied_plain_at .later [] _ _ _ _ said (fun _ h => by cases h) (by kernel_rfl) (fun _ h => by cases h) eanCanonical_row_tie rfl ⟨rfl, rfl⟩ (by kernel_rfl) rfl plain (by kernel_rfl)
end Go.Proofs.YtjmeekceecpemaaGreatDoor.eanCanonical
