/- Joined by a program of this work (pack.py) out of the texts Sp4, Qbarscanref11join, Qbarscanref11light, Qbarscanref11modules, Qbarscanref11table, Qbarscanref11row, Qbarscanref11setsE, Qbarscanref11sets13, Qbarscanref11symbol, Qbarscanref11setsAddOn, Qbarscanref11addition, Qbarscanref11Encode, Qbarscanref11Equal, Qbarscanlaw11equal of this seat, in build order. -/
import Derived.Test.YtjmeekceecpemaaGreatDoorLN1
/- The row that Encode draws: what the program answers. -/
namespace Go.Proofs.YtjmeekceecpemaaGreatDoor.Q
open Go.RowKit Go.Proofs.YtjmeekceecpemaaGreatDoorW.PrintWords Go.Proofs.YtjmeekceecpemaaGreatDoorW.PrintLast Go.Proofs.YtjmeekceecpemaaGreatDoorW.PrintMore
set_option linter.unusedVariables false
set_option linter.unusedSimpArgs false
/-! ### Digits, drawn -/
def pats (s t : ByteArray) : List ByteArray := (List.range s.size).map fun (i : Nat) => ⟨(patL (bt s (i : Int) - 48).toNat (bt t (i : Int))).toArray⟩
def drawS (s t b : ByteArray) : ByteArray := ⟨(joinS (pats s t) b).toArray⟩
theorem pats_len (s t : ByteArray) : (pats s t).length = s.size := by simp [pats]
theorem left_le (n : Nat) : (leftL.getD n []).length ≤ 7 := by
  rcases Nat.lt_or_ge n 10 with h | h
  · exact (show ∀ n, n < 10 → (leftL.getD n []).length ≤ 7 by decide) n h
  · rw [List.getD_eq_getElem?_getD, List.getElem?_eq_none (by simpa [leftL] using h)]; decide
theorem pat_len (n : Nat) (c : Int) : (patL n c).length ≤ 7 := by
  have := left_le n
  unfold patL
  split
  · exact this
  split
  · rw [List.length_reverse, List.length_map]; exact this
  · rw [List.length_map]; exact this
theorem mk_size (l : List UInt8) : (⟨l.toArray⟩ : ByteArray).size = l.length := rfl
theorem pats_le (s t : ByteArray) : ∀ x ∈ pats s t, x.size ≤ 7 := by
  intro x hx
  obtain ⟨i, _, rfl⟩ := List.mem_map.1 hx
  rw [mk_size]
  exact pat_len _ _
theorem lens_le (l : List ByteArray) (h : ∀ x ∈ l, x.size ≤ 7) : Lib.lens (l.map (·.data.toList)) ≤ 7 * l.length := by
  induction l with
  | nil => exact Nat.le_refl _
  | cons a l ih =>
    have h1 := h a (by simp)
    have h2 := ih fun x hx => h x (by simp [hx])
    have h3 : a.data.toList.length = a.size := bs_len a
    have e : Lib.lens ((a :: l).map (·.data.toList)) = a.data.toList.length + Lib.lens (l.map (·.data.toList)) := by simp [Lib.lens]
    rw [e, List.length_cons]
    omega
theorem join_len (l : List ByteArray) (b : ByteArray) (h : ∀ x ∈ l, x.size ≤ 7) : (joinS l b).length ≤ l.length * (7 + b.size) := by
  unfold joinS
  cases l with
  | nil => exact Nat.zero_le _
  | cons a l =>
    have h1 := h a (by simp)
    have h2 := lens_le l fun x hx => h x (by simp [hx])
    have h3 : a.data.toList.length = a.size := bs_len a
    have h4 : b.data.toList.length = b.size := bs_len b
    rw [List.map_cons, Lib.join_cons, List.length_append, Lib.joinTail_length, List.length_map, h3, h4, List.length_cons, Nat.add_mul, Nat.mul_add, Nat.mul_comm b.size]
    omega
theorem draw_size (s t b : ByteArray) : (drawS s t b).size ≤ s.size * (7 + b.size) := by
  unfold drawS
  rw [mk_size]
  have := join_len (pats s t) b (pats_le s t)
  rwa [pats_len] at this
theorem draw_le (s t b : ByteArray) (hs : s.size ≤ 7) (hb : b.size ≤ 2) : (drawS s t b).size ≤ 63 := Nat.le_trans (draw_size s t b) (Nat.mul_le_mul hs (show 7 + b.size ≤ 9 by omega))
theorem drawn_l (s t b : ByteArray) (hd : allDig s = true) (hs : s.size ≤ 7) (ht : s.size ≤ t.size) (hb : b.size ≤ 2) (n : Nat) : ∀ i : Nat, i + n = s.size →
    Ev (fun k => ean_drawn.l0 k s t b ((pats s t).take i) (s.size : Int) (i : Int)) (drawS s t b) := by
  have hp := pats_len s t
  induction n with
  | zero =>
    intro i h
    refine Ev.succ ?_
    simp only [ean_drawn.l0]
    rw [List.take_of_length_le (by omega)]
    refine Ev.neg (by omega) (Ev.bind (Ev.const ?_) (Ev.const rfl))
    unfold strings_Join.f
    have := draw_le s t b hs hb
    unfold drawS at this
    rw [mk_size] at this
    rw [if_pos ⟨by omega, by omega⟩]
    rfl
  | succ n ih =>
    intro i h
    have d := dig_at hd i (by omega)
    refine Ev.succ ?_
    simp only [ean_drawn.l0]
    refine Ev.pos (by omega) (Ev.pos (by omega) (Ev.pos (by omega) (Ev.pos (by omega) ?_)))
    refine Ev.bind (a := ⟨(patL (bt s (i : Int) - 48).toNat (bt t (i : Int))).toArray⟩) (Ev.const (by unfold ean_pattern.f; rw [if_pos d])) ?_
    have e : (pats s t).take i ++ [⟨(patL (bt s (i : Int) - 48).toNat (bt t (i : Int))).toArray⟩] = (pats s t).take (i + 1) := by
      rw [List.take_succ_eq_append_getElem (by omega)]
      simp [pats]
    rw [e, wrap_next i (by omega)]
    exact Ev.pos (by rw [List.length_take]; omega) (ih (i + 1) (by omega))
theorem gdrawn (s t b : ByteArray) (hd : allDig s = true) (hs : s.size ≤ 7) (ht : s.size ≤ t.size) (hb : b.size ≤ 2) : Ev (fun k => ean_drawn.f k s t b) (drawS s t b) := by
  unfold ean_drawn.f
  exact drawn_l s t b hd hs ht hb s.size 0 (by omega)
/-! ### The symbol -/
def par13 : List ByteArray := ean_parity13.f.getD []
def parE : List ByteArray := ean_parityE.f.getD []
def par2 : List ByteArray := ean_parity2.f.getD []
def par5 : List ByteArray := ean_parity5.f.getD []
def b0 : ByteArray := ⟨#[]⟩
def b101 : ByteArray := ⟨#[49, 48, 49]⟩
def bMid : ByteArray := ⟨#[48, 49, 48, 49, 48]⟩
def bEnd : ByteArray := ⟨#[48, 49, 48, 49, 48, 49]⟩
def setE (s : ByteArray) : ByteArray := if bt s 0 = 49 then ⟨((bs (rdOf ByteArray.empty parE ((bt s 7 - 48) % 256))).map (swapB 65 66)).toArray⟩ else rdOf ByteArray.empty parE ((bt s 7 - 48) % 256)
def upcS (x : ByteArray) : ByteArray :=
  (((b101 ++ drawS (x.extract 1 7) (rdOf ByteArray.empty par13 ((bt x 0 - 48) % 256)) b0) ++ bMid) ++ drawS (x.extract 7 x.size) ⟨#[67, 67, 67, 67, 67, 67]⟩ b0) ++ b101
def symS (a : Int) (s : ByteArray) : ByteArray :=
  if a = 2 then (((b101 ++ drawS (s.extract 0 4) ⟨#[65, 65, 65, 65]⟩ b0) ++ bMid) ++ drawS (s.extract 4 s.size) ⟨#[67, 67, 67, 67]⟩ b0) ++ b101
  else if a = 4 then (b101 ++ drawS (s.extract 1 7) (setE s) b0) ++ bEnd else if a = 3 then upcS ((⟨#[48]⟩ : ByteArray) ++ s) else upcS s
theorem par13_at (j : Nat) (h : j < 10) : (rdOf ByteArray.empty par13 (j : Int)).size = 6 := (show ∀ j, j < 10 → (rdOf ByteArray.empty par13 ((j : Nat) : Int)).size = 6 by decide) j h
theorem parE_at (j : Nat) (h : j < 10) : (rdOf ByteArray.empty parE (j : Int)).size = 6 := (show ∀ j, j < 10 → (rdOf ByteArray.empty parE ((j : Nat) : Int)).size = 6 by decide) j h
theorem par5_at (j : Nat) (h : j < 10) : (rdOf ByteArray.empty par5 (j : Int)).size = 5 := (show ∀ j, j < 10 → (rdOf ByteArray.empty par5 ((j : Nat) : Int)).size = 5 by decide) j h
theorem par2_at (j : Nat) (h : j < 4) : (rdOf ByteArray.empty par2 (j : Int)).size = 2 := (show ∀ j, j < 4 → (rdOf ByteArray.empty par2 ((j : Nat) : Int)).size = 2 by decide) j h
theorem dig_val {s : ByteArray} (hd : allDig s = true) (i : Nat) (hi : i < s.size) : ∃ j : Nat, j < 10 ∧ (bt s (i : Int) - 48) % 256 = (j : Int) := by
  have := dig_at hd i hi
  exact ⟨(bt s (i : Int) - 48).toNat, by omega, by omega⟩
theorem b0_size : b0.size = 0 := rfl
theorem b101_size : b101.size = 3 := rfl
theorem bMid_size : bMid.size = 5 := rfl
theorem bEnd_size : bEnd.size = 6 := rfl
theorem setE_size (s : ByteArray) (hd : allDig s = true) (h : s.size = 8) : (setE s).size = 6 := by
  obtain ⟨j, hj, e⟩ := dig_val hd 7 (by omega)
  rw [show ((7 : Nat) : Int) = 7 from rfl] at e
  have := parE_at j hj
  unfold setE
  rw [e]
  split
  · rw [mk_size, List.length_map, bs_len]; exact this
  · exact this
theorem gupc (x : ByteArray) (hd : allDig x = true) (h : x.size = 13) (F : Nat → Option ByteArray)
    (hF : ∀ k, F k = if 1 ≤ 7 then (if 7 ≤ (x.size : Int) then (ean_parity13.f.bind fun t140 => (if 0 < (x.size : Int) then (if 0 ≤ ((bt x 0 - 48) % 256) then (if ((bt x 0 - 48) % 256) < (t140.length : Int) then ((ean_drawn.f k (x.extract 1 7) (rdOf ByteArray.empty t140 ((bt x 0 - 48) % 256)) (⟨#[]⟩ : ByteArray)).bind fun t144 => (if 3 + t144.size ≤ 9223372036854775807 then (if ((⟨#[49, 48, 49]⟩ : ByteArray) ++ t144).size + 5 ≤ 9223372036854775807 then ((ean_drawn.f k (x.extract 7 x.size) (⟨#[67, 67, 67, 67, 67, 67]⟩ : ByteArray) (⟨#[]⟩ : ByteArray)).bind fun t145 => (if (((⟨#[49, 48, 49]⟩ : ByteArray) ++ t144) ++ (⟨#[48, 49, 48, 49, 48]⟩ : ByteArray)).size + t145.size ≤ 9223372036854775807 then (if ((((⟨#[49, 48, 49]⟩ : ByteArray) ++ t144) ++ (⟨#[48, 49, 48, 49, 48]⟩ : ByteArray)) ++ t145).size + 3 ≤ 9223372036854775807 then (some (((((⟨#[49, 48, 49]⟩ : ByteArray) ++ t144) ++ (⟨#[48, 49, 48, 49, 48]⟩ : ByteArray)) ++ t145) ++ (⟨#[49, 48, 49]⟩ : ByteArray))) else (none)) else (none))) else (none)) else (none))) else (none)) else (none)) else (none))) else (none)) else (none)) :
    Ev F (upcS x) := by
  obtain ⟨j, hj, e⟩ := dig_val hd 0 (by omega)
  rw [show ((0 : Nat) : Int) = 0 from rfl] at e
  have hp := par13_at j hj
  have d1 := draw_le (x.extract 1 7) (rdOf ByteArray.empty par13 (j : Int)) b0 (by rw [ex_size]; omega) (by rw [b0_size]; omega)
  have d2 := draw_le (x.extract 7 x.size) ⟨#[67, 67, 67, 67, 67, 67]⟩ b0 (by rw [ex_size]; omega) (by rw [b0_size]; omega)
  refine Ev.congr ?_ hF
  unfold upcS
  rw [e]
  refine Ev.pos (by omega) (Ev.pos (by omega) (Ev.bind (a := par13) (Ev.const rfl) (Ev.pos (by omega) (Ev.pos (by omega) (Ev.pos (show (j : Int) < (10 : Int) by omega) ?_)))))
  refine Ev.bind (gdrawn _ _ b0 (dig_extract hd 1 7) (by rw [ex_size]; omega) (by rw [ex_size]; omega) (by rw [b0_size]; omega)) ?_
  refine Ev.pos (by omega) (Ev.pos (by rw [ap_size]; have : (⟨#[49, 48, 49]⟩ : ByteArray).size = 3 := rfl; omega) ?_)
  refine Ev.bind (gdrawn _ _ b0 (dig_extract hd 7 _) (by rw [ex_size]; omega) (by rw [ex_size]; have : (⟨#[67, 67, 67, 67, 67, 67]⟩ : ByteArray).size = 6 := rfl; omega) (by rw [b0_size]; omega)) ?_
  have z1 : (⟨#[49, 48, 49]⟩ : ByteArray).size = 3 := rfl
  have z2 : (⟨#[48, 49, 48, 49, 48]⟩ : ByteArray).size = 5 := rfl
  exact Ev.pos (by simp only [ap_size]; omega) (Ev.pos (by simp only [ap_size]; omega) (Ev.const rfl))
theorem flip_AB (t : ByteArray) (h : t.size ≤ 1048576) : ean_flipped.f t (⟨#[65]⟩ : ByteArray) (⟨#[66]⟩ : ByteArray) = some ⟨((bs t).map (swapB 65 66)).toArray⟩ := by
  unfold ean_flipped.f
  rw [show bs (⟨#[65]⟩ : ByteArray) = [65] from rfl, show bs (⟨#[66]⟩ : ByteArray) = [66] from rfl]
  simp only
  rw [if_pos h]
theorem gsymbol (a : Int) (s : ByteArray) (h : cmpS a s = 0) : Ev (fun k => ean_symbol.f k a s) (symS a s) := by
  obtain ⟨hn, hd, hz, _, _⟩ := cmp_zero h
  unfold ean_symbol.f symS
  by_cases h2 : a = 2
  · subst h2
    have hz : s.size = 8 := by have : lenS 2 = 8 := by decide
                               omega
    have z1 : (⟨#[49, 48, 49]⟩ : ByteArray).size = 3 := rfl
    have z2 : (⟨#[48, 49, 48, 49, 48]⟩ : ByteArray).size = 5 := rfl
    have z3 : (⟨#[65, 65, 65, 65]⟩ : ByteArray).size = 4 := rfl
    have z4 : (⟨#[67, 67, 67, 67]⟩ : ByteArray).size = 4 := rfl
    have d1 := draw_le (s.extract 0 4) ⟨#[65, 65, 65, 65]⟩ b0 (by rw [ex_size]; omega) (by rw [b0_size]; omega)
    have d2 := draw_le (s.extract 4 s.size) ⟨#[67, 67, 67, 67]⟩ b0 (by rw [ex_size]; omega) (by rw [b0_size]; omega)
    rw [if_pos rfl]
    refine Ev.pos rfl (Ev.pos (by omega) (Ev.pos (by omega) ?_))
    refine Ev.bind (gdrawn _ _ b0 (dig_extract hd 0 4) (by rw [ex_size]; omega) (by rw [ex_size]; omega) (by rw [b0_size]; omega)) ?_
    refine Ev.pos (by omega) (Ev.pos (by rw [ap_size]; omega) ?_)
    refine Ev.bind (gdrawn _ _ b0 (dig_extract hd 4 _) (by rw [ex_size]; omega) (by rw [ex_size]; omega) (by rw [b0_size]; omega)) ?_
    exact Ev.pos (by simp only [ap_size]; omega) (Ev.pos (by simp only [ap_size]; omega) (Ev.const rfl))
  rw [if_neg h2]
  refine Ev.neg h2 ?_
  by_cases h4 : a = 4
  · subst h4
    have hz : s.size = 8 := by rw [len4] at hz; omega
    rw [if_pos rfl]
    obtain ⟨j, hj, e⟩ := dig_val hd 7 (by omega)
    rw [show ((7 : Nat) : Int) = 7 from rfl] at e
    have hs := setE_size s hd hz
    have hp := parE_at j hj
    have d1 := draw_le (s.extract 1 7) (setE s) b0 (by rw [ex_size]; omega) (by rw [b0_size]; omega)
    have z1 : (⟨#[49, 48, 49]⟩ : ByteArray).size = 3 := rfl
    have key : Ev (fun k => ean_symbol.j0 k s (setE s)) ((b101 ++ drawS (s.extract 1 7) (setE s) b0) ++ bEnd) := by
      refine Ev.succ ?_
      simp only [ean_symbol.j0]
      refine Ev.pos (by omega) (Ev.pos (by omega) ?_)
      refine Ev.bind (gdrawn _ _ b0 (dig_extract hd 1 7) (by rw [ex_size]; omega) (by rw [ex_size]; omega) (by rw [b0_size]; omega)) ?_
      exact Ev.pos (by omega) (Ev.pos (by rw [ap_size]; omega) (Ev.const rfl))
    refine Ev.pos rfl (Ev.bind (a := parE) (Ev.const rfl) (Ev.pos (by omega) (Ev.pos (by omega) (Ev.pos (by rw [e]; show (j : Int) < 10; omega) (Ev.pos (by omega) ?_)))))
    by_cases h0 : bt s 0 = 49
    · have es : setE s = ⟨((bs (rdOf ByteArray.empty parE ((bt s 7 - 48) % 256))).map (swapB 65 66)).toArray⟩ := by unfold setE; rw [if_pos h0]
      refine Ev.pos h0 (Ev.bind (Ev.const (flip_AB _ (by rw [e]; omega))) ?_)
      rw [← es]
      exact key
    · have es : setE s = rdOf ByteArray.empty parE ((bt s 7 - 48) % 256) := by unfold setE; rw [if_neg h0]
      refine Ev.neg h0 ?_
      rw [← es]
      exact key
  rw [if_neg h4]
  refine Ev.neg h4 ?_
  by_cases h3 : a = 3
  · subst h3
    have hz : s.size = 12 := by rw [len3] at hz; omega
    have z1 : (⟨#[48]⟩ : ByteArray).size = 1 := rfl
    rw [if_pos rfl]
    refine Ev.pos rfl (Ev.pos (by omega) (gupc _ (by rw [dig_append, hd]; rfl) (by rw [ap_size]; omega) _ fun k => rfl))
  rw [if_neg h3]
  refine Ev.neg h3 (gupc s hd ?_ _ fun k => rfl)
  unfold lenS at hn hz
  by_cases h1 : a = 1
  · rw [if_pos h1] at hz; omega
  · rw [if_neg h1, if_neg (by omega), if_neg h3] at hn; omega
/-! ### The add-on's sets -/
def sum5 (o : ByteArray) : Nat → Int
  | 0 => 0
  | i + 1 => sum5 o i + (3 + (i : Int) % 2 * 6) * ((bt o (i : Int) - 48) % 256)
def setsS (o : ByteArray) : ByteArray :=
  if o.size = 2 then rdOf ByteArray.empty par2 (((10 * ((bt o 0 - 48) % 256)) + ((bt o 1 - 48) % 256)) % 4) else rdOf ByteArray.empty par5 (sum5 o o.size % 10)
theorem sum5_bd (o : ByteArray) (i : Nat) : 0 ≤ sum5 o i ∧ sum5 o i ≤ 2295 * i := by
  induction i with
  | zero => exact ⟨Int.le_refl _, Int.le_refl _⟩
  | succ i ih =>
    have e : sum5 o (i + 1) = sum5 o i + (3 + (i : Int) % 2 * 6) * ((bt o (i : Int) - 48) % 256) := rfl
    rw [e]
    rcases (show (i : Int) % 2 = 0 ∨ (i : Int) % 2 = 1 by omega) with h | h
    · rw [h]; omega
    · rw [h]; omega
theorem gsets_l (o : ByteArray) (hz : o.size ≤ 4096) (n : Nat) : ∀ i : Nat, i + n = o.size → Ev (fun k => ean_setsOf.l0 k o (sum5 o i) (o.size : Int) (i : Int)) (rdOf ByteArray.empty par5 (sum5 o o.size % 10)) := by
  induction n with
  | zero =>
    intro i h
    have hb := sum5_bd o i
    refine Ev.succ ?_
    simp only [ean_setsOf.l0]
    obtain rfl : i = o.size := by omega
    rw [Int.tmod_eq_emod_of_nonneg hb.1]
    refine Ev.neg (by omega) (Ev.bind (a := par5) (Ev.const rfl) (Ev.pos (by omega) (Ev.pos ?_ (Ev.const rfl))))
    show sum5 o o.size % 10 < (10 : Int)
    omega
  | succ n ih =>
    intro i h
    have hb := sum5_bd o i
    have e : sum5 o (i + 1) = sum5 o i + (3 + (i : Int) % 2 * 6) * ((bt o (i : Int) - 48) % 256) := rfl
    have ih2 := ih (i + 1) (by omega)
    refine Ev.succ ?_
    simp only [ean_setsOf.l0]
    rw [Int.tmod_eq_emod_of_nonneg (by omega), wrap_next i (by omega)]
    refine Ev.pos (by omega) (Ev.pos (by omega) (Ev.pos (by omega) ?_))
    rcases (show (i : Int) % 2 = 0 ∨ (i : Int) % 2 = 1 by omega) with h2 | h2
    · rw [h2] at e ⊢
      rw [wrap_id (0 * 6) (by omega) (by omega), wrap_id (3 + 0 * 6) (by omega) (by omega), wrap_id ((3 + 0 * 6) * _) (by omega) (by omega), wrap_id (sum5 o i + _) (by omega) (by omega), ← e]
      exact ih2
    · rw [h2] at e ⊢
      rw [wrap_id (1 * 6) (by omega) (by omega), wrap_id (3 + 1 * 6) (by omega) (by omega), wrap_id ((3 + 1 * 6) * _) (by omega) (by omega), wrap_id (sum5 o i + _) (by omega) (by omega), ← e]
      exact ih2
theorem gsetsOf (o : ByteArray) (hz : o.size = 2 ∨ o.size = 5) : Ev (fun k => ean_setsOf.f k o) (setsS o) := by
  unfold ean_setsOf.f setsS
  by_cases h : o.size = 2
  · rw [if_pos h]
    refine Ev.pos (by omega) (Ev.bind (a := par2) (Ev.const rfl) (Ev.pos (by omega) (Ev.pos (by omega) ?_)))
    rw [show (((10 * (((bt o 0) - 48) % 256)) + (((bt o 1) - 48) % 256)) % 4) = (((10 * ((bt o 0 - 48) % 256)) + ((bt o 1 - 48) % 256)) % 4) from rfl]
    refine Ev.pos (by omega) (Ev.pos ?_ (Ev.const rfl))
    show _ < (4 : Int)
    omega
  · rw [if_neg h]
    exact Ev.neg (by omega) (gsets_l o (by omega) o.size 0 (by omega))
theorem sets_size (o : ByteArray) (hz : o.size = 2 ∨ o.size = 5) : (setsS o).size = o.size := by
  unfold setsS
  have hb := sum5_bd o o.size
  by_cases h : o.size = 2
  · rw [if_pos h]
    have := par2_at ((((10 * ((bt o 0 - 48) % 256)) + ((bt o 1 - 48) % 256)) % 4).toNat) (by omega)
    rw [Int.toNat_of_nonneg (by omega)] at this
    omega
  · rw [if_neg h]
    have := par5_at ((sum5 o o.size % 10).toNat) (by omega)
    rw [Int.toNat_of_nonneg (by omega)] at this
    omega
/-! ### The whole row -/
def modS (b : ByteArray) : List Bool := (bs b).map fun c => (c.toNat : Int) == 49
theorem gmod_l (b : ByteArray) (hb : b.size ≤ 4096) (n : Nat) : ∀ i : Nat, i + n = b.size → Ev (fun k => ean_modules.l0 k b ((modS b).take i ++ List.replicate n false) (b.size : Int) (i : Int)) (modS b) := by
  have hl := bs_len b
  have hm : (modS b).length = b.size := by unfold modS; rw [List.length_map, hl]
  induction n with
  | zero =>
    intro i h
    refine Ev.succ ?_
    simp only [ean_modules.l0]
    rw [List.take_of_length_le (by omega), List.replicate_zero, List.append_nil]
    exact Ev.neg (by omega) (Ev.const rfl)
  | succ n ih =>
    intro i h
    refine Ev.succ ?_
    simp only [ean_modules.l0]
    have e : ((modS b).take i ++ List.replicate (n + 1) false).set i ((bt b (i : Int)) == 49) = (modS b).take (i + 1) ++ List.replicate n false := by
      rw [bt_nat b i (by omega), List.take_succ_eq_append_getElem (by omega), List.set_append_right _ _ (by rw [List.length_take]; omega), List.length_take, show i - min i (modS b).length = 0 by omega, List.replicate_succ, List.set_cons_zero, List.append_assoc]
      simp [modS]
    rw [Int.toNat_natCast, e, wrap_next i (by omega)]
    exact Ev.pos (by omega) (Ev.pos (by omega) (Ev.pos (by omega) (Ev.pos (by rw [List.length_append, List.length_take, List.length_replicate]; omega) (ih (i + 1) (by omega)))))
theorem gmodules (b : ByteArray) (hb : b.size ≤ 4096) : Ev (fun k => ean_modules.f k b) (modS b) := by
  unfold ean_modules.f
  rw [Int.toNat_natCast]
  refine Ev.pos (by omega) (Ev.pos (by omega) ?_)
  simp only [Option.bind_some, List.length_replicate]
  exact gmod_l b hb b.size 0 (by omega)
def zS (n : Int) : ByteArray := ⟨(Lib.repeatL [48] n.toNat).toArray⟩
theorem zS_size (n : Int) : (zS n).size = n.toNat := by unfold zS; rw [mk_size, Lib.repeatL_length]; simp
theorem grep (n : Int) (h0 : 0 ≤ n) (h1 : n ≤ 100) : strings_Repeat.f (⟨#[48]⟩ : ByteArray) n = some (zS n) := by
  unfold strings_Repeat.f
  have z1 : (⟨#[48]⟩ : ByteArray).size = 1 := rfl
  rw [if_pos ⟨h0, by omega, by rw [z1]; omega⟩]
  rfl
def margS (a : Int) : Int × Int := if a = 1 then (11, 7) else if a = 2 then (7, 7) else if a = 3 then (9, 9) else (9, 7)
theorem gmargins (a : Int) : ean_margins.f a = some (margS a) := by
  unfold ean_margins.f margS
  by_cases h1 : a = 1
  · rw [if_pos h1, if_pos h1]
  by_cases h2 : a = 2
  · rw [if_neg h1, if_neg h1, if_pos h2, if_pos h2]
  by_cases h3 : a = 3
  · rw [if_neg h1, if_neg h1, if_neg h2, if_neg h2, if_pos h3, if_pos h3]
  · rw [if_neg h1, if_neg h1, if_neg h2, if_neg h2, if_neg h3, if_neg h3]
theorem marg_bd (a : Int) : 0 ≤ (margS a).1 ∧ (margS a).1 ≤ 11 ∧ 0 ≤ (margS a).2 ∧ (margS a).2 ≤ 11 := by
  unfold margS
  by_cases h1 : a = 1
  · rw [if_pos h1]; decide
  by_cases h2 : a = 2
  · rw [if_neg h1, if_pos h2]; decide
  by_cases h3 : a = 3
  · rw [if_neg h1, if_neg h2, if_pos h3]; decide
  · rw [if_neg h1, if_neg h2, if_neg h3]; decide
def bAdd : ByteArray := ⟨#[49, 48, 49, 49]⟩
def b01 : ByteArray := ⟨#[48, 49]⟩
def rowB (a : Int) (s o : ByteArray) : ByteArray :=
  if o.size = 0 then (zS (margS a).1 ++ symS a s) ++ zS (margS a).2 else ((zS (margS a).1 ++ symS a s) ++ ((zS 9 ++ bAdd) ++ drawS o (setsS o) b01)) ++ zS 7
def encS (a : Int) (s o : ByteArray) : List Bool × Int :=
  if cmpS a s = 0 then (if allDig o = true then (if o.size = 0 ∨ o.size = 2 ∨ o.size = 5 then (modS (rowB a s o), 0) else ([], 7)) else ([], 6)) else ([], cmpS a s)
theorem upc_size (x : ByteArray) (h : x.size ≤ 13) : (upcS x).size ≤ 200 := by
  unfold upcS
  have d1 := draw_le (x.extract 1 7) (rdOf ByteArray.empty par13 ((bt x 0 - 48) % 256)) b0 (by rw [ex_size]; omega) (by rw [b0_size]; omega)
  have d2 := draw_le (x.extract 7 x.size) ⟨#[67, 67, 67, 67, 67, 67]⟩ b0 (by rw [ex_size]; omega) (by rw [b0_size]; omega)
  simp only [ap_size, b101_size, bMid_size]
  omega
theorem sym_size (a : Int) (s : ByteArray) (h : cmpS a s = 0) : (symS a s).size ≤ 200 := by
  obtain ⟨hn, hd, hz, _, _⟩ := cmp_zero h
  have hl := len_bd a
  unfold symS
  split
  · rename_i h2
    have hz : s.size = 8 := by have : lenS 2 = 8 := by decide
                               rw [h2] at hz; omega
    have d1 := draw_le (s.extract 0 4) ⟨#[65, 65, 65, 65]⟩ b0 (by rw [ex_size]; omega) (by rw [b0_size]; omega)
    have d2 := draw_le (s.extract 4 s.size) ⟨#[67, 67, 67, 67]⟩ b0 (by rw [ex_size]; omega) (by rw [b0_size]; omega)
    simp only [ap_size, b101_size, bMid_size]
    omega
  split
  · have d1 := draw_le (s.extract 1 7) (setE s) b0 (by rw [ex_size]; omega) (by rw [b0_size]; omega)
    simp only [ap_size, b101_size, bEnd_size]
    omega
  split
  · rename_i h3
    rw [h3, len3] at hz
    exact upc_size _ (by rw [ap_size, show (⟨#[48]⟩ : ByteArray).size = 1 from rfl]; omega)
  · exact upc_size s (by omega)
theorem gEncode (a : Int) (s o : ByteArray) (hs : s.size ≤ 9223372036854775807) (ho : o.size ≤ 9223372036854775807) : Ev (fun k => ean_Encode.f k a s o) (encS a s o) := by
  unfold ean_Encode.f encS
  refine Ev.bind (Ev.add 1 fun k => gcomplete k a s hs) ?_
  by_cases h : cmpS a s = 0
  · rw [if_pos h]
    refine Ev.pos h (Ev.bind (Ev.const (gdig o ho)) ?_)
    by_cases hd : allDig o = true
    · rw [if_pos hd]
      refine Ev.pos hd ?_
      have hsz := sym_size a s h
      have hm := marg_bd a
      have z1 := zS_size (margS a).1
      have z2 := zS_size (margS a).2
      have z3 := zS_size 9
      have z4 := zS_size 7
      have key : (o.size = 0 ∨ o.size = 2 ∨ o.size = 5) → Ev (fun k => ean_Encode.j0 k a s o) (modS (rowB a s o), 0) := by
        intro hc
        refine Ev.succ ?_
        simp only [ean_Encode.j0]
        refine Ev.bind (Ev.const (gmargins a)) (Ev.bind (Ev.const (grep _ hm.1 (by omega))) (Ev.bind (gsymbol a s h) (Ev.pos (by omega) ?_)))
        unfold rowB
        by_cases h0 : o.size = 0
        · have e0 : o.toList = ([] : List UInt8) := by rw [bs_toList]; exact List.length_eq_zero_iff.1 ((bs_len o).trans h0)
          rw [if_pos h0]
          refine Ev.pos e0 (Ev.bind (Ev.const (grep _ hm.2.2.1 (by omega))) (Ev.pos (by rw [ap_size]; omega) (Ev.bind (gmodules _ (by simp only [ap_size]; omega)) (Ev.const rfl))))
        · have e0 : ¬ o.toList = ([] : List UInt8) := fun e => h0 (by rw [← bs_len, ← bs_toList, e]; rfl)
          have hc2 : o.size = 2 ∨ o.size = 5 := by omega
          have hss := sets_size o hc2
          have z01 : b01.size = 2 := rfl
          have zA : bAdd.size = 4 := rfl
          have zA2 : (⟨#[49, 48, 49, 49]⟩ : ByteArray).size = 4 := rfl
          have d1 := draw_le o (setsS o) b01 (by omega) (by omega)
          rw [if_neg h0]
          refine Ev.neg e0 (Ev.bind (Ev.const (grep 9 (by omega) (by omega))) (Ev.pos (by omega) (Ev.bind (gsetsOf o hc2) (Ev.bind (gdrawn o (setsS o) b01 hd (by omega) (by omega) (by omega)) ?_))))
          refine Ev.pos (by simp only [ap_size]; omega) (Ev.pos (by simp only [ap_size]; omega) (Ev.bind (Ev.const (grep 7 (by omega) (by omega))) (Ev.pos (by simp only [ap_size]; omega) (Ev.bind (gmodules _ (by simp only [ap_size]; omega)) (Ev.const rfl)))))
      by_cases hc : o.size = 0 ∨ o.size = 2 ∨ o.size = 5
      · rw [if_pos hc]
        have hk := key hc
        by_cases h0 : o.size = 0
        · exact Ev.pos (by omega) hk
        by_cases h2 : o.size = 2
        · exact Ev.neg (by omega) (Ev.pos (by omega) hk)
        · exact Ev.neg (by omega) (Ev.neg (by omega) (Ev.pos (by omega) hk))
      · rw [if_neg hc]
        exact Ev.neg (by omega) (Ev.neg (by omega) (Ev.neg (by omega) (Ev.const rfl)))
    · rw [if_neg hd]
      exact Ev.neg hd (Ev.const rfl)
  · rw [if_neg h]
    exact Ev.neg h (Ev.const rfl)
end Go.Proofs.YtjmeekceecpemaaGreatDoor.Q

namespace Go.Proofs.YtjmeekceecpemaaGreatDoor.Q
open Go.RowKit Go.Proofs.YtjmeekceecpemaaGreatDoorW.PrintWords Go.Proofs.YtjmeekceecpemaaGreatDoorW.PrintLast Go.Proofs.YtjmeekceecpemaaGreatDoorW.PrintMore

set_option linter.unusedVariables false
set_option linter.unusedSimpArgs false

/-! ### barscanref11_join: function 36 -/
def barscanref11_join.l0 : Nat → List (List Bool) → List Bool → Int → Option (List Bool)
  | 0, _, _, _ => none
  | k + 1, x0, x3, x4 => if x4 < (x0.length : Int) then (if 0 ≤ x4 then (if x3.length + (rd_L5 x0 x4).length < 140737488355328 then (barscanref11_join.l0 k x0 (x3 ++ (rd_L5 x0 x4)) (wrap64 (x4 + 1))) else (none)) else (none)) else (some x3)
def barscanref11_join.f (k : Nat) (l0 : List (List Bool)) : Option (List Bool) := barscanref11_join.l0 k l0 ([] : List Bool) 0
theorem barscanref11_join.mono_l : ∀ k, (∀ y0 y1 y2, LeO (barscanref11_join.l0 k y0 y1 y2) (barscanref11_join.l0 (k + 1) y0 y1 y2))
  | 0 => fun _ _ _ r h => by simp [barscanref11_join.l0] at h
  | k + 1 => by
    have ih0 := barscanref11_join.mono_l k
    · intro y0 y1 y2
      unfold barscanref11_join.l0
      repeat' with_reducible first | exact ih0 _ _ _ | exact LeO.refl _ | exact LeO.none _ | refine LeO.ite ?_ ?_ | refine LeO.bind ?_ (fun _ => ?_)
theorem barscanref11_join.mono : ∀ a0 k, LeO (barscanref11_join.f k a0) (barscanref11_join.f (k + 1) a0) := by
  intro a0 k
  have ih0 := barscanref11_join.mono_l k
  unfold barscanref11_join.f
  repeat' with_reducible first | exact ih0 _ _ _ | exact LeO.refl _ | exact LeO.none _ | refine LeO.ite ?_ ?_ | refine LeO.bind ?_ (fun _ => ?_)
set_option maxHeartbeats 8000000 in
set_option maxRecDepth 100000 in
theorem barscanref11_join.calls (k : Nat) (A0 : Option Addr) (c0 : Nat) (l0 : List (List Bool)) (r : List Bool) (w : World) (hr0 : Kd.C (Kd.slice 4 Kd.bool) w A0 l0.length l0) (hc0 : l0.length ≤ c0) (h : barscanref11_join.f k l0 = some r) :
    Calls Tryz.prog 36 #[.slice A0 l0.length c0] w fun e w' => ∃ v0_ : Value, e = .returned (v0_) ∧ Kd.R Kd.bool 4 w' w.heap.size (fun _ => True) v0_ r ∧ Below w.heap.size w w' := by
 have HR0 := Aside0.mk hr0
 have HC0 := Aside0.mk hc0
 clear hr0 hc0
 have HB := Aside0.mk (Below.refl w.heap.size w)
 have H := h
 clear h
 unfold barscanref11_join.f at H
 have H' := Aside0.mk H
 clear H
 go_enter Tryz.func36, Tryz.ntmps36
 go_wp2
 go_loopg [3, 4] k (fun kq v3 v4 w' => ∃ (x3_1 : List Bool) (x4_1 : Int), v4 = .int .i64 x4_1 ∧ Aside0 (barscanref11_join.l0 kq l0 x3_1 x4_1 = some r) ∧ Aside0 (kq ≤ k) ∧ Aside0 (Kd.R Kd.bool 4 w' w.heap.size (fun _ => True) v3 x3_1) ∧ Aside0 (Below w.heap.size w w'))
 case atStart => exact ⟨(([] : List Bool)), (0), rs, H', ⟨Nat.le_refl _⟩, ⟨by first | exact Kd.R_nil _ _ _ _ _ | exact Kd.N_nil _ _ _ _ _ | exact Kd.V_nil _ _ _ _ _ | exact Kd.Q_nil _ _ _ _ _ | exact Kd.S_nil _ _ _ _ _⟩, ⟨bw⟩⟩
 case round =>
  clear H'
  obtain ⟨x3_1, x4_1, rfl, HA, HK1, HO_3, HB⟩ := hrel
  cases gk with
  | zero => exact absurd HA.out (by simp [barscanref11_join.l0])
  | succ k1 =>
   have H := HA.out
   clear HA
   simp only [barscanref11_join.l0] at H
   replace H := ifc H
   obtain ⟨c2, H⟩ | ⟨c2, H⟩ := H
   rotate_left
   ·have c2b0 : decide (x4_1 < (l0.length : Int)) = false := decide_eq_false c2
    clear c2
    obtain rfl := Option.some.inj H
    go_wp2
    go_ret
    exact ⟨_, es, kd HO_3, bw⟩
   have c2b0 : decide (x4_1 < (l0.length : Int)) = true := decide_eq_true c2
   clear c2
   replace H := ifn H
   obtain ⟨c3, H⟩ := H
   have c3b0 : decide (0 ≤ x4_1) = true := decide_eq_true c3
   clear c3
   by_cases c4 : x3_1.length + (rd_L5 l0 x4_1).length < 140737488355328
   rotate_left
   ·rw [if_neg c4] at H
    exact absurd H (by simp)
   rw [if_pos c4] at H
   have LMc4 := Aside0.mk c4
   clear c4
   obtain ⟨y200, hy200⟩ : ∃ y_ : List Bool, y_ = (x3_1 ++ (rd_L5 l0 x4_1)) := ⟨_, rfl⟩
   replace H : (barscanref11_join.l0 k1 l0 y200 (wrap64 (x4_1 + 1))) = some r := by first | (rw [hy200]; with_reducible exact H) | (have H2_ := (Option.bind_some _ _).symm.trans H; rw [hy200]; with_reducible exact H2_) | (have H2_ := (Option.bind_some _ _).symm.trans H; with_reducible exact H2_) | with_reducible exact H | (rw [hy200]; exact H) | exact H
   have Ny200 := Aside0.mk hy200
   clear hy200
   have H' := Aside0.mk H
   clear H
   have p199 : 0 ≤ (x4_1 : Int) := of_decide_eq_true am
   have q199 : x4_1 < (l0.length : Int) := of_decide_eq_true am
   obtain ⟨ad199, A199_0, c199_0, e199, hx199_0, hl199_0, hi199_0⟩ := at_L5 HR0.out x4_1 p199 q199
   cases e199
   replace hx199_0 := (HB.out.cell (World.block_lt_of_cell? w _ hx199_0)).trans hx199_0
   have HR199_0 := Aside0.mk hi199_0
   have HC199_0 := Aside0.mk hl199_0
   clear hi199_0 hl199_0
   replace p199 := eq_true p199
   replace q199 := eq_true q199
   go_wp2_with (first | ((with_reducible refine gate_builtin (b := .append) (xs := #[.tmp 11, .tmp 15]) rfl ?_); at_builtin; refine Kd.R_append_rows Kd.bool (w0 := w) w.heap.size rfl (.tmp 11) (.tmp 15) 23 4 (.bool false) 1 rfl Tryz.underlying23 info4 rfl (by decide) om u3 x3_1 (rd_L5 l0 x4_1) _ _ _ (fun _ => True) (fun _ => False) rfl rfl ?aO ?aR (fun _ _ h => h) (fun _ h => h.elim) ?aF ?aB ?aS ?aL ?_; (case aR => repeat (first | exact (Kd.C_below HR199_0.out HB.out) | (with_reducible refine Kd.C_alloc ?_ _) | (with_reducible refine Kd.C_drewN ?_ _) | (with_reducible refine Kd.C_drew ?_))); (case aB => exact bw); (case aF => exact (fun _ _ => trivial)); (case aO => exact (kd HO_3)); (case aS => exact (below_size bw)); (case aL => have := LMc4.out; omega); intro v201 w5 ho hb hg hat; rw [← Ny200.out] at ho; have n0_ := Aside0.mk (hb); have n1_ := Aside0.mk (ho); clear HB; clear HO_3; have HB := n0_; have HO202 := n1_; clear n0_ n1_; clear ho hb hg hat))
   go_roundg k1
   case measure => have := HK1.out; omega
   case rel => exact ⟨(y200), (wrap64 (x4_1 + 1)), rs, H', ⟨by have := HK1.out; omega⟩, ⟨kd HO202⟩, ⟨bw⟩⟩

end Go.Proofs.YtjmeekceecpemaaGreatDoor.Q

namespace Go.Proofs.YtjmeekceecpemaaGreatDoor.Q
open Go.RowKit Go.Proofs.YtjmeekceecpemaaGreatDoorW.PrintWords Go.Proofs.YtjmeekceecpemaaGreatDoorW.PrintLast Go.Proofs.YtjmeekceecpemaaGreatDoorW.PrintMore

set_option linter.unusedVariables false
set_option linter.unusedSimpArgs false

/-! ### barscanref11_light: function 37 -/
def barscanref11_light.f (a0 : Int) : Option (List Bool) := if 0 ≤ a0 then (if (a0 : Int).toNat ≤ 281474976710656 then (some (List.replicate (a0 : Int).toNat false)) else (none)) else (none)
set_option maxHeartbeats 8000000 in
set_option maxRecDepth 100000 in
theorem barscanref11_light.calls (a0 : Int) (r : List Bool) (w : World) (h : barscanref11_light.f a0 = some r) :
    Calls Tryz.prog 37 #[.int .i64 a0] w fun e w' => ∃ v0_ : Value, e = .returned (v0_) ∧ Kd.R Kd.bool 4 w' w.heap.size (fun _ => True) v0_ r ∧ Below w.heap.size w w' := by
 have HB := Aside0.mk (Below.refl w.heap.size w)
 have H := h
 clear h
 unfold barscanref11_light.f at H
 replace H := ifc H
 obtain ⟨c2, H⟩ | ⟨c2, H⟩ := H
 rotate_left
 ·exact absurd H (by simp)
 have c2b0 := eq_true c2
 have c2b1 : decide (0 ≤ a0) = true := decide_eq_true c2
 clear c2
 replace H := ifn H
 obtain ⟨c3, H⟩ := H
 have c3b0 := eq_true c3
 have c3b1 : decide ((a0 : Int).toNat ≤ 281474976710656) = true := decide_eq_true c3
 clear c3
 obtain ⟨y203, hy203⟩ : ∃ y_ : List Bool, y_ = (List.replicate (a0 : Int).toNat false) := ⟨_, rfl⟩
 replace H : (some y203) = some r := by first | (rw [hy203]; with_reducible exact H) | (have H2_ := (Option.bind_some _ _).symm.trans H; rw [hy203]; with_reducible exact H2_) | (have H2_ := (Option.bind_some _ _).symm.trans H; with_reducible exact H2_) | with_reducible exact H | (rw [hy203]; exact H) | exact H
 have Ny203 := Aside0.mk hy203
 clear hy203
 obtain rfl := Option.some.inj H
 go_enter Tryz.func37, Tryz.ntmps37
 go_wp2_with (first | ((with_reducible refine gate_dst (N := 4) rfl ?_); refine Kd.R_make Kd.bool _ 4 rfl (N := 4) rfl 23 _ _ rfl a0 rfl rfl Tryz.underlying23 (.bool false) 1 info4 rfl (by decide) om false (ok := fun _ => True) (okp := fun _ => True) rfl (fun _ hk => hk) trivial (of_decide_eq_true am) (Nat.le_trans (Nat.mul_le_mul_right _ (of_decide_eq_true am : a0.toNat ≤ 281474976710656)) om) (Below.refl _ _) (Nat.le_refl _) ?_; intro v204 w4 ho5 hb hg_ hnew_; clear hg_ hnew_; (first | rw [← Ny203.out] at ho5 | (simp only [Int.reduceToNat] at ho5; rw [← Ny203.out] at ho5)); have n0_ := Aside0.mk (Kd.R_lower ho5 (below_size bw)); have n1_ := Aside0.mk (below_step bw hb); clear HB; have HO205 := n0_; have HB := n1_; clear n0_ n1_; clear hb ho5))
 go_ret
 exact ⟨_, es, kd HO205, bw⟩

end Go.Proofs.YtjmeekceecpemaaGreatDoor.Q

namespace Go.Proofs.YtjmeekceecpemaaGreatDoor.Q
open Go.RowKit Go.Proofs.YtjmeekceecpemaaGreatDoorW.PrintWords Go.Proofs.YtjmeekceecpemaaGreatDoorW.PrintLast Go.Proofs.YtjmeekceecpemaaGreatDoorW.PrintMore

set_option linter.unusedVariables false
set_option linter.unusedSimpArgs false

/-! ### barscanref11_modules: function 67 -/
def barscanref11_modules.l0 : Nat → ByteArray → List Bool → Int → Option (List Bool)
  | 0, _, _, _ => none
  | k + 1, x0, x3, x4 => if x4 < (x0.size : Int) then (if 0 ≤ x4 then (if x3.length < 140737488355328 then (barscanref11_modules.l0 k x0 (x3 ++ [((bt x0 x4) == 49)]) (wrap64 (x4 + 1))) else (none)) else (none)) else (some x3)
def barscanref11_modules.f (k : Nat) (a0 : ByteArray) : Option (List Bool) := barscanref11_modules.l0 k a0 ([] : List Bool) 0
theorem barscanref11_modules.mono_l : ∀ k, (∀ y0 y1 y2, LeO (barscanref11_modules.l0 k y0 y1 y2) (barscanref11_modules.l0 (k + 1) y0 y1 y2))
  | 0 => fun _ _ _ r h => by simp [barscanref11_modules.l0] at h
  | k + 1 => by
    have ih0 := barscanref11_modules.mono_l k
    · intro y0 y1 y2
      unfold barscanref11_modules.l0
      repeat' with_reducible first | exact ih0 _ _ _ | exact LeO.refl _ | exact LeO.none _ | refine LeO.ite ?_ ?_ | refine LeO.bind ?_ (fun _ => ?_)
theorem barscanref11_modules.mono : ∀ a0 k, LeO (barscanref11_modules.f k a0) (barscanref11_modules.f (k + 1) a0) := by
  intro a0 k
  have ih0 := barscanref11_modules.mono_l k
  unfold barscanref11_modules.f
  repeat' with_reducible first | exact ih0 _ _ _ | exact LeO.refl _ | exact LeO.none _ | refine LeO.ite ?_ ?_ | refine LeO.bind ?_ (fun _ => ?_)
set_option maxHeartbeats 8000000 in
set_option maxRecDepth 100000 in
theorem barscanref11_modules.calls (k : Nat) (a0 : ByteArray) (r : List Bool) (w : World) (h : barscanref11_modules.f k a0 = some r) :
    Calls Tryz.prog 67 #[.string a0] w fun e w' => ∃ v0_ : Value, e = .returned (v0_) ∧ Kd.R Kd.bool 4 w' w.heap.size (fun _ => True) v0_ r ∧ Below w.heap.size w w' := by
 have HB := Aside0.mk (Below.refl w.heap.size w)
 have H := h
 clear h
 unfold barscanref11_modules.f at H
 have H' := Aside0.mk H
 clear H
 go_enter Tryz.func67, Tryz.ntmps67
 go_wp2
 go_loopg [3, 4] k (fun kq v3 v4 w' => ∃ (x3_1 : List Bool) (x4_1 : Int), v4 = .int .i64 x4_1 ∧ Aside0 (barscanref11_modules.l0 kq a0 x3_1 x4_1 = some r) ∧ Aside0 (kq ≤ k) ∧ Aside0 (Kd.R Kd.bool 4 w' w.heap.size (fun _ => True) v3 x3_1) ∧ Aside0 (Below w.heap.size w w'))
 case atStart => exact ⟨(([] : List Bool)), (0), rs, H', ⟨Nat.le_refl _⟩, ⟨by first | exact Kd.R_nil _ _ _ _ _ | exact Kd.N_nil _ _ _ _ _ | exact Kd.V_nil _ _ _ _ _ | exact Kd.Q_nil _ _ _ _ _ | exact Kd.S_nil _ _ _ _ _⟩, ⟨bw⟩⟩
 case round =>
  clear H'
  obtain ⟨x3_1, x4_1, rfl, HA, HK1, HO_3, HB⟩ := hrel
  cases gk with
  | zero => exact absurd HA.out (by simp [barscanref11_modules.l0])
  | succ k1 =>
   have H := HA.out
   clear HA
   simp only [barscanref11_modules.l0] at H
   replace H := ifc H
   obtain ⟨c2, H⟩ | ⟨c2, H⟩ := H
   rotate_left
   ·have c2b0 : decide (x4_1 < (a0.size : Int)) = false := decide_eq_false c2
    clear c2
    obtain rfl := Option.some.inj H
    go_wp2
    go_ret
    exact ⟨_, es, kd HO_3, bw⟩
   have c2b0 : decide (x4_1 < (a0.size : Int)) = true := decide_eq_true c2
   clear c2
   replace H := ifn H
   obtain ⟨c3, H⟩ := H
   have c3b0 : decide (0 ≤ x4_1) = true := decide_eq_true c3
   clear c3
   by_cases c5 : x3_1.length < 140737488355328
   rotate_left
   ·rw [if_neg c5] at H
    exact absurd H (by simp)
   rw [if_pos c5] at H
   have LMc5 := Aside0.mk c5
   clear c5
   obtain ⟨y206, hy206⟩ : ∃ y_ : List Bool, y_ = (x3_1 ++ [((bt a0 x4_1) == 49)]) := ⟨_, rfl⟩
   replace H : (barscanref11_modules.l0 k1 a0 y206 (wrap64 (x4_1 + 1))) = some r := by first | (rw [hy206]; with_reducible exact H) | (have H2_ := (Option.bind_some _ _).symm.trans H; rw [hy206]; with_reducible exact H2_) | (have H2_ := (Option.bind_some _ _).symm.trans H; with_reducible exact H2_) | with_reducible exact H | (rw [hy206]; exact H) | exact H
   have Ny206 := Aside0.mk hy206
   clear hy206
   have H' := Aside0.mk H
   clear H
   have p4 : 0 ≤ (x4_1 : Int) := of_decide_eq_true am
   have q4 : x4_1 < (a0.size : Int) := of_decide_eq_true am
   have hx4 := bt_at a0 x4_1
   replace p4 := eq_true p4
   replace q4 := eq_true q4
   try have q4s := s1 q4
   go_wp2_with (first | ((with_reducible refine gate_builtin (b := .append) (xs := #[.tmp 11, .tmp 16]) rfl ?_); at_builtin; refine Kd.R_append Kd.bool (w0 := w) w.heap.size rfl (.tmp 11) (.tmp 16) 23 4 (.bool false) 1 rfl Tryz.underlying23 info4 rfl (by decide) om u3 x3_1 ((bt a0 x4_1) == 49) [.bool ((bt a0 x4_1) == 49)] (fun _ => True) (fun _ => False) rfl rfl ?aP (fun _ hk => hk.elim) ?aF ?aO ?aB ?aS ?aL ?_; (case aP => exact rfl); (case aB => exact bw); (case aF => exact (fun _ _ => trivial)); (case aO => exact (kd HO_3)); (case aS => exact (below_size bw)); (case aL => have := LMc5.out; omega); intro v207 w6 ho hb hg hat; rw [← Ny206.out] at ho; have n0_ := Aside0.mk (hb); have n1_ := Aside0.mk (ho); clear HB; clear HO_3; have HB := n0_; have HO208 := n1_; clear n0_ n1_; clear ho hb hg hat))
   go_roundg k1
   case measure => have := HK1.out; omega
   case rel => exact ⟨(y206), (wrap64 (x4_1 + 1)), rs, H', ⟨by have := HK1.out; omega⟩, ⟨kd HO208⟩, ⟨bw⟩⟩

end Go.Proofs.YtjmeekceecpemaaGreatDoor.Q

namespace Go.Proofs.YtjmeekceecpemaaGreatDoor.Q
open Go.RowKit Go.Proofs.YtjmeekceecpemaaGreatDoorW.PrintWords Go.Proofs.YtjmeekceecpemaaGreatDoorW.PrintLast Go.Proofs.YtjmeekceecpemaaGreatDoorW.PrintMore

set_option linter.unusedVariables false
set_option linter.unusedSimpArgs false

/-! ### barscanref11_table: function 54 -/
def barscanref11_table.l0 : Nat → Int → List Bool → List Bool → Int → Option (List Bool)
 | 0, _, _, _, _ => none
 | k + 1, x1, x5, x6, x7 => if x7 < 7 then (if x1 = 2 then (if 0 ≤ x7 then (if x7 < (x5.length : Int) then (if x7 < (x6.length : Int) then (barscanref11_table.l0 k x1 x5 (x6.set (x7 : Int).toNat (!(rdOf false x5 x7))) (wrap64 (x7 + 1))) else (none)) else (none)) else (none)) else (if 0 ≤ (wrap64 (6 - x7)) then (if (wrap64 (6 - x7)) < (x5.length : Int) then (if 0 ≤ x7 then (if x7 < (x6.length : Int) then (barscanref11_table.l0 k x1 x5 (x6.set (x7 : Int).toNat (!(rdOf false x5 (wrap64 (6 - x7))))) (wrap64 (x7 + 1))) else (none)) else (none)) else (none)) else (none))) else (some x6)
def barscanref11_table.f (k : Nat) (a0 : Int) (a1 : Int) : Option (List Bool) := (some (([(⟨#[48, 48, 48, 49, 49, 48, 49]⟩ : ByteArray), (⟨#[48, 48, 49, 49, 48, 48, 49]⟩ : ByteArray), (⟨#[48, 48, 49, 48, 48, 49, 49]⟩ : ByteArray), (⟨#[48, 49, 49, 49, 49, 48, 49]⟩ : ByteArray), (⟨#[48, 49, 48, 48, 48, 49, 49]⟩ : ByteArray), (⟨#[48, 49, 49, 48, 48, 48, 49]⟩ : ByteArray), (⟨#[48, 49, 48, 49, 49, 49, 49]⟩ : ByteArray), (⟨#[48, 49, 49, 49, 48, 49, 49]⟩ : ByteArray), (⟨#[48, 49, 49, 48, 49, 49, 49]⟩ : ByteArray), (⟨#[48, 48, 48, 49, 48, 49, 49]⟩ : ByteArray)] : List ByteArray) : List ByteArray)).bind fun y209 => (if 0 ≤ a0 then (if a0 < (y209.length : Int) then ((barscanref11_modules.f k (rdOf ByteArray.empty y209 a0)).bind fun t213 => (if a1 = 0 then (some t213) else (if 7 ≤ 281474976710656 then (barscanref11_table.l0 k a1 t213 (List.replicate 7 false) 0) else (none)))) else (none)) else (none))
theorem barscanref11_table.mono_l : ∀ k, (∀ y0 y1 y2 y3, LeO (barscanref11_table.l0 k y0 y1 y2 y3) (barscanref11_table.l0 (k + 1) y0 y1 y2 y3))
 | 0 => fun _ _ _ _ r h => by simp [barscanref11_table.l0] at h
 | k + 1 => by
  have ih0 := barscanref11_table.mono_l k
  ·intro y0 y1 y2 y3
   unfold barscanref11_table.l0
   repeat' with_reducible first | exact ih0 _ _ _ _ | exact barscanref11_modules.mono _ _ | exact LeO.refl _ | exact LeO.none _ | refine LeO.ite ?_ ?_ | refine LeO.bind ?_ (fun _ => ?_)
theorem barscanref11_table.mono : ∀ a0 a1 k, LeO (barscanref11_table.f k a0 a1) (barscanref11_table.f (k + 1) a0 a1) := by
 intro a0 a1 k
 have ih0 := barscanref11_table.mono_l k
 unfold barscanref11_table.f
 repeat' with_reducible first | exact ih0 _ _ _ _ | exact barscanref11_modules.mono _ _ | exact LeO.refl _ | exact LeO.none _ | refine LeO.ite ?_ ?_ | refine LeO.bind ?_ (fun _ => ?_)
set_option maxHeartbeats 8000000 in
set_option maxRecDepth 100000 in
theorem barscanref11_table.calls (k : Nat) (a0 : Int) (a1 : Int) (r : List Bool) (w : World) (h : barscanref11_table.f k a0 a1 = some r) :
  Calls Tryz.prog 54 #[.int .i64 a0, .int .i64 a1] w fun e w' => ∃ v0_ : Value, e = .returned (v0_) ∧ Kd.R Kd.bool 4 w' w.heap.size (fun _ => True) v0_ r ∧ Below w.heap.size w w' := by
 have HB := Aside0.mk (Below.refl w.heap.size w)
 have H := h
 clear h
 unfold barscanref11_table.f at H
 obtain ⟨y209, hy209⟩ : ∃ y_ : List ByteArray, y_ = (([(⟨#[48, 48, 48, 49, 49, 48, 49]⟩ : ByteArray), (⟨#[48, 48, 49, 49, 48, 48, 49]⟩ : ByteArray), (⟨#[48, 48, 49, 48, 48, 49, 49]⟩ : ByteArray), (⟨#[48, 49, 49, 49, 49, 48, 49]⟩ : ByteArray), (⟨#[48, 49, 48, 48, 48, 49, 49]⟩ : ByteArray), (⟨#[48, 49, 49, 48, 48, 48, 49]⟩ : ByteArray), (⟨#[48, 49, 48, 49, 49, 49, 49]⟩ : ByteArray), (⟨#[48, 49, 49, 49, 48, 49, 49]⟩ : ByteArray), (⟨#[48, 49, 49, 48, 49, 49, 49]⟩ : ByteArray), (⟨#[48, 48, 48, 49, 48, 49, 49]⟩ : ByteArray)] : List ByteArray)) := ⟨_, rfl⟩
 replace H : (if 0 ≤ a0 then (if a0 < (y209.length : Int) then ((barscanref11_modules.f k (rdOf ByteArray.empty y209 a0)).bind fun t213 => (if a1 = 0 then (some t213) else (if 7 ≤ 281474976710656 then (barscanref11_table.l0 k a1 t213 (List.replicate 7 false) 0) else (none)))) else (none)) else (none)) = some r := by first | (rw [hy209]; with_reducible exact H) | (have H2_ := (Option.bind_some _ _).symm.trans H; rw [hy209]; with_reducible exact H2_) | (have H2_ := (Option.bind_some _ _).symm.trans H; with_reducible exact H2_) | with_reducible exact H | (rw [hy209]; exact H) | exact H
 have Ny209 := Aside0.mk hy209
 clear hy209
 replace H := ifc H
 obtain ⟨c3, H⟩ | ⟨c3, H⟩ := H
 rotate_left
 ·exact absurd H (by simp)
 have c3b0 : decide (0 ≤ a0) = true := decide_eq_true c3
 clear c3
 replace H := ifn H
 obtain ⟨c4, H⟩ := H
 have c4b0 : decide (a0 < (y209.length : Int)) = true := decide_eq_true c4
 clear c4
 replace H := bd H
 obtain ⟨t213, A5, H⟩ := H
 by_cases c6 : a1 = 0
 ·rw [if_pos c6] at H
  have c6b0 : (a1 == 0) = true := beq_iff_eq.mpr c6
  have c6b1 : (a1 != 0) = false := bne_eq_false_iff_eq.mpr c6
  clear c6
  obtain rfl := Option.some.inj H
  go_enter Tryz.func54, Tryz.ntmps54
  go_wp2_with (first | ((with_reducible refine gate_dst (N := 8) rfl ?_); refine Kd.R_lit Kd.string _ 9 ?hg (N := 8) ?hd (xs := ([(⟨#[48, 48, 48, 49, 49, 48, 49]⟩ : ByteArray), (⟨#[48, 48, 49, 49, 48, 48, 49]⟩ : ByteArray), (⟨#[48, 48, 49, 48, 48, 49, 49]⟩ : ByteArray), (⟨#[48, 49, 49, 49, 49, 48, 49]⟩ : ByteArray), (⟨#[48, 49, 48, 48, 48, 49, 49]⟩ : ByteArray), (⟨#[48, 49, 49, 48, 48, 48, 49]⟩ : ByteArray), (⟨#[48, 49, 48, 49, 49, 49, 49]⟩ : ByteArray), (⟨#[48, 49, 49, 49, 48, 49, 49]⟩ : ByteArray), (⟨#[48, 49, 49, 48, 49, 49, 49]⟩ : ByteArray), (⟨#[48, 48, 48, 49, 48, 49, 49]⟩ : ByteArray)] : List ByteArray)) (inner := [.string (⟨#[48, 48, 48, 49, 49, 48, 49]⟩ : ByteArray), .string (⟨#[48, 48, 49, 49, 48, 48, 49]⟩ : ByteArray), .string (⟨#[48, 48, 49, 48, 48, 49, 49]⟩ : ByteArray), .string (⟨#[48, 49, 49, 49, 49, 48, 49]⟩ : ByteArray), .string (⟨#[48, 49, 48, 48, 48, 49, 49]⟩ : ByteArray), .string (⟨#[48, 49, 49, 48, 48, 48, 49]⟩ : ByteArray), .string (⟨#[48, 49, 48, 49, 49, 49, 49]⟩ : ByteArray), .string (⟨#[48, 49, 49, 49, 48, 49, 49]⟩ : ByteArray), .string (⟨#[48, 49, 49, 48, 49, 49, 49]⟩ : ByteArray), .string (⟨#[48, 48, 48, 49, 48, 49, 49]⟩ : ByteArray)]) (ok := fun _ => True) (okp := fun _ => True) ?hr ?hp (fun _ hk => hk) trivial (Below.refl _ _) (Nat.le_refl _) (by simp) ?_; (case hd => rfl); (case hg => rfl); (case hr => first | (go_simp; done) | (go_simp; rfl)); (case hp => exact (Reps.one (show Kd.M Kd.string _ _ _ (⟨#[48, 48, 48, 49, 49, 48, 49]⟩ : ByteArray) [.string (⟨#[48, 48, 48, 49, 49, 48, 49]⟩ : ByteArray)] from rfl) (Reps.one (show Kd.M Kd.string _ _ _ (⟨#[48, 48, 49, 49, 48, 48, 49]⟩ : ByteArray) [.string (⟨#[48, 48, 49, 49, 48, 48, 49]⟩ : ByteArray)] from rfl) (Reps.one (show Kd.M Kd.string _ _ _ (⟨#[48, 48, 49, 48, 48, 49, 49]⟩ : ByteArray) [.string (⟨#[48, 48, 49, 48, 48, 49, 49]⟩ : ByteArray)] from rfl) (Reps.one (show Kd.M Kd.string _ _ _ (⟨#[48, 49, 49, 49, 49, 48, 49]⟩ : ByteArray) [.string (⟨#[48, 49, 49, 49, 49, 48, 49]⟩ : ByteArray)] from rfl) (Reps.one (show Kd.M Kd.string _ _ _ (⟨#[48, 49, 48, 48, 48, 49, 49]⟩ : ByteArray) [.string (⟨#[48, 49, 48, 48, 48, 49, 49]⟩ : ByteArray)] from rfl) (Reps.one (show Kd.M Kd.string _ _ _ (⟨#[48, 49, 49, 48, 48, 48, 49]⟩ : ByteArray) [.string (⟨#[48, 49, 49, 48, 48, 48, 49]⟩ : ByteArray)] from rfl) (Reps.one (show Kd.M Kd.string _ _ _ (⟨#[48, 49, 48, 49, 49, 49, 49]⟩ : ByteArray) [.string (⟨#[48, 49, 48, 49, 49, 49, 49]⟩ : ByteArray)] from rfl) (Reps.one (show Kd.M Kd.string _ _ _ (⟨#[48, 49, 49, 49, 48, 49, 49]⟩ : ByteArray) [.string (⟨#[48, 49, 49, 49, 48, 49, 49]⟩ : ByteArray)] from rfl) (Reps.one (show Kd.M Kd.string _ _ _ (⟨#[48, 49, 49, 48, 49, 49, 49]⟩ : ByteArray) [.string (⟨#[48, 49, 49, 48, 49, 49, 49]⟩ : ByteArray)] from rfl) (Reps.one (show Kd.M Kd.string _ _ _ (⟨#[48, 48, 48, 49, 48, 49, 49]⟩ : ByteArray) [.string (⟨#[48, 48, 48, 49, 48, 49, 49]⟩ : ByteArray)] from rfl) (Reps.none _ _)))))))))))); intro v210 w7 ho8 hb hg_ hnew_; clear hg_ hnew_; (first | rw [← Ny209.out] at ho8 | (simp only [Int.reduceToNat] at ho8; rw [← Ny209.out] at ho8)); have n0_ := Aside0.mk (Kd.R_lower ho8 (below_size bw)); have n1_ := Aside0.mk (below_step bw hb); clear HB; have HO211 := n0_; have HB := n1_; clear n0_ n1_; clear hb ho8; obtain ⟨Ao9, co9, eo9⟩ := Kd.R_slice HO211.out; subst eo9; have p212 : 0 ≤ (a0 : Int) := of_decide_eq_true am; have q212 : a0 < (y209.length : Int) := of_decide_eq_true am; obtain ⟨ad212, e212, hx212_0⟩ := Kd.at_string (Kd.R_reads' HO211.out).2.2 a0 p212 q212; cases e212; replace p212 := eq_true p212; replace q212 := eq_true q212) | ((with_reducible refine gate_callee (f := 67) rfl ?_); refine goesL_ (some 12) rfl rfl Tryz.func67 kr rfl #[.string (rdOf ByteArray.empty y209 a0)] rfl ar ?_; (with_reducible refine (barscanref11_modules.calls k (rdOf ByteArray.empty y209 a0) t213 _ A5.out).mono ?_); rintro e w10 ⟨v214, rfl, ho0, hb⟩; refine ⟨_, rfl, ?_⟩; have n0_ := Aside0.mk (Kd.R_below (kd HO211) hb); have n1_ := Aside0.mk (Kd.R_lower ho0 (below_size bw)); have n2_ := Aside0.mk (below_step bw hb); clear HO211; clear HB; have HO211 := n0_; have HO215 := n1_; have HB := n2_; clear n0_ n1_ n2_; clear hb; (try clear ho0)))
  go_ret
  exact ⟨_, es, kd HO215, bw⟩
 rw [if_neg c6] at H
 have c6b0 : (a1 == 0) = false := beq_eq_false_iff_ne.mpr c6
 have c6b1 : (a1 != 0) = true := bne_iff_ne.mpr c6
 replace H := ifn H
 obtain ⟨c11, H⟩ := H
 have c11b0 := eq_true c11
 have c11b1 : decide (7 ≤ 281474976710656) = true := decide_eq_true c11
 clear c11
 obtain ⟨y216, hy216⟩ : ∃ y_ : List Bool, y_ = (List.replicate 7 false) := ⟨_, rfl⟩
 replace H : (barscanref11_table.l0 k a1 t213 y216 0) = some r := by first | (rw [hy216]; with_reducible exact H) | (have H2_ := (Option.bind_some _ _).symm.trans H; rw [hy216]; with_reducible exact H2_) | (have H2_ := (Option.bind_some _ _).symm.trans H; with_reducible exact H2_) | with_reducible exact H | (rw [hy216]; exact H) | exact H
 have Ny216 := Aside0.mk hy216
 clear hy216
 have H' := Aside0.mk H
 clear H
 go_enter Tryz.func54, Tryz.ntmps54
 go_wp2_with (first | ((with_reducible refine gate_dst (N := 8) rfl ?_); refine Kd.R_lit Kd.string _ 9 ?hg (N := 8) ?hd (xs := ([(⟨#[48, 48, 48, 49, 49, 48, 49]⟩ : ByteArray), (⟨#[48, 48, 49, 49, 48, 48, 49]⟩ : ByteArray), (⟨#[48, 48, 49, 48, 48, 49, 49]⟩ : ByteArray), (⟨#[48, 49, 49, 49, 49, 48, 49]⟩ : ByteArray), (⟨#[48, 49, 48, 48, 48, 49, 49]⟩ : ByteArray), (⟨#[48, 49, 49, 48, 48, 48, 49]⟩ : ByteArray), (⟨#[48, 49, 48, 49, 49, 49, 49]⟩ : ByteArray), (⟨#[48, 49, 49, 49, 48, 49, 49]⟩ : ByteArray), (⟨#[48, 49, 49, 48, 49, 49, 49]⟩ : ByteArray), (⟨#[48, 48, 48, 49, 48, 49, 49]⟩ : ByteArray)] : List ByteArray)) (inner := [.string (⟨#[48, 48, 48, 49, 49, 48, 49]⟩ : ByteArray), .string (⟨#[48, 48, 49, 49, 48, 48, 49]⟩ : ByteArray), .string (⟨#[48, 48, 49, 48, 48, 49, 49]⟩ : ByteArray), .string (⟨#[48, 49, 49, 49, 49, 48, 49]⟩ : ByteArray), .string (⟨#[48, 49, 48, 48, 48, 49, 49]⟩ : ByteArray), .string (⟨#[48, 49, 49, 48, 48, 48, 49]⟩ : ByteArray), .string (⟨#[48, 49, 48, 49, 49, 49, 49]⟩ : ByteArray), .string (⟨#[48, 49, 49, 49, 48, 49, 49]⟩ : ByteArray), .string (⟨#[48, 49, 49, 48, 49, 49, 49]⟩ : ByteArray), .string (⟨#[48, 48, 48, 49, 48, 49, 49]⟩ : ByteArray)]) (ok := fun _ => True) (okp := fun _ => True) ?hr ?hp (fun _ hk => hk) trivial (Below.refl _ _) (Nat.le_refl _) (by simp) ?_; (case hd => rfl); (case hg => rfl); (case hr => first | (go_simp; done) | (go_simp; rfl)); (case hp => exact (Reps.one (show Kd.M Kd.string _ _ _ (⟨#[48, 48, 48, 49, 49, 48, 49]⟩ : ByteArray) [.string (⟨#[48, 48, 48, 49, 49, 48, 49]⟩ : ByteArray)] from rfl) (Reps.one (show Kd.M Kd.string _ _ _ (⟨#[48, 48, 49, 49, 48, 48, 49]⟩ : ByteArray) [.string (⟨#[48, 48, 49, 49, 48, 48, 49]⟩ : ByteArray)] from rfl) (Reps.one (show Kd.M Kd.string _ _ _ (⟨#[48, 48, 49, 48, 48, 49, 49]⟩ : ByteArray) [.string (⟨#[48, 48, 49, 48, 48, 49, 49]⟩ : ByteArray)] from rfl) (Reps.one (show Kd.M Kd.string _ _ _ (⟨#[48, 49, 49, 49, 49, 48, 49]⟩ : ByteArray) [.string (⟨#[48, 49, 49, 49, 49, 48, 49]⟩ : ByteArray)] from rfl) (Reps.one (show Kd.M Kd.string _ _ _ (⟨#[48, 49, 48, 48, 48, 49, 49]⟩ : ByteArray) [.string (⟨#[48, 49, 48, 48, 48, 49, 49]⟩ : ByteArray)] from rfl) (Reps.one (show Kd.M Kd.string _ _ _ (⟨#[48, 49, 49, 48, 48, 48, 49]⟩ : ByteArray) [.string (⟨#[48, 49, 49, 48, 48, 48, 49]⟩ : ByteArray)] from rfl) (Reps.one (show Kd.M Kd.string _ _ _ (⟨#[48, 49, 48, 49, 49, 49, 49]⟩ : ByteArray) [.string (⟨#[48, 49, 48, 49, 49, 49, 49]⟩ : ByteArray)] from rfl) (Reps.one (show Kd.M Kd.string _ _ _ (⟨#[48, 49, 49, 49, 48, 49, 49]⟩ : ByteArray) [.string (⟨#[48, 49, 49, 49, 48, 49, 49]⟩ : ByteArray)] from rfl) (Reps.one (show Kd.M Kd.string _ _ _ (⟨#[48, 49, 49, 48, 49, 49, 49]⟩ : ByteArray) [.string (⟨#[48, 49, 49, 48, 49, 49, 49]⟩ : ByteArray)] from rfl) (Reps.one (show Kd.M Kd.string _ _ _ (⟨#[48, 48, 48, 49, 48, 49, 49]⟩ : ByteArray) [.string (⟨#[48, 48, 48, 49, 48, 49, 49]⟩ : ByteArray)] from rfl) (Reps.none _ _)))))))))))); intro v210 w12 ho13 hb hg_ hnew_; clear hg_ hnew_; (first | rw [← Ny209.out] at ho13 | (simp only [Int.reduceToNat] at ho13; rw [← Ny209.out] at ho13)); have n0_ := Aside0.mk (Kd.R_lower ho13 (below_size bw)); have n1_ := Aside0.mk (below_step bw hb); clear HB; have HO211 := n0_; have HB := n1_; clear n0_ n1_; clear hb ho13; obtain ⟨Ao14, co14, eo14⟩ := Kd.R_slice HO211.out; subst eo14; have p212 : 0 ≤ (a0 : Int) := of_decide_eq_true am; have q212 : a0 < (y209.length : Int) := of_decide_eq_true am; obtain ⟨ad212, e212, hx212_0⟩ := Kd.at_string (Kd.R_reads' HO211.out).2.2 a0 p212 q212; cases e212; replace p212 := eq_true p212; replace q212 := eq_true q212) | ((with_reducible refine gate_callee (f := 67) rfl ?_); refine goesL_ (some 12) rfl rfl Tryz.func67 kr rfl #[.string (rdOf ByteArray.empty y209 a0)] rfl ar ?_; (with_reducible refine (barscanref11_modules.calls k (rdOf ByteArray.empty y209 a0) t213 _ A5.out).mono ?_); rintro e w15 ⟨v214, rfl, ho0, hb⟩; refine ⟨_, rfl, ?_⟩; have n0_ := Aside0.mk (Kd.R_below (kd HO211) hb); have n1_ := Aside0.mk (Kd.R_lower ho0 (below_size bw)); have n2_ := Aside0.mk (below_step bw hb); clear HO211; clear HB; have HO211 := n0_; have HO215 := n1_; have HB := n2_; clear n0_ n1_ n2_; clear hb; (try clear ho0)) | ((with_reducible refine gate_dst (N := 16) rfl ?_); refine Kd.R_make Kd.bool _ 4 rfl (N := 16) rfl 23 _ _ rfl 7 rfl rfl Tryz.underlying23 (.bool false) 1 info4 rfl (by decide) om false (ok := fun _ => True) (okp := fun _ => True) rfl (fun _ hk => hk) trivial om om (Below.refl _ _) (Nat.le_refl _) ?_; intro v217 w16 ho17 hb hg_ hnew_; clear hg_ hnew_; (first | rw [← Ny216.out] at ho17 | (simp only [Int.reduceToNat] at ho17; rw [← Ny216.out] at ho17)); have n0_ := Aside0.mk (Kd.R_below (kd HO211) hb); have n1_ := Aside0.mk (Kd.R_elder' (kd HO215) (Kd.R_base ho17) hb); have n2_ := Aside0.mk (Kd.R_lower (Kd.R_new' ho17 (Kd.R_lt (kd HO215))) (below_size bw)); have n3_ := Aside0.mk (below_step bw hb); clear HO211; clear HO215; clear HB; have HO211 := n0_; have HO215 := n1_; have HO218 := n2_; have HB := n3_; clear n0_ n1_ n2_ n3_; clear hb ho17))
 go_loopg [7] k (fun kq v7 w' => ∃ (x6_1 : List Bool) (x7_1 : Int), v7 = .int .i64 x7_1 ∧ Aside0 (barscanref11_table.l0 kq a1 t213 x6_1 x7_1 = some r) ∧ Aside0 (kq ≤ k) ∧ Aside0 (Kd.R Kd.bool 4 w' w.heap.size (fun k_ => some k_ ≠ (v217 : Value).ownBlock) v214 t213) ∧ Aside0 (Kd.R Kd.bool 4 w' w.heap.size (fun k_ => some k_ ≠ (v214 : Value).ownBlock) v217 x6_1) ∧ Aside0 (Below w.heap.size w w'))
 case atStart => exact ⟨(y216), (0), rs, H', ⟨Nat.le_refl _⟩, ⟨by (with_reducible repeat (first | apply Kd.R_alloc | apply Kd.R_drewN | apply Kd.R_drew)); exact Kd.R_mono HO215.out (fun _ hk => hk.2)⟩, ⟨by (with_reducible repeat (first | apply Kd.R_alloc | apply Kd.R_drewN | apply Kd.R_drew)); exact Kd.R_mono HO218.out (fun _ hk => hk.2)⟩, ⟨bw⟩⟩
 case round =>
  clear H'
  obtain ⟨x6_1, x7_1, rfl, HA, HK1, HO_5, HO_6, HB⟩ := hrel
  cases gk with
  | zero => exact absurd HA.out (by simp [barscanref11_table.l0])
  | succ k1 =>
   have H := HA.out
   clear HA
   simp only [barscanref11_table.l0] at H
   replace H := ifc H
   obtain ⟨c18, H⟩ | ⟨c18, H⟩ := H
   rotate_left
   ·have c18b0 : decide (x7_1 < 7) = false := decide_eq_false c18
    clear c18
    obtain rfl := Option.some.inj H
    go_wp2
    go_ret
    exact ⟨_, es, by (with_reducible repeat (first | apply Kd.R_alloc | apply Kd.R_drewN | apply Kd.R_drew)); exact Kd.R_mono HO_6.out (fun _ hk => trivial), bw⟩
   have c18b0 : decide (x7_1 < 7) = true := decide_eq_true c18
   clear c18
   replace H := ifc H
   obtain ⟨c19, H⟩ | ⟨c19, H⟩ := H
   ·have c19b0 : (a1 == 2) = true := beq_iff_eq.mpr c19
    have c19b1 : (a1 != 2) = false := bne_eq_false_iff_eq.mpr c19
    clear c19
    replace H := ifn H
    obtain ⟨c20, H⟩ := H
    have c20b0 : decide (0 ≤ x7_1) = true := decide_eq_true c20
    clear c20
    by_cases c21 : x7_1 < (t213.length : Int)
    rotate_left
    ·rw [if_neg c21] at H
     exact absurd H (by simp)
    rw [if_pos c21] at H
    have c21b0 : decide (x7_1 < (t213.length : Int)) = true := decide_eq_true c21
    clear c21
    replace H := ifn H
    obtain ⟨c22, H⟩ := H
    have c22b0 : decide (x7_1 < (x6_1.length : Int)) = true := decide_eq_true c22
    clear c22
    obtain ⟨y220, hy220⟩ : ∃ y_ : List Bool, y_ = (x6_1.set (x7_1 : Int).toNat (!(rdOf false t213 x7_1))) := ⟨_, rfl⟩
    replace H : (barscanref11_table.l0 k1 a1 t213 y220 (wrap64 (x7_1 + 1))) = some r := by first | (rw [hy220]; with_reducible exact H) | (have H2_ := (Option.bind_some _ _).symm.trans H; rw [hy220]; with_reducible exact H2_) | (have H2_ := (Option.bind_some _ _).symm.trans H; with_reducible exact H2_) | with_reducible exact H | (rw [hy220]; exact H) | exact H
    have Ny220 := Aside0.mk hy220
    clear hy220
    have H' := Aside0.mk H
    clear H
    obtain ⟨Ao24, co24, eo24⟩ := Kd.R_slice HO_5.out
    subst eo24
    have p219 : 0 ≤ (x7_1 : Int) := of_decide_eq_true am
    have q219 : x7_1 < (t213.length : Int) := of_decide_eq_true am
    obtain ⟨ad219, e219, hx219_0⟩ := Kd.at_bool (Kd.R_reads' HO_5.out).2.2 x7_1 p219 q219
    cases e219
    replace p219 := eq_true p219
    replace q219 := eq_true q219
    have p23 : 0 ≤ (x7_1 : Int) := of_decide_eq_true am
    have q23 : (x7_1 : Int) < ((x6_1.length : Int) : Int) := of_decide_eq_true am
    obtain ⟨go23, co23, eo23, gb23, gl23, cl23, HG23⟩ := Kd.R_form HO_6.out om
    (first | cases eo23 | (injection eo23 with ea_ en_ ec_; (first | subst ea_ | (injection ea_ with ea_; subst ea_)); subst ec_; clear en_))
    have GB23 := Aside0.mk gb23
    have GG23 := Aside0.mk HG23
    clear gb23 gl23 HG23
    obtain ⟨hx23_0, hf23_0⟩ := Kd.R_celln false HO_6.out (x7_1 : Int) p23 q23
    replace p23 := eq_true p23
    replace q23 := eq_true q23
    have HP25 := Kd.R_putg HO_6.out (x7_1 : Int) (!(rdOf false t213 x7_1))
    go_wp2_with (first | ((with_reducible refine gate_store (t := 4) (p := 30) rfl ?_); refine store_event (t := 4) (p := 30) (v := ?vo_w26) (w1 := (wr.setCell ⟨go23, (x7_1 : Int).toNat, none⟩ (.bool (!(rdOf false t213 x7_1))))) ?hg ?ho ?hn ?hr ?_; (case ho => rfl); (case hg => rfl); (case hn => rfl); (case hr => first | (go_simp; done) | (go_simp; rfl)); intro w26 hw; have hg : wr.grownBy w26 (some go23) := (by rw [hw]; exact HP25.2); have hp_ : Kd.R Kd.bool 4 w26 w.heap.size (fun k_ => some k_ ≠ (.slice (some ad219) t213.length co24 : Value).ownBlock) (.slice (some ⟨go23, 0, none⟩) x6_1.length co23) y220 := (by rw [hw, Ny220.out]; exact HP25.1); clear HP25; have n0_ := Aside0.mk (Kd.R_after (v := (.slice (some ⟨go23, 0, none⟩) x6_1.length co23)) (v1 := (.slice (some ⟨go23, 0, none⟩) x6_1.length co23)) (ok := (fun _ => True)) (by (with_reducible repeat (first | apply Kd.R_alloc | apply Kd.R_drewN | apply Kd.R_drew)); exact Kd.R_mono HO_5.out (fun _ hk => ⟨trivial, hk⟩)) hg (.inl rfl)); have n1_ := Aside0.mk (hp_); have n2_ := Aside0.mk ((by rw [hw]; exact below_set (HB.out) GB23.out : Below w.heap.size w w26)); clear HO_5; clear HO_6; clear HB; have HO_5 := n0_; have HO_6 := n1_; have HB := n2_; clear n0_ n1_ n2_; clear hg hw hp_))
    go_roundg k1
    case measure => have := HK1.out; omega
    case rel => exact ⟨(y220), (wrap64 (x7_1 + 1)), rs, H', ⟨by have := HK1.out; omega⟩, ⟨by (with_reducible repeat (first | apply Kd.R_alloc | apply Kd.R_drewN | apply Kd.R_drew)); exact Kd.R_mono HO_5.out (fun _ hk => hk.2)⟩, ⟨kd HO_6⟩, ⟨bw⟩⟩
   have c19b0 : (a1 == 2) = false := beq_eq_false_iff_ne.mpr c19
   have c19b1 : (a1 != 2) = true := bne_iff_ne.mpr c19
   obtain ⟨ji27, hji27⟩ : ∃ j_ : Int, (wrap64 (6 - x7_1)) = j_ := ⟨_, rfl⟩
   replace H : (if 0 ≤ (ji27) then (if (ji27) < (t213.length : Int) then (if 0 ≤ x7_1 then (if x7_1 < (x6_1.length : Int) then (barscanref11_table.l0 k1 a1 t213 (x6_1.set (x7_1 : Int).toNat (!(rdOf false t213 (ji27)))) (wrap64 (x7_1 + 1))) else (none)) else (none)) else (none)) else (none)) = some r := by first | (rw [hji27] at H; exact H) | (simp only [hji27] at H ⊢; exact H)
   have hji27w : (IntKind.i64.wrap (6 - x7_1)) = ji27 := (i64_w _).trans hji27
   replace H := ifn H
   obtain ⟨c28, H⟩ := H
   have c28b0 : decide (0 ≤ (ji27)) = true := decide_eq_true c28
   clear c28
   by_cases c29 : (ji27) < (t213.length : Int)
   rotate_left
   ·rw [if_neg c29] at H
    exact absurd H (by simp)
   rw [if_pos c29] at H
   have c29b0 : decide ((ji27) < (t213.length : Int)) = true := decide_eq_true c29
   clear c29
   replace H := ifn H
   obtain ⟨c30, H⟩ := H
   have c30b0 : decide (0 ≤ x7_1) = true := decide_eq_true c30
   clear c30
   by_cases c31 : x7_1 < (x6_1.length : Int)
   rotate_left
   ·rw [if_neg c31] at H
    exact absurd H (by simp)
   rw [if_pos c31] at H
   have c31b0 : decide (x7_1 < (x6_1.length : Int)) = true := decide_eq_true c31
   clear c31
   obtain ⟨y222, hy222⟩ : ∃ y_ : List Bool, y_ = (x6_1.set (x7_1 : Int).toNat (!(rdOf false t213 (ji27)))) := ⟨_, rfl⟩
   replace H : (barscanref11_table.l0 k1 a1 t213 y222 (wrap64 (x7_1 + 1))) = some r := by first | (rw [hy222]; with_reducible exact H) | (have H2_ := (Option.bind_some _ _).symm.trans H; rw [hy222]; with_reducible exact H2_) | (have H2_ := (Option.bind_some _ _).symm.trans H; with_reducible exact H2_) | with_reducible exact H | (rw [hy222]; exact H) | exact H
   have Ny222 := Aside0.mk hy222
   clear hy222
   have H' := Aside0.mk H
   clear H
   obtain ⟨Ao33, co33, eo33⟩ := Kd.R_slice HO_5.out
   subst eo33
   have p221 : 0 ≤ ((ji27) : Int) := of_decide_eq_true am
   have q221 : (ji27) < (t213.length : Int) := of_decide_eq_true am
   obtain ⟨ad221, e221, hx221_0⟩ := Kd.at_bool (Kd.R_reads' HO_5.out).2.2 (ji27) p221 q221
   cases e221
   replace p221 := eq_true p221
   replace q221 := eq_true q221
   have p32 : 0 ≤ (x7_1 : Int) := of_decide_eq_true am
   have q32 : (x7_1 : Int) < ((x6_1.length : Int) : Int) := of_decide_eq_true am
   obtain ⟨go32, co32, eo32, gb32, gl32, cl32, HG32⟩ := Kd.R_form HO_6.out om
   (first | cases eo32 | (injection eo32 with ea_ en_ ec_; (first | subst ea_ | (injection ea_ with ea_; subst ea_)); subst ec_; clear en_))
   have GB32 := Aside0.mk gb32
   have GG32 := Aside0.mk HG32
   clear gb32 gl32 HG32
   obtain ⟨hx32_0, hf32_0⟩ := Kd.R_celln false HO_6.out (x7_1 : Int) p32 q32
   replace p32 := eq_true p32
   replace q32 := eq_true q32
   have HP34 := Kd.R_putg HO_6.out (x7_1 : Int) (!(rdOf false t213 (ji27)))
   go_wp2_with (first | ((with_reducible refine gate_store (t := 4) (p := 39) rfl ?_); refine store_event (t := 4) (p := 39) (v := ?vo_w35) (w1 := (wr.setCell ⟨go32, (x7_1 : Int).toNat, none⟩ (.bool (!(rdOf false t213 (ji27)))))) ?hg ?ho ?hn ?hr ?_; (case ho => rfl); (case hg => rfl); (case hn => rfl); (case hr => first | (go_simp; done) | (go_simp; rfl)); intro w35 hw; have hg : wr.grownBy w35 (some go32) := (by rw [hw]; exact HP34.2); have hp_ : Kd.R Kd.bool 4 w35 w.heap.size (fun k_ => some k_ ≠ (.slice (some ad221) t213.length co33 : Value).ownBlock) (.slice (some ⟨go32, 0, none⟩) x6_1.length co32) y222 := (by rw [hw, Ny222.out]; exact HP34.1); clear HP34; have n0_ := Aside0.mk (Kd.R_after (v := (.slice (some ⟨go32, 0, none⟩) x6_1.length co32)) (v1 := (.slice (some ⟨go32, 0, none⟩) x6_1.length co32)) (ok := (fun _ => True)) (by (with_reducible repeat (first | apply Kd.R_alloc | apply Kd.R_drewN | apply Kd.R_drew)); exact Kd.R_mono HO_5.out (fun _ hk => ⟨trivial, hk⟩)) hg (.inl rfl)); have n1_ := Aside0.mk (hp_); have n2_ := Aside0.mk ((by rw [hw]; exact below_set (HB.out) GB32.out : Below w.heap.size w w35)); clear HO_5; clear HO_6; clear HB; have HO_5 := n0_; have HO_6 := n1_; have HB := n2_; clear n0_ n1_ n2_; clear hg hw hp_))
   go_roundg k1
   case measure => have := HK1.out; omega
   case rel => exact ⟨(y222), (wrap64 (x7_1 + 1)), rs, H', ⟨by have := HK1.out; omega⟩, ⟨by (with_reducible repeat (first | apply Kd.R_alloc | apply Kd.R_drewN | apply Kd.R_drew)); exact Kd.R_mono HO_5.out (fun _ hk => hk.2)⟩, ⟨kd HO_6⟩, ⟨bw⟩⟩

end Go.Proofs.YtjmeekceecpemaaGreatDoor.Q

namespace Go.Proofs.YtjmeekceecpemaaGreatDoor.Q
open Go.RowKit Go.Proofs.YtjmeekceecpemaaGreatDoorW.PrintWords Go.Proofs.YtjmeekceecpemaaGreatDoorW.PrintLast Go.Proofs.YtjmeekceecpemaaGreatDoorW.PrintMore

set_option linter.unusedVariables false
set_option linter.unusedSimpArgs false

/-! ### barscanref11_row: function 68 -/
def barscanref11_row.l0 : Nat → ByteArray → ByteArray → ByteArray → List Bool → Int → Option (List Bool)
  | 0, _, _, _, _, _ => none
  | k + 1, x0, x1, x2, x7, x8 => if x8 < (x0.size : Int) then (if x8 > 0 then ((barscanref11_modules.f k x2).bind fun t223 => (if x7.length + t223.length < 140737488355328 then ((some (x7 ++ t223 : List Bool)).bind fun y226 => (if 0 ≤ x8 then (if x8 < (x1.size : Int) then ((barscanref11_table.f k (((bt x0 x8) - 48) % 256) (((bt x1 x8) - 48) % 256)).bind fun t229 => (if y226.length + t229.length < 140737488355328 then (barscanref11_row.l0 k x0 x1 x2 (y226 ++ t229) (wrap64 (x8 + 1))) else (none))) else (none)) else (none))) else (none))) else (if 0 ≤ x8 then (if x8 < (x1.size : Int) then ((barscanref11_table.f k (((bt x0 x8) - 48) % 256) (((bt x1 x8) - 48) % 256)).bind fun t235 => (if x7.length + t235.length < 140737488355328 then (barscanref11_row.l0 k x0 x1 x2 (x7 ++ t235) (wrap64 (x8 + 1))) else (none))) else (none)) else (none))) else (some x7)
def barscanref11_row.f (k : Nat) (a0 : ByteArray) (a1 : ByteArray) (a2 : ByteArray) : Option (List Bool) := barscanref11_row.l0 k a0 a1 a2 ([] : List Bool) 0
theorem barscanref11_row.mono_l : ∀ k, (∀ y0 y1 y2 y3 y4, LeO (barscanref11_row.l0 k y0 y1 y2 y3 y4) (barscanref11_row.l0 (k + 1) y0 y1 y2 y3 y4))
  | 0 => fun _ _ _ _ _ r h => by simp [barscanref11_row.l0] at h
  | k + 1 => by
    have ih0 := barscanref11_row.mono_l k
    · intro y0 y1 y2 y3 y4
      unfold barscanref11_row.l0
      repeat' with_reducible first | exact ih0 _ _ _ _ _ | exact barscanref11_modules.mono _ _ | exact barscanref11_table.mono _ _ _ | exact LeO.refl _ | exact LeO.none _ | refine LeO.ite ?_ ?_ | refine LeO.bind ?_ (fun _ => ?_)
theorem barscanref11_row.mono : ∀ a0 a1 a2 k, LeO (barscanref11_row.f k a0 a1 a2) (barscanref11_row.f (k + 1) a0 a1 a2) := by
  intro a0 a1 a2 k
  have ih0 := barscanref11_row.mono_l k
  unfold barscanref11_row.f
  repeat' with_reducible first | exact ih0 _ _ _ _ _ | exact barscanref11_modules.mono _ _ | exact barscanref11_table.mono _ _ _ | exact LeO.refl _ | exact LeO.none _ | refine LeO.ite ?_ ?_ | refine LeO.bind ?_ (fun _ => ?_)
def barscanref11_row.T7 : Bool × List (List Nat × List Nat) := (true, [([], []), ([], []), ([], []), ([1, 2], [1, 2]), ([3], [3]), ([4], [4]), ([], []), ([], []), ([6, 7], [6, 7]), ([8], [8]), ([9], [9]), ([5, 10], [5, 10]), ([0, 11, 11], [0, 11]), ([12, 12, 0, 1, 2, 3, 4, 5, 6, 7, 8, 9, 10, 11, 12], [0, 12])])
def barscanref11_row.B7 : List Nat := [0, 0, 0, 6, 14, 30, 0, 0, 192, 448, 960, 2046, 4095, 8191]
theorem barscanref11_row.tab7 : rtab .any (opsOf Tryz.f68 7) = barscanref11_row.T7 := kr
theorem barscanref11_row.bits7 : waitsOk barscanref11_row.T7.2 barscanref11_row.B7 = true := kr
set_option maxHeartbeats 8000000 in
set_option maxRecDepth 100000 in
theorem barscanref11_row.calls (k : Nat) (a0 : ByteArray) (a1 : ByteArray) (a2 : ByteArray) (r : List Bool) (w : World) (h : barscanref11_row.f k a0 a1 a2 = some r) :
    Calls Tryz.prog 68 #[.string a0, .string a1, .string a2] w fun e w' => ∃ v0_ : Value, e = .returned (v0_) ∧ Kd.R Kd.bool 4 w' w.heap.size (fun _ => True) v0_ r ∧ Below w.heap.size w w' := by
 have HB := Aside0.mk (Below.refl w.heap.size w)
 have H := h
 clear h
 unfold barscanref11_row.f at H
 have H' := Aside0.mk H
 clear H
 go_enter Tryz.func68, Tryz.ntmps68
 go_wp2
 go_loopg [7, 8] k (fun kq v7 v8 w' => ∃ (x7_1 : List Bool) (x8_1 : Int), v8 = .int .i64 x8_1 ∧ Aside0 (barscanref11_row.l0 kq a0 a1 a2 x7_1 x8_1 = some r) ∧ Aside0 (kq ≤ k) ∧ Aside0 (Kd.R Kd.bool 4 w' w.heap.size (fun _ => True) v7 x7_1) ∧ Aside0 (Below w.heap.size w w'))
 case atStart => exact ⟨(([] : List Bool)), (0), rs, H', ⟨Nat.le_refl _⟩, ⟨by first | exact Kd.R_nil _ _ _ _ _ | exact Kd.N_nil _ _ _ _ _ | exact Kd.V_nil _ _ _ _ _ | exact Kd.Q_nil _ _ _ _ _ | exact Kd.S_nil _ _ _ _ _⟩, ⟨bw⟩⟩
 case round =>
  clear H'
  try clear p2
  obtain ⟨x7_1, x8_1, rfl, HA, HK1, HO_7, HB⟩ := hrel
  cases gk with
  | zero => exact absurd HA.out (by simp [barscanref11_row.l0])
  | succ k1 =>
   have H := HA.out
   clear HA
   simp only [barscanref11_row.l0] at H
   replace H := ifc H
   obtain ⟨c4, H⟩ | ⟨c4, H⟩ := H
   rotate_left
   ·have c4b0 : decide (x8_1 < (a0.size : Int)) = false := decide_eq_false c4
    clear c4
    obtain rfl := Option.some.inj H
    go_wp2
    go_ret
    exact ⟨_, es, kd HO_7, bw⟩
   have c4b0 : decide (x8_1 < (a0.size : Int)) = true := decide_eq_true c4
   clear c4
   replace H := ifc H
   obtain ⟨c5, H⟩ | ⟨c5, H⟩ := H
   rotate_left
   ·have c5b0 : decide (0 < x8_1) = false := decide_eq_false c5
    clear c5
    replace H := ifn H
    obtain ⟨c21, H⟩ := H
    have c21b0 : decide (0 ≤ x8_1) = true := decide_eq_true c21
    clear c21
    by_cases c23 : x8_1 < (a1.size : Int)
    rotate_left
    ·rw [if_neg c23] at H
     exact absurd H (by simp)
    rw [if_pos c23] at H
    have c23b0 : decide (x8_1 < (a1.size : Int)) = true := decide_eq_true c23
    clear c23
    replace H := bd H
    obtain ⟨t235, A25, H⟩ := H
    replace H := ifn H
    obtain ⟨c26, H⟩ := H
    have LMc26 := Aside0.mk c26
    clear c26
    obtain ⟨y238, hy238⟩ : ∃ y_ : List Bool, y_ = (x7_1 ++ t235) := ⟨_, rfl⟩
    replace H : (barscanref11_row.l0 k1 a0 a1 a2 y238 (wrap64 (x8_1 + 1))) = some r := by first | (rw [hy238]; with_reducible exact H) | (have H2_ := (Option.bind_some _ _).symm.trans H; rw [hy238]; with_reducible exact H2_) | (have H2_ := (Option.bind_some _ _).symm.trans H; with_reducible exact H2_) | with_reducible exact H | (rw [hy238]; exact H) | exact H
    have Ny238 := Aside0.mk hy238
    clear hy238
    have H' := Aside0.mk H
    clear H
    try go_wp2
    have n0_ := Aside0.mk (Kd.R_drew HO_7.out)
    have n1_ := Aside0.mk (below_drew1 HB.out)
    clear HO_7
    clear HB
    have HO_7 := n0_
    have HB := n1_
    clear n0_ n1_
    have p22 : 0 ≤ (x8_1 : Int) := of_decide_eq_true am
    have q22 : x8_1 < (a0.size : Int) := of_decide_eq_true am
    have hx22 := bt_at a0 x8_1
    replace p22 := eq_true p22
    replace q22 := eq_true q22
    have p24 : 0 ≤ (x8_1 : Int) := of_decide_eq_true am
    have q24 : x8_1 < (a1.size : Int) := of_decide_eq_true am
    have hx24 := bt_at a1 x8_1
    replace p24 := eq_true p24
    replace q24 := eq_true q24
    refine start_ (n := 14) (S := fun w' => True) (ds := []) #[false, false, false, false, false, false, false, false, false, false, false, false, false, false] kr rfl rfl trivial (fun hHeld => ?_); refine with_tabW barscanref11_row.tab7 barscanref11_row.bits7 (fun HT_ HW_ => ?_)
    generalize wr.drew = w27 at HO_7 HB hHeld ⊢
    refine pu HT_ 0 21 (h := ?_)
    refine pu HT_ 1 22 (h := ?_)
    refine pu HT_ 2 23 (h := ?_)
    refine pu HT_ 6 27 (h := ?_)
    refine pu HT_ 7 28 (h := ?_)
    refine tk HT_ HW_ hHeld 3 24 (h := ?_)
    refine pu HT_ 4 25 (h := ?_)
    refine pu HT_ 5 26 (h := ?_)
    refine tk HT_ HW_ hHeld 8 29 (h := ?_)
    refine pu HT_ 9 30 (h := ?_)
    refine pu HT_ 10 31 (h := ?_)
    refine on HT_ 11 32 (h := fun K hK => ?_)
    refine goes_ Tryz.func54 kr rfl #[.int .i64 (((bt a0 x8_1) - 48) % 256), .int .i64 (((bt a1 x8_1) - 48) % 256)] (by rfl) rfl rfl ar ?_
    with_reducible refine (barscanref11_table.calls k1 (((bt a0 x8_1) - 48) % 256) (((bt a1 x8_1) - 48) % 256) t235 _ A25.out).mono ?_
    rintro e w28 ⟨v236, rfl, ho0, hb⟩
    refine ⟨_, rfl, ?_⟩
    have n0_ := Aside0.mk (Kd.R_elder' (kd HO_7) (Kd.R_base ho0) hb)
    have n1_ := Aside0.mk (Kd.R_lower (Kd.R_new' ho0 (Kd.R_lt (kd HO_7))) (below_size bw))
    have n2_ := Aside0.mk (below_step bw hb)
    clear HO_7
    clear HB
    have HO_7 := n0_
    have HO237 := n1_
    have HB := n2_
    clear n0_ n1_ n2_
    (try clear hb)
    (try clear hb2)
    (try clear hk)
    (try clear hi)
    (try clear ho0)
    obtain ⟨Ao30, co30, eo30⟩ := Kd.R_slice HO237.out
    (first | subst eo30 | (injection eo30 with f1_ f2_ f3_; have f4_ := f1_.symm; have f5_ := f3_.symm; clear f1_ f2_ f3_; subst f4_; subst f5_))
    refine hK.out _ _ trivial (fun hHeld => ?_)
    clear hK K
    refine nm (h := ?_)
    refine on HT_ 12 33 (h := fun K hK => ?_)
    refine Kd.R_append_rows_step Kd.bool (w0 := w) w.heap.size (by rfl) (.tmp 21) (.tmp 32) 23 4 (.bool false) 1 rfl Tryz.underlying23 info4 rfl (by decide) om u7 x7_1 t235 _ _ _ (fun k_ => some k_ ≠ (.slice Ao30 t235.length co30 : Value).ownBlock) (fun _ => False) rfl rfl ?aO ?aR (fun _ _ h => h) (fun _ h => h.elim) ?aF ?aB ?aS ?aL ?_
    (case aR => repeat (first | exact (Kd.R_reads' HO237.out).2.2 | (with_reducible refine Kd.C_alloc ?_ _) | (with_reducible refine Kd.C_drewN ?_ _) | (with_reducible refine Kd.C_drew ?_)))
    (case aB => exact bw)
    (case aF => exact (fun k_ hk => Kd.fresh' (Kd.R_lt (kd HO237)) k_ hk))
    (case aO => exact (by (with_reducible repeat (first | apply Kd.R_alloc | apply Kd.R_drewN | apply Kd.R_drew)); exact Kd.R_mono HO_7.out (fun _ hk => hk.2)))
    (case aS => exact (below_size bw))
    (case aL => have := LMc26.out; omega)
    intro v239 w29 ho hb hg hat
    rw [← Ny238.out] at ho
    have n0_ := Aside0.mk (Kd.R_after (ok := (fun _ => True)) (kd HO237) hg hat)
    have n1_ := Aside0.mk (hb)
    have n2_ := Aside0.mk (ho)
    clear HO237
    clear HB
    clear HO_7
    have HO237 := n0_
    have HB := n1_
    have HO240 := n2_
    clear n0_ n1_ n2_
    clear ho hb hg hat
    refine hK.out _ _ trivial (fun hHeld => ?_)
    clear hK K
    refine nm (h := ?_)
    refine pu HT_ 13 7 (h := ?_)
    refine done_ (done_of HT_.out kr) ?_
    try go_wp2
    go_roundg k1
    case measure => have := HK1.out; omega
    case rel => exact ⟨(y238), (wrap64 (x8_1 + 1)), rs, H', ⟨by have := HK1.out; omega⟩, ⟨by (with_reducible repeat (first | apply Kd.R_alloc | apply Kd.R_drewN | apply Kd.R_drew)); exact Kd.R_mono HO240.out (fun _ hk => trivial)⟩, ⟨bw⟩⟩
   have c5b0 : decide (0 < x8_1) = true := decide_eq_true c5
   clear c5
   replace H := bd H
   obtain ⟨t223, A6, H⟩ := H
   replace H := ifn H
   obtain ⟨c7, H⟩ := H
   have LMc7 := Aside0.mk c7
   clear c7
   obtain ⟨y226, hy226⟩ : ∃ y_ : List Bool, y_ = (x7_1 ++ t223) := ⟨_, rfl⟩
   replace H : (if 0 ≤ x8_1 then (if x8_1 < (a1.size : Int) then ((barscanref11_table.f k1 (((bt a0 x8_1) - 48) % 256) (((bt a1 x8_1) - 48) % 256)).bind fun t229 => (if y226.length + t229.length < 140737488355328 then (barscanref11_row.l0 k1 a0 a1 a2 (y226 ++ t229) (wrap64 (x8_1 + 1))) else (none))) else (none)) else (none)) = some r := by first | (rw [hy226]; with_reducible exact H) | (have H2_ := (Option.bind_some _ _).symm.trans H; rw [hy226]; with_reducible exact H2_) | (have H2_ := (Option.bind_some _ _).symm.trans H; with_reducible exact H2_) | with_reducible exact H | (rw [hy226]; exact H) | exact H
   have Ny226 := Aside0.mk hy226
   clear hy226
   by_cases c8 : 0 ≤ x8_1
   rotate_left
   ·rw [if_neg c8] at H
    exact absurd H (by simp)
   rw [if_pos c8] at H
   have c8b0 : decide (0 ≤ x8_1) = true := decide_eq_true c8
   clear c8
   replace H := ifn H
   obtain ⟨c10, H⟩ := H
   have c10b0 : decide (x8_1 < (a1.size : Int)) = true := decide_eq_true c10
   clear c10
   replace H := bd H
   obtain ⟨t229, A12, H⟩ := H
   by_cases c13 : y226.length + t229.length < 140737488355328
   rotate_left
   ·rw [if_neg c13] at H
    exact absurd H (by simp)
   rw [if_pos c13] at H
   have LMc13 := Aside0.mk c13
   clear c13
   obtain ⟨y232, hy232⟩ : ∃ y_ : List Bool, y_ = (y226 ++ t229) := ⟨_, rfl⟩
   replace H : (barscanref11_row.l0 k1 a0 a1 a2 y232 (wrap64 (x8_1 + 1))) = some r := by first | (rw [hy232]; with_reducible exact H) | (have H2_ := (Option.bind_some _ _).symm.trans H; rw [hy232]; with_reducible exact H2_) | (have H2_ := (Option.bind_some _ _).symm.trans H; with_reducible exact H2_) | with_reducible exact H | (rw [hy232]; exact H) | exact H
   have Ny232 := Aside0.mk hy232
   clear hy232
   have H' := Aside0.mk H
   clear H
   try go_wp2_with (first | ((with_reducible refine gate_callee (f := 67) rfl ?_); refine goesL_ (some 19) rfl rfl Tryz.func67 kr rfl #[.string a2] rfl ar ?_; (with_reducible refine (barscanref11_modules.calls k1 a2 t223 _ A6.out).mono ?_); rintro e w14 ⟨v224, rfl, ho0, hb⟩; refine ⟨_, rfl, ?_⟩; have n0_ := Aside0.mk (Kd.R_elder' (kd HO_7) (Kd.R_base ho0) hb); have n1_ := Aside0.mk (Kd.R_lower (Kd.R_new' ho0 (Kd.R_lt (kd HO_7))) (below_size bw)); have n2_ := Aside0.mk (below_step bw hb); clear HO_7; clear HB; have HO_7 := n0_; have HO225 := n1_; have HB := n2_; clear n0_ n1_ n2_; clear hb; (try clear ho0); obtain ⟨Ao16, co16, eo16⟩ := Kd.R_slice HO225.out; subst eo16) | ((with_reducible refine gate_builtin (b := .append) (xs := #[.tmp 17, .tmp 19]) rfl ?_); at_builtin; refine Kd.R_append_rows Kd.bool (w0 := w) w.heap.size rfl (.tmp 17) (.tmp 19) 23 4 (.bool false) 1 rfl Tryz.underlying23 info4 rfl (by decide) om u7 x7_1 t223 _ _ _ (fun k_ => some k_ ≠ (.slice Ao16 t223.length co16 : Value).ownBlock) (fun _ => False) rfl rfl ?aO ?aR (fun _ _ h => h) (fun _ h => h.elim) ?aF ?aB ?aS ?aL ?_; (case aR => repeat (first | exact (Kd.R_reads' HO225.out).2.2 | (with_reducible refine Kd.C_alloc ?_ _) | (with_reducible refine Kd.C_drewN ?_ _) | (with_reducible refine Kd.C_drew ?_))); (case aB => exact bw); (case aF => exact (fun k_ hk => Kd.fresh' (Kd.R_lt (kd HO225)) k_ hk)); (case aO => exact (by (with_reducible repeat (first | apply Kd.R_alloc | apply Kd.R_drewN | apply Kd.R_drew)); exact Kd.R_mono HO_7.out (fun _ hk => hk.2))); (case aS => exact (below_size bw)); (case aL => have := LMc7.out; omega); intro v227 w15 ho hb hg hat; rw [← Ny226.out] at ho; have n0_ := Aside0.mk (Kd.R_after (ok := (fun _ => True)) (kd HO225) hg hat); have n1_ := Aside0.mk (hb); have n2_ := Aside0.mk (ho); clear HO225; clear HB; clear HO_7; have HO225 := n0_; have HB := n1_; have HO228 := n2_; clear n0_ n1_ n2_; clear ho hb hg hat))
   have n0_ := Aside0.mk (Kd.R_drew HO225.out)
   have n1_ := Aside0.mk (Kd.R_drew HO228.out)
   have n2_ := Aside0.mk (below_drew1 HB.out)
   clear HO225
   clear HO228
   clear HB
   have HO225 := n0_
   have HO228 := n1_
   have HB := n2_
   clear n0_ n1_ n2_
   have p9 : 0 ≤ (x8_1 : Int) := of_decide_eq_true am
   have q9 : x8_1 < (a0.size : Int) := of_decide_eq_true am
   have hx9 := bt_at a0 x8_1
   replace p9 := eq_true p9
   replace q9 := eq_true q9
   have p11 : 0 ≤ (x8_1 : Int) := of_decide_eq_true am
   have q11 : x8_1 < (a1.size : Int) := of_decide_eq_true am
   have hx11 := bt_at a1 x8_1
   replace p11 := eq_true p11
   replace q11 := eq_true q11
   refine start_ (n := 14) (S := fun w' => True) (ds := []) #[false, false, false, false, false, false, false, false, false, false, false, false, false, false] kr rfl rfl trivial (fun hHeld => ?_); refine with_tabW barscanref11_row.tab7 barscanref11_row.bits7 (fun HT_ HW_ => ?_)
   generalize w15.drew = w17 at HO225 HO228 HB hHeld ⊢
   refine pu HT_ 0 21 (h := ?_)
   refine pu HT_ 1 22 (h := ?_)
   refine pu HT_ 2 23 (h := ?_)
   refine pu HT_ 6 27 (h := ?_)
   refine pu HT_ 7 28 (h := ?_)
   refine tk HT_ HW_ hHeld 3 24 (h := ?_)
   refine pu HT_ 4 25 (h := ?_)
   refine pu HT_ 5 26 (h := ?_)
   refine tk HT_ HW_ hHeld 8 29 (h := ?_)
   refine pu HT_ 9 30 (h := ?_)
   refine pu HT_ 10 31 (h := ?_)
   refine on HT_ 11 32 (h := fun K hK => ?_)
   refine goes_ Tryz.func54 kr rfl #[.int .i64 (((bt a0 x8_1) - 48) % 256), .int .i64 (((bt a1 x8_1) - 48) % 256)] (by rfl) rfl rfl ar ?_
   with_reducible refine (barscanref11_table.calls k1 (((bt a0 x8_1) - 48) % 256) (((bt a1 x8_1) - 48) % 256) t229 _ A12.out).mono ?_
   rintro e w18 ⟨v230, rfl, ho0, hb⟩
   refine ⟨_, rfl, ?_⟩
   have n0_ := Aside0.mk (Kd.R_elder' (kd HO225) (Kd.R_base ho0) hb)
   have n1_ := Aside0.mk (Kd.R_elder' (kd HO228) (Kd.R_base ho0) hb)
   have n2_ := Aside0.mk (Kd.R_lower (Kd.R_new' (Kd.R_new' ho0 (Kd.R_lt (kd HO225))) (Kd.R_lt (kd HO228))) (below_size bw))
   have n3_ := Aside0.mk (below_step bw hb)
   clear HO225
   clear HO228
   clear HB
   have HO225 := n0_
   have HO228 := n1_
   have HO231 := n2_
   have HB := n3_
   clear n0_ n1_ n2_ n3_
   (try clear hb)
   (try clear hb2)
   (try clear hk)
   (try clear hi)
   (try clear ho0)
   obtain ⟨Ao20, co20, eo20⟩ := Kd.R_slice HO231.out
   (first | subst eo20 | (injection eo20 with f1_ f2_ f3_; have f4_ := f1_.symm; have f5_ := f3_.symm; clear f1_ f2_ f3_; subst f4_; subst f5_))
   refine hK.out _ _ trivial (fun hHeld => ?_)
   clear hK K
   refine nm (h := ?_)
   refine on HT_ 12 33 (h := fun K hK => ?_)
   refine Kd.R_append_rows_step Kd.bool (w0 := w) w.heap.size (by rfl) (.tmp 21) (.tmp 32) 23 4 (.bool false) 1 rfl Tryz.underlying23 info4 rfl (by decide) om v227 y226 t229 _ _ _ (fun k_ => some k_ ≠ (.slice Ao16 t223.length co16 : Value).ownBlock ∧ some k_ ≠ (.slice Ao20 t229.length co20 : Value).ownBlock) (fun _ => False) rfl rfl ?aO ?aR (fun _ _ h => h) (fun _ h => h.elim) ?aF ?aB ?aS ?aL ?_
   (case aR => repeat (first | exact (Kd.R_reads' HO231.out).2.2 | (with_reducible refine Kd.C_alloc ?_ _) | (with_reducible refine Kd.C_drewN ?_ _) | (with_reducible refine Kd.C_drew ?_)))
   (case aB => exact bw)
   (case aF => exact (fun k_ hk => ⟨Kd.fresh' (Kd.R_lt (kd HO225)) k_ hk, Kd.fresh' (Kd.R_lt (kd HO231)) k_ hk⟩))
   (case aO => exact (kd HO228))
   (case aS => exact (below_size bw))
   (case aL => have := LMc13.out; omega)
   intro v233 w19 ho hb hg hat
   rw [← Ny232.out] at ho
   have n0_ := Aside0.mk (Kd.R_after (ok := (fun k_ => some k_ ≠ (.slice Ao20 t229.length co20 : Value).ownBlock)) (by (with_reducible repeat (first | apply Kd.R_alloc | apply Kd.R_drewN | apply Kd.R_drew)); exact Kd.R_mono HO225.out (fun _ hk => ⟨hk.2, hk.1.2⟩)) hg hat)
   have n1_ := Aside0.mk (Kd.R_after (ok := (fun k_ => some k_ ≠ (.slice Ao16 t223.length co16 : Value).ownBlock)) (by (with_reducible repeat (first | apply Kd.R_alloc | apply Kd.R_drewN | apply Kd.R_drew)); exact Kd.R_mono HO231.out (fun _ hk => ⟨hk.1.2, hk.2⟩)) hg hat)
   have n2_ := Aside0.mk (hb)
   have n3_ := Aside0.mk (ho)
   clear HO225
   clear HO231
   clear HB
   clear HO228
   have HO225 := n0_
   have HO231 := n1_
   have HB := n2_
   have HO234 := n3_
   clear n0_ n1_ n2_ n3_
   clear ho hb hg hat
   refine hK.out _ _ trivial (fun hHeld => ?_)
   clear hK K
   refine nm (h := ?_)
   refine pu HT_ 13 7 (h := ?_)
   refine done_ (done_of HT_.out kr) ?_
   try go_wp2
   go_roundg k1
   case measure => have := HK1.out; omega
   case rel => exact ⟨(y232), (wrap64 (x8_1 + 1)), rs, H', ⟨by have := HK1.out; omega⟩, ⟨by (with_reducible repeat (first | apply Kd.R_alloc | apply Kd.R_drewN | apply Kd.R_drew)); exact Kd.R_mono HO234.out (fun _ hk => trivial)⟩, ⟨bw⟩⟩

end Go.Proofs.YtjmeekceecpemaaGreatDoor.Q

namespace Go.Proofs.YtjmeekceecpemaaGreatDoor.Q
open Go.RowKit Go.Proofs.YtjmeekceecpemaaGreatDoorW.PrintWords Go.Proofs.YtjmeekceecpemaaGreatDoorW.PrintLast Go.Proofs.YtjmeekceecpemaaGreatDoorW.PrintMore

set_option linter.unusedVariables false
set_option linter.unusedSimpArgs false

/-! ### barscanref11_setsE: function 69 -/
def barscanref11_setsE.l0 : Nat → ByteArray → List Int → Int → Option (ByteArray)
  | 0, _, _, _ => none
  | k + 1, x5, x6, x7 => if x7 < (x5.size : Int) then (if 0 ≤ x7 then (if x6.length < 140737488355328 then (barscanref11_setsE.l0 k x5 (x6 ++ [(97 - (bt x5 x7)) % 256]) (wrap64 (x7 + 1))) else (none)) else (none)) else (some (strOfNums x6))
def barscanref11_setsE.f (k : Nat) (a0 : Int) (a1 : Int) : Option (ByteArray) := (some (([(⟨#[49, 49, 49, 48, 48, 48]⟩ : ByteArray), (⟨#[49, 49, 48, 49, 48, 48]⟩ : ByteArray), (⟨#[49, 49, 48, 48, 49, 48]⟩ : ByteArray), (⟨#[49, 49, 48, 48, 48, 49]⟩ : ByteArray), (⟨#[49, 48, 49, 49, 48, 48]⟩ : ByteArray), (⟨#[49, 48, 48, 49, 49, 48]⟩ : ByteArray), (⟨#[49, 48, 48, 48, 49, 49]⟩ : ByteArray), (⟨#[49, 48, 49, 48, 49, 48]⟩ : ByteArray), (⟨#[49, 48, 49, 48, 48, 49]⟩ : ByteArray), (⟨#[49, 48, 48, 49, 48, 49]⟩ : ByteArray)] : List ByteArray) : List ByteArray)).bind fun y241 => (if 0 ≤ a1 then (if a1 < (y241.length : Int) then (if a0 = 0 then (some (rdOf ByteArray.empty y241 a1)) else (barscanref11_setsE.l0 k (rdOf ByteArray.empty y241 a1) ([] : List Int) 0)) else (none)) else (none))
theorem barscanref11_setsE.mono_l : ∀ k, (∀ y0 y1 y2, LeO (barscanref11_setsE.l0 k y0 y1 y2) (barscanref11_setsE.l0 (k + 1) y0 y1 y2))
  | 0 => fun _ _ _ r h => by simp [barscanref11_setsE.l0] at h
  | k + 1 => by
    have ih0 := barscanref11_setsE.mono_l k
    · intro y0 y1 y2
      unfold barscanref11_setsE.l0
      repeat' with_reducible first | exact ih0 _ _ _ | exact LeO.refl _ | exact LeO.none _ | refine LeO.ite ?_ ?_ | refine LeO.bind ?_ (fun _ => ?_)
theorem barscanref11_setsE.mono : ∀ a0 a1 k, LeO (barscanref11_setsE.f k a0 a1) (barscanref11_setsE.f (k + 1) a0 a1) := by
  intro a0 a1 k
  have ih0 := barscanref11_setsE.mono_l k
  unfold barscanref11_setsE.f
  repeat' with_reducible first | exact ih0 _ _ _ | exact LeO.refl _ | exact LeO.none _ | refine LeO.ite ?_ ?_ | refine LeO.bind ?_ (fun _ => ?_)
set_option maxHeartbeats 8000000 in
set_option maxRecDepth 100000 in
theorem barscanref11_setsE.calls (k : Nat) (a0 : Int) (a1 : Int) (r : ByteArray) (w : World) (h : barscanref11_setsE.f k a0 a1 = some r) :
    Calls Tryz.prog 69 #[.int .i64 a0, .int .i64 a1] w fun e w' => e = .returned (.string r) ∧ Below w.heap.size w w' := by
 have HB := Aside0.mk (Below.refl w.heap.size w)
 have H := h
 clear h
 unfold barscanref11_setsE.f at H
 obtain ⟨y241, hy241⟩ : ∃ y_ : List ByteArray, y_ = (([(⟨#[49, 49, 49, 48, 48, 48]⟩ : ByteArray), (⟨#[49, 49, 48, 49, 48, 48]⟩ : ByteArray), (⟨#[49, 49, 48, 48, 49, 48]⟩ : ByteArray), (⟨#[49, 49, 48, 48, 48, 49]⟩ : ByteArray), (⟨#[49, 48, 49, 49, 48, 48]⟩ : ByteArray), (⟨#[49, 48, 48, 49, 49, 48]⟩ : ByteArray), (⟨#[49, 48, 48, 48, 49, 49]⟩ : ByteArray), (⟨#[49, 48, 49, 48, 49, 48]⟩ : ByteArray), (⟨#[49, 48, 49, 48, 48, 49]⟩ : ByteArray), (⟨#[49, 48, 48, 49, 48, 49]⟩ : ByteArray)] : List ByteArray)) := ⟨_, rfl⟩
 replace H : (if 0 ≤ a1 then (if a1 < (y241.length : Int) then (if a0 = 0 then (some (rdOf ByteArray.empty y241 a1)) else (barscanref11_setsE.l0 k (rdOf ByteArray.empty y241 a1) ([] : List Int) 0)) else (none)) else (none)) = some r := by first | (rw [hy241]; with_reducible exact H) | (have H2_ := (Option.bind_some _ _).symm.trans H; rw [hy241]; with_reducible exact H2_) | (have H2_ := (Option.bind_some _ _).symm.trans H; with_reducible exact H2_) | with_reducible exact H | (rw [hy241]; exact H) | exact H
 have Ny241 := Aside0.mk hy241
 clear hy241
 replace H := ifc H
 obtain ⟨c3, H⟩ | ⟨c3, H⟩ := H
 rotate_left
 ·exact absurd H (by simp)
 have c3b0 : decide (0 ≤ a1) = true := decide_eq_true c3
 clear c3
 replace H := ifn H
 obtain ⟨c4, H⟩ := H
 have c4b0 : decide (a1 < (y241.length : Int)) = true := decide_eq_true c4
 clear c4
 by_cases c5 : a0 = 0
 ·rw [if_pos c5] at H
  have c5b0 : (a0 == 0) = true := beq_iff_eq.mpr c5
  have c5b1 : (a0 != 0) = false := bne_eq_false_iff_eq.mpr c5
  clear c5
  obtain rfl := Option.some.inj H
  go_enter Tryz.func69, Tryz.ntmps69
  go_wp2_with (first | ((with_reducible refine gate_dst (N := 8) rfl ?_); refine Kd.R_lit Kd.string _ 9 ?hg (N := 8) ?hd (xs := ([(⟨#[49, 49, 49, 48, 48, 48]⟩ : ByteArray), (⟨#[49, 49, 48, 49, 48, 48]⟩ : ByteArray), (⟨#[49, 49, 48, 48, 49, 48]⟩ : ByteArray), (⟨#[49, 49, 48, 48, 48, 49]⟩ : ByteArray), (⟨#[49, 48, 49, 49, 48, 48]⟩ : ByteArray), (⟨#[49, 48, 48, 49, 49, 48]⟩ : ByteArray), (⟨#[49, 48, 48, 48, 49, 49]⟩ : ByteArray), (⟨#[49, 48, 49, 48, 49, 48]⟩ : ByteArray), (⟨#[49, 48, 49, 48, 48, 49]⟩ : ByteArray), (⟨#[49, 48, 48, 49, 48, 49]⟩ : ByteArray)] : List ByteArray)) (inner := [.string (⟨#[49, 49, 49, 48, 48, 48]⟩ : ByteArray), .string (⟨#[49, 49, 48, 49, 48, 48]⟩ : ByteArray), .string (⟨#[49, 49, 48, 48, 49, 48]⟩ : ByteArray), .string (⟨#[49, 49, 48, 48, 48, 49]⟩ : ByteArray), .string (⟨#[49, 48, 49, 49, 48, 48]⟩ : ByteArray), .string (⟨#[49, 48, 48, 49, 49, 48]⟩ : ByteArray), .string (⟨#[49, 48, 48, 48, 49, 49]⟩ : ByteArray), .string (⟨#[49, 48, 49, 48, 49, 48]⟩ : ByteArray), .string (⟨#[49, 48, 49, 48, 48, 49]⟩ : ByteArray), .string (⟨#[49, 48, 48, 49, 48, 49]⟩ : ByteArray)]) (ok := fun _ => True) (okp := fun _ => True) ?hr ?hp (fun _ hk => hk) trivial (Below.refl _ _) (Nat.le_refl _) (by simp) ?_; (case hd => rfl); (case hg => rfl); (case hr => first | (go_simp; done) | (go_simp; rfl)); (case hp => exact (Reps.one (show Kd.M Kd.string _ _ _ (⟨#[49, 49, 49, 48, 48, 48]⟩ : ByteArray) [.string (⟨#[49, 49, 49, 48, 48, 48]⟩ : ByteArray)] from rfl) (Reps.one (show Kd.M Kd.string _ _ _ (⟨#[49, 49, 48, 49, 48, 48]⟩ : ByteArray) [.string (⟨#[49, 49, 48, 49, 48, 48]⟩ : ByteArray)] from rfl) (Reps.one (show Kd.M Kd.string _ _ _ (⟨#[49, 49, 48, 48, 49, 48]⟩ : ByteArray) [.string (⟨#[49, 49, 48, 48, 49, 48]⟩ : ByteArray)] from rfl) (Reps.one (show Kd.M Kd.string _ _ _ (⟨#[49, 49, 48, 48, 48, 49]⟩ : ByteArray) [.string (⟨#[49, 49, 48, 48, 48, 49]⟩ : ByteArray)] from rfl) (Reps.one (show Kd.M Kd.string _ _ _ (⟨#[49, 48, 49, 49, 48, 48]⟩ : ByteArray) [.string (⟨#[49, 48, 49, 49, 48, 48]⟩ : ByteArray)] from rfl) (Reps.one (show Kd.M Kd.string _ _ _ (⟨#[49, 48, 48, 49, 49, 48]⟩ : ByteArray) [.string (⟨#[49, 48, 48, 49, 49, 48]⟩ : ByteArray)] from rfl) (Reps.one (show Kd.M Kd.string _ _ _ (⟨#[49, 48, 48, 48, 49, 49]⟩ : ByteArray) [.string (⟨#[49, 48, 48, 48, 49, 49]⟩ : ByteArray)] from rfl) (Reps.one (show Kd.M Kd.string _ _ _ (⟨#[49, 48, 49, 48, 49, 48]⟩ : ByteArray) [.string (⟨#[49, 48, 49, 48, 49, 48]⟩ : ByteArray)] from rfl) (Reps.one (show Kd.M Kd.string _ _ _ (⟨#[49, 48, 49, 48, 48, 49]⟩ : ByteArray) [.string (⟨#[49, 48, 49, 48, 48, 49]⟩ : ByteArray)] from rfl) (Reps.one (show Kd.M Kd.string _ _ _ (⟨#[49, 48, 48, 49, 48, 49]⟩ : ByteArray) [.string (⟨#[49, 48, 48, 49, 48, 49]⟩ : ByteArray)] from rfl) (Reps.none _ _)))))))))))); intro v242 w6 ho7 hb hg_ hnew_; clear hg_ hnew_; (first | rw [← Ny241.out] at ho7 | (simp only [Int.reduceToNat] at ho7; rw [← Ny241.out] at ho7)); have n0_ := Aside0.mk (Kd.R_lower ho7 (below_size bw)); have n1_ := Aside0.mk (below_step bw hb); clear HB; have HO243 := n0_; have HB := n1_; clear n0_ n1_; clear hb ho7; obtain ⟨Ao8, co8, eo8⟩ := Kd.R_slice HO243.out; subst eo8; have p244 : 0 ≤ (a1 : Int) := of_decide_eq_true am; have q244 : a1 < (y241.length : Int) := of_decide_eq_true am; obtain ⟨ad244, e244, hx244_0⟩ := Kd.at_string (Kd.R_reads' HO243.out).2.2 a1 p244 q244; cases e244; replace p244 := eq_true p244; replace q244 := eq_true q244))
  go_ret
  exact ⟨es, bw⟩
 rw [if_neg c5] at H
 have c5b0 : (a0 == 0) = false := beq_eq_false_iff_ne.mpr c5
 have c5b1 : (a0 != 0) = true := bne_iff_ne.mpr c5
 have H' := Aside0.mk H
 clear H
 go_enter Tryz.func69, Tryz.ntmps69
 go_wp2_with (first | ((with_reducible refine gate_dst (N := 8) rfl ?_); refine Kd.R_lit Kd.string _ 9 ?hg (N := 8) ?hd (xs := ([(⟨#[49, 49, 49, 48, 48, 48]⟩ : ByteArray), (⟨#[49, 49, 48, 49, 48, 48]⟩ : ByteArray), (⟨#[49, 49, 48, 48, 49, 48]⟩ : ByteArray), (⟨#[49, 49, 48, 48, 48, 49]⟩ : ByteArray), (⟨#[49, 48, 49, 49, 48, 48]⟩ : ByteArray), (⟨#[49, 48, 48, 49, 49, 48]⟩ : ByteArray), (⟨#[49, 48, 48, 48, 49, 49]⟩ : ByteArray), (⟨#[49, 48, 49, 48, 49, 48]⟩ : ByteArray), (⟨#[49, 48, 49, 48, 48, 49]⟩ : ByteArray), (⟨#[49, 48, 48, 49, 48, 49]⟩ : ByteArray)] : List ByteArray)) (inner := [.string (⟨#[49, 49, 49, 48, 48, 48]⟩ : ByteArray), .string (⟨#[49, 49, 48, 49, 48, 48]⟩ : ByteArray), .string (⟨#[49, 49, 48, 48, 49, 48]⟩ : ByteArray), .string (⟨#[49, 49, 48, 48, 48, 49]⟩ : ByteArray), .string (⟨#[49, 48, 49, 49, 48, 48]⟩ : ByteArray), .string (⟨#[49, 48, 48, 49, 49, 48]⟩ : ByteArray), .string (⟨#[49, 48, 48, 48, 49, 49]⟩ : ByteArray), .string (⟨#[49, 48, 49, 48, 49, 48]⟩ : ByteArray), .string (⟨#[49, 48, 49, 48, 48, 49]⟩ : ByteArray), .string (⟨#[49, 48, 48, 49, 48, 49]⟩ : ByteArray)]) (ok := fun _ => True) (okp := fun _ => True) ?hr ?hp (fun _ hk => hk) trivial (Below.refl _ _) (Nat.le_refl _) (by simp) ?_; (case hd => rfl); (case hg => rfl); (case hr => first | (go_simp; done) | (go_simp; rfl)); (case hp => exact (Reps.one (show Kd.M Kd.string _ _ _ (⟨#[49, 49, 49, 48, 48, 48]⟩ : ByteArray) [.string (⟨#[49, 49, 49, 48, 48, 48]⟩ : ByteArray)] from rfl) (Reps.one (show Kd.M Kd.string _ _ _ (⟨#[49, 49, 48, 49, 48, 48]⟩ : ByteArray) [.string (⟨#[49, 49, 48, 49, 48, 48]⟩ : ByteArray)] from rfl) (Reps.one (show Kd.M Kd.string _ _ _ (⟨#[49, 49, 48, 48, 49, 48]⟩ : ByteArray) [.string (⟨#[49, 49, 48, 48, 49, 48]⟩ : ByteArray)] from rfl) (Reps.one (show Kd.M Kd.string _ _ _ (⟨#[49, 49, 48, 48, 48, 49]⟩ : ByteArray) [.string (⟨#[49, 49, 48, 48, 48, 49]⟩ : ByteArray)] from rfl) (Reps.one (show Kd.M Kd.string _ _ _ (⟨#[49, 48, 49, 49, 48, 48]⟩ : ByteArray) [.string (⟨#[49, 48, 49, 49, 48, 48]⟩ : ByteArray)] from rfl) (Reps.one (show Kd.M Kd.string _ _ _ (⟨#[49, 48, 48, 49, 49, 48]⟩ : ByteArray) [.string (⟨#[49, 48, 48, 49, 49, 48]⟩ : ByteArray)] from rfl) (Reps.one (show Kd.M Kd.string _ _ _ (⟨#[49, 48, 48, 48, 49, 49]⟩ : ByteArray) [.string (⟨#[49, 48, 48, 48, 49, 49]⟩ : ByteArray)] from rfl) (Reps.one (show Kd.M Kd.string _ _ _ (⟨#[49, 48, 49, 48, 49, 48]⟩ : ByteArray) [.string (⟨#[49, 48, 49, 48, 49, 48]⟩ : ByteArray)] from rfl) (Reps.one (show Kd.M Kd.string _ _ _ (⟨#[49, 48, 49, 48, 48, 49]⟩ : ByteArray) [.string (⟨#[49, 48, 49, 48, 48, 49]⟩ : ByteArray)] from rfl) (Reps.one (show Kd.M Kd.string _ _ _ (⟨#[49, 48, 48, 49, 48, 49]⟩ : ByteArray) [.string (⟨#[49, 48, 48, 49, 48, 49]⟩ : ByteArray)] from rfl) (Reps.none _ _)))))))))))); intro v242 w9 ho10 hb hg_ hnew_; clear hg_ hnew_; (first | rw [← Ny241.out] at ho10 | (simp only [Int.reduceToNat] at ho10; rw [← Ny241.out] at ho10)); have n0_ := Aside0.mk (Kd.R_lower ho10 (below_size bw)); have n1_ := Aside0.mk (below_step bw hb); clear HB; have HO243 := n0_; have HB := n1_; clear n0_ n1_; clear hb ho10; obtain ⟨Ao11, co11, eo11⟩ := Kd.R_slice HO243.out; subst eo11; have p244 : 0 ≤ (a1 : Int) := of_decide_eq_true am; have q244 : a1 < (y241.length : Int) := of_decide_eq_true am; obtain ⟨ad244, e244, hx244_0⟩ := Kd.at_string (Kd.R_reads' HO243.out).2.2 a1 p244 q244; cases e244; replace p244 := eq_true p244; replace q244 := eq_true q244))
 go_loopg [6, 7] k (fun kq v6 v7 w' => ∃ (x6_1 : List Int) (x7_1 : Int), v7 = .int .i64 x7_1 ∧ Aside0 (barscanref11_setsE.l0 kq (rdOf ByteArray.empty y241 a1) x6_1 x7_1 = some r) ∧ Aside0 (kq ≤ k) ∧ Aside0 (Kd.R (Kd.int .u8) 5 w' w.heap.size (fun _ => True) v6 x6_1) ∧ Aside0 (Below w.heap.size w w'))
 case atStart => exact ⟨(([] : List Int)), (0), rs, H', ⟨Nat.le_refl _⟩, ⟨by first | exact Kd.R_nil _ _ _ _ _ | exact Kd.N_nil _ _ _ _ _ | exact Kd.V_nil _ _ _ _ _ | exact Kd.Q_nil _ _ _ _ _ | exact Kd.S_nil _ _ _ _ _⟩, ⟨bw⟩⟩
 case round =>
  clear H'
  try clear p2
  try clear q2
  try clear hx2
  try clear c3
  try clear c3b0
  try clear c4
  try clear c4b0
  try clear c5
  try clear c5b0
  try clear c5b1
  try clear c6
  try clear hx244_0
  try clear p244
  try clear q244
  obtain ⟨x6_1, x7_1, rfl, HA, HK1, HO_6, HB⟩ := hrel
  cases gk with
  | zero => exact absurd HA.out (by simp [barscanref11_setsE.l0])
  | succ k1 =>
   have H := HA.out
   clear HA
   simp only [barscanref11_setsE.l0] at H
   replace H := ifc H
   obtain ⟨c12, H⟩ | ⟨c12, H⟩ := H
   rotate_left
   ·have c12b0 : decide (x7_1 < ((rdOf ByteArray.empty y241 a1).size : Int)) = false := decide_eq_false c12
    clear c12
    obtain rfl := Option.some.inj H
    have hcv17 := own_string (P := Tryz.prog) Tryz.underlying40 Tryz.underlying5 Tryz.underlying9 (Kd.own_of_R HO_6.out)
    go_wp2
    go_ret
    exact ⟨es, bw⟩
   have c12b0 : decide (x7_1 < ((rdOf ByteArray.empty y241 a1).size : Int)) = true := decide_eq_true c12
   clear c12
   replace H := ifn H
   obtain ⟨c13, H⟩ := H
   have c13b0 : decide (0 ≤ x7_1) = true := decide_eq_true c13
   clear c13
   by_cases c15 : x6_1.length < 140737488355328
   rotate_left
   ·rw [if_neg c15] at H
    exact absurd H (by simp)
   rw [if_pos c15] at H
   have LMc15 := Aside0.mk c15
   clear c15
   obtain ⟨y245, hy245⟩ : ∃ y_ : List Int, y_ = (x6_1 ++ [(97 - (bt (rdOf ByteArray.empty y241 a1) x7_1)) % 256]) := ⟨_, rfl⟩
   replace H : (barscanref11_setsE.l0 k1 (rdOf ByteArray.empty y241 a1) y245 (wrap64 (x7_1 + 1))) = some r := by first | (rw [hy245]; with_reducible exact H) | (have H2_ := (Option.bind_some _ _).symm.trans H; rw [hy245]; with_reducible exact H2_) | (have H2_ := (Option.bind_some _ _).symm.trans H; with_reducible exact H2_) | with_reducible exact H | (rw [hy245]; exact H) | exact H
   have Ny245 := Aside0.mk hy245
   clear hy245
   have H' := Aside0.mk H
   clear H
   have p14 : 0 ≤ (x7_1 : Int) := of_decide_eq_true am
   have q14 : x7_1 < ((rdOf ByteArray.empty y241 a1).size : Int) := of_decide_eq_true am
   have hx14 := bt_at (rdOf ByteArray.empty y241 a1) x7_1
   replace p14 := eq_true p14
   replace q14 := eq_true q14
   go_wp2_with (first | ((with_reducible refine gate_builtin (b := .append) (xs := #[.tmp 21, .tmp 26]) rfl ?_); at_builtin; refine Kd.R_append (Kd.int .u8) (w0 := w) w.heap.size rfl (.tmp 21) (.tmp 26) 40 5 (.int .u8 0) 1 rfl Tryz.underlying40 info5 rfl (by decide) om u6 x6_1 ((97 - (bt (rdOf ByteArray.empty y241 a1) x7_1)) % 256) [.int .u8 ((97 - (bt (rdOf ByteArray.empty y241 a1) x7_1)) % 256)] (fun _ => True) (fun _ => False) rfl rfl ?aP (fun _ hk => hk.elim) ?aF ?aO ?aB ?aS ?aL ?_; (case aP => exact rfl); (case aB => exact bw); (case aF => exact (fun _ _ => trivial)); (case aO => exact (kd HO_6)); (case aS => exact (below_size bw)); (case aL => have := LMc15.out; omega); intro v246 w16 ho hb hg hat; rw [← Ny245.out] at ho; have n0_ := Aside0.mk (hb); have n1_ := Aside0.mk (ho); clear HB; clear HO_6; have HB := n0_; have HO247 := n1_; clear n0_ n1_; clear ho hb hg hat))
   go_roundg k1
   case measure => have := HK1.out; omega
   case rel => exact ⟨(y245), (wrap64 (x7_1 + 1)), rs, H', ⟨by have := HK1.out; omega⟩, ⟨kd HO247⟩, ⟨bw⟩⟩

end Go.Proofs.YtjmeekceecpemaaGreatDoor.Q

namespace Go.Proofs.YtjmeekceecpemaaGreatDoor.Q
open Go.RowKit Go.Proofs.YtjmeekceecpemaaGreatDoorW.PrintWords Go.Proofs.YtjmeekceecpemaaGreatDoorW.PrintLast Go.Proofs.YtjmeekceecpemaaGreatDoorW.PrintMore

set_option linter.unusedVariables false
set_option linter.unusedSimpArgs false

/-! ### barscanref11_sets13: function 70 -/
def barscanref11_sets13.f (a0 : Int) : Option (ByteArray) := (some (([(⟨#[48, 48, 48, 48, 48, 48]⟩ : ByteArray), (⟨#[48, 48, 49, 48, 49, 49]⟩ : ByteArray), (⟨#[48, 48, 49, 49, 48, 49]⟩ : ByteArray), (⟨#[48, 48, 49, 49, 49, 48]⟩ : ByteArray), (⟨#[48, 49, 48, 48, 49, 49]⟩ : ByteArray), (⟨#[48, 49, 49, 48, 48, 49]⟩ : ByteArray), (⟨#[48, 49, 49, 49, 48, 48]⟩ : ByteArray), (⟨#[48, 49, 48, 49, 48, 49]⟩ : ByteArray), (⟨#[48, 49, 48, 49, 49, 48]⟩ : ByteArray), (⟨#[48, 49, 49, 48, 49, 48]⟩ : ByteArray)] : List ByteArray) : List ByteArray)).bind fun y248 => (if 0 ≤ a0 then (if a0 < (y248.length : Int) then (some (rdOf ByteArray.empty y248 a0)) else (none)) else (none))
set_option maxHeartbeats 8000000 in
set_option maxRecDepth 100000 in
theorem barscanref11_sets13.calls (a0 : Int) (r : ByteArray) (w : World) (h : barscanref11_sets13.f a0 = some r) :
    Calls Tryz.prog 70 #[.int .i64 a0] w fun e w' => e = .returned (.string r) ∧ Below w.heap.size w w' := by
 have HB := Aside0.mk (Below.refl w.heap.size w)
 have H := h
 clear h
 unfold barscanref11_sets13.f at H
 obtain ⟨y248, hy248⟩ : ∃ y_ : List ByteArray, y_ = (([(⟨#[48, 48, 48, 48, 48, 48]⟩ : ByteArray), (⟨#[48, 48, 49, 48, 49, 49]⟩ : ByteArray), (⟨#[48, 48, 49, 49, 48, 49]⟩ : ByteArray), (⟨#[48, 48, 49, 49, 49, 48]⟩ : ByteArray), (⟨#[48, 49, 48, 48, 49, 49]⟩ : ByteArray), (⟨#[48, 49, 49, 48, 48, 49]⟩ : ByteArray), (⟨#[48, 49, 49, 49, 48, 48]⟩ : ByteArray), (⟨#[48, 49, 48, 49, 48, 49]⟩ : ByteArray), (⟨#[48, 49, 48, 49, 49, 48]⟩ : ByteArray), (⟨#[48, 49, 49, 48, 49, 48]⟩ : ByteArray)] : List ByteArray)) := ⟨_, rfl⟩
 replace H : (if 0 ≤ a0 then (if a0 < (y248.length : Int) then (some (rdOf ByteArray.empty y248 a0)) else (none)) else (none)) = some r := by first | (rw [hy248]; with_reducible exact H) | (have H2_ := (Option.bind_some _ _).symm.trans H; rw [hy248]; with_reducible exact H2_) | (have H2_ := (Option.bind_some _ _).symm.trans H; with_reducible exact H2_) | with_reducible exact H | (rw [hy248]; exact H) | exact H
 have Ny248 := Aside0.mk hy248
 clear hy248
 replace H := ifc H
 obtain ⟨c2, H⟩ | ⟨c2, H⟩ := H
 rotate_left
 ·exact absurd H (by simp)
 have c2b0 : decide (0 ≤ a0) = true := decide_eq_true c2
 clear c2
 replace H := ifn H
 obtain ⟨c3, H⟩ := H
 have c3b0 : decide (a0 < (y248.length : Int)) = true := decide_eq_true c3
 clear c3
 obtain rfl := Option.some.inj H
 go_enter Tryz.func70, Tryz.ntmps70
 go_wp2_with (first | ((with_reducible refine gate_dst (N := 3) rfl ?_); refine Kd.R_lit Kd.string _ 9 ?hg (N := 3) ?hd (xs := ([(⟨#[48, 48, 48, 48, 48, 48]⟩ : ByteArray), (⟨#[48, 48, 49, 48, 49, 49]⟩ : ByteArray), (⟨#[48, 48, 49, 49, 48, 49]⟩ : ByteArray), (⟨#[48, 48, 49, 49, 49, 48]⟩ : ByteArray), (⟨#[48, 49, 48, 48, 49, 49]⟩ : ByteArray), (⟨#[48, 49, 49, 48, 48, 49]⟩ : ByteArray), (⟨#[48, 49, 49, 49, 48, 48]⟩ : ByteArray), (⟨#[48, 49, 48, 49, 48, 49]⟩ : ByteArray), (⟨#[48, 49, 48, 49, 49, 48]⟩ : ByteArray), (⟨#[48, 49, 49, 48, 49, 48]⟩ : ByteArray)] : List ByteArray)) (inner := [.string (⟨#[48, 48, 48, 48, 48, 48]⟩ : ByteArray), .string (⟨#[48, 48, 49, 48, 49, 49]⟩ : ByteArray), .string (⟨#[48, 48, 49, 49, 48, 49]⟩ : ByteArray), .string (⟨#[48, 48, 49, 49, 49, 48]⟩ : ByteArray), .string (⟨#[48, 49, 48, 48, 49, 49]⟩ : ByteArray), .string (⟨#[48, 49, 49, 48, 48, 49]⟩ : ByteArray), .string (⟨#[48, 49, 49, 49, 48, 48]⟩ : ByteArray), .string (⟨#[48, 49, 48, 49, 48, 49]⟩ : ByteArray), .string (⟨#[48, 49, 48, 49, 49, 48]⟩ : ByteArray), .string (⟨#[48, 49, 49, 48, 49, 48]⟩ : ByteArray)]) (ok := fun _ => True) (okp := fun _ => True) ?hr ?hp (fun _ hk => hk) trivial (Below.refl _ _) (Nat.le_refl _) (by simp) ?_; (case hd => rfl); (case hg => rfl); (case hr => first | (go_simp; done) | (go_simp; rfl)); (case hp => exact (Reps.one (show Kd.M Kd.string _ _ _ (⟨#[48, 48, 48, 48, 48, 48]⟩ : ByteArray) [.string (⟨#[48, 48, 48, 48, 48, 48]⟩ : ByteArray)] from rfl) (Reps.one (show Kd.M Kd.string _ _ _ (⟨#[48, 48, 49, 48, 49, 49]⟩ : ByteArray) [.string (⟨#[48, 48, 49, 48, 49, 49]⟩ : ByteArray)] from rfl) (Reps.one (show Kd.M Kd.string _ _ _ (⟨#[48, 48, 49, 49, 48, 49]⟩ : ByteArray) [.string (⟨#[48, 48, 49, 49, 48, 49]⟩ : ByteArray)] from rfl) (Reps.one (show Kd.M Kd.string _ _ _ (⟨#[48, 48, 49, 49, 49, 48]⟩ : ByteArray) [.string (⟨#[48, 48, 49, 49, 49, 48]⟩ : ByteArray)] from rfl) (Reps.one (show Kd.M Kd.string _ _ _ (⟨#[48, 49, 48, 48, 49, 49]⟩ : ByteArray) [.string (⟨#[48, 49, 48, 48, 49, 49]⟩ : ByteArray)] from rfl) (Reps.one (show Kd.M Kd.string _ _ _ (⟨#[48, 49, 49, 48, 48, 49]⟩ : ByteArray) [.string (⟨#[48, 49, 49, 48, 48, 49]⟩ : ByteArray)] from rfl) (Reps.one (show Kd.M Kd.string _ _ _ (⟨#[48, 49, 49, 49, 48, 48]⟩ : ByteArray) [.string (⟨#[48, 49, 49, 49, 48, 48]⟩ : ByteArray)] from rfl) (Reps.one (show Kd.M Kd.string _ _ _ (⟨#[48, 49, 48, 49, 48, 49]⟩ : ByteArray) [.string (⟨#[48, 49, 48, 49, 48, 49]⟩ : ByteArray)] from rfl) (Reps.one (show Kd.M Kd.string _ _ _ (⟨#[48, 49, 48, 49, 49, 48]⟩ : ByteArray) [.string (⟨#[48, 49, 48, 49, 49, 48]⟩ : ByteArray)] from rfl) (Reps.one (show Kd.M Kd.string _ _ _ (⟨#[48, 49, 49, 48, 49, 48]⟩ : ByteArray) [.string (⟨#[48, 49, 49, 48, 49, 48]⟩ : ByteArray)] from rfl) (Reps.none _ _)))))))))))); intro v249 w4 ho5 hb hg_ hnew_; clear hg_ hnew_; (first | rw [← Ny248.out] at ho5 | (simp only [Int.reduceToNat] at ho5; rw [← Ny248.out] at ho5)); have n0_ := Aside0.mk (Kd.R_lower ho5 (below_size bw)); have n1_ := Aside0.mk (below_step bw hb); clear HB; have HO250 := n0_; have HB := n1_; clear n0_ n1_; clear hb ho5; obtain ⟨Ao6, co6, eo6⟩ := Kd.R_slice HO250.out; subst eo6; have p251 : 0 ≤ (a0 : Int) := of_decide_eq_true am; have q251 : a0 < (y248.length : Int) := of_decide_eq_true am; obtain ⟨ad251, e251, hx251_0⟩ := Kd.at_string (Kd.R_reads' HO250.out).2.2 a0 p251 q251; cases e251; replace p251 := eq_true p251; replace q251 := eq_true q251))
 go_ret
 exact ⟨es, bw⟩

end Go.Proofs.YtjmeekceecpemaaGreatDoor.Q

namespace Go.Proofs.YtjmeekceecpemaaGreatDoor.Q
open Go.RowKit Go.Proofs.YtjmeekceecpemaaGreatDoorW.PrintWords Go.Proofs.YtjmeekceecpemaaGreatDoorW.PrintLast Go.Proofs.YtjmeekceecpemaaGreatDoorW.PrintMore

set_option linter.unusedVariables false
set_option linter.unusedSimpArgs false

/-! ### barscanref11_symbol: function 38 -/
def barscanref11_symbol.j0 : Nat → ByteArray → Option (List Bool)
  | 0, _ => none
  | k + 1, x1 => (barscanref11_modules.f k (⟨#[49, 48, 49]⟩ : ByteArray)).bind fun t289 => (if 1 ≤ 7 then (if 7 ≤ (x1.size : Int) then (if 0 < (x1.size : Int) then ((barscanref11_sets13.f (((bt x1 0) - 48) % 256)).bind fun t292 => ((barscanref11_row.f k (x1.extract 1 7) t292 (⟨#[]⟩ : ByteArray)).bind fun t293 => ((barscanref11_modules.f k (⟨#[48, 49, 48, 49, 48]⟩ : ByteArray)).bind fun t296 => ((barscanref11_row.f k (x1.extract 7 x1.size) (⟨#[50, 50, 50, 50, 50, 50]⟩ : ByteArray) (⟨#[]⟩ : ByteArray)).bind fun t299 => ((barscanref11_modules.f k (⟨#[49, 48, 49]⟩ : ByteArray)).bind fun t302 => ((barscanref11_join.f k (([t289, t293, t296, t299, t302] : List (List Bool)))).bind fun t308 => (some t308))))))) else (none)) else (none)) else (none))
def barscanref11_symbol.f (k : Nat) (a0 : Int) (a1 : ByteArray) : Option (List Bool) := if a0 = 2 then ((barscanref11_modules.f k (⟨#[49, 48, 49]⟩ : ByteArray)).bind fun t252 => (if 0 ≤ 4 then (if 4 ≤ (a1.size : Int) then ((barscanref11_row.f k (a1.extract 0 4) (⟨#[48, 48, 48, 48]⟩ : ByteArray) (⟨#[]⟩ : ByteArray)).bind fun t255 => ((barscanref11_modules.f k (⟨#[48, 49, 48, 49, 48]⟩ : ByteArray)).bind fun t258 => ((barscanref11_row.f k (a1.extract 4 a1.size) (⟨#[50, 50, 50, 50]⟩ : ByteArray) (⟨#[]⟩ : ByteArray)).bind fun t261 => ((barscanref11_modules.f k (⟨#[49, 48, 49]⟩ : ByteArray)).bind fun t264 => ((barscanref11_join.f k (([t252, t255, t258, t261, t264] : List (List Bool)))).bind fun t270 => (some t270)))))) else (none)) else (none))) else (if a0 = 4 then ((barscanref11_modules.f k (⟨#[49, 48, 49]⟩ : ByteArray)).bind fun t273 => (if 1 ≤ 7 then (if 7 ≤ (a1.size : Int) then (if 0 < (a1.size : Int) then (if 7 < (a1.size : Int) then ((barscanref11_setsE.f k (((bt a1 0) - 48) % 256) (((bt a1 7) - 48) % 256)).bind fun t276 => ((barscanref11_row.f k (a1.extract 1 7) t276 (⟨#[]⟩ : ByteArray)).bind fun t277 => ((barscanref11_modules.f k (⟨#[48, 49, 48, 49, 48, 49]⟩ : ByteArray)).bind fun t280 => ((barscanref11_join.f k (([t273, t277, t280] : List (List Bool)))).bind fun t286 => (some t286))))) else (none)) else (none)) else (none)) else (none))) else (if a0 = 3 then (if 1 + a1.size ≤ 9223372036854775807 then (barscanref11_symbol.j0 k ((⟨#[48]⟩ : ByteArray) ++ a1)) else (none)) else (barscanref11_symbol.j0 k a1)))
theorem barscanref11_symbol.mono_l : ∀ k, (∀ y0, LeO (barscanref11_symbol.j0 k y0) (barscanref11_symbol.j0 (k + 1) y0))
  | 0 => fun _ r h => by simp [barscanref11_symbol.j0] at h
  | k + 1 => by
    have ih0 := barscanref11_symbol.mono_l k
    · intro y0
      unfold barscanref11_symbol.j0
      repeat' with_reducible first | exact ih0 _ | exact barscanref11_join.mono _ _ | exact barscanref11_modules.mono _ _ | exact barscanref11_row.mono _ _ _ _ | exact barscanref11_setsE.mono _ _ _ | exact LeO.refl _ | exact LeO.none _ | refine LeO.ite ?_ ?_ | refine LeO.bind ?_ (fun _ => ?_)
theorem barscanref11_symbol.mono : ∀ a0 a1 k, LeO (barscanref11_symbol.f k a0 a1) (barscanref11_symbol.f (k + 1) a0 a1) := by
  intro a0 a1 k
  have ih0 := barscanref11_symbol.mono_l k
  unfold barscanref11_symbol.f
  repeat' with_reducible first | exact ih0 _ | exact barscanref11_join.mono _ _ | exact barscanref11_modules.mono _ _ | exact barscanref11_row.mono _ _ _ _ | exact barscanref11_setsE.mono _ _ _ | exact LeO.refl _ | exact LeO.none _ | refine LeO.ite ?_ ?_ | refine LeO.bind ?_ (fun _ => ?_)
def barscanref11_symbol.T3 : Bool × List (List Nat × List Nat) := (true, [([], []), ([], []), ([1], [1]), ([2, 0], [2]), ([3], []), ([], []), ([5], [5]), ([6, 4], [6]), ([7], []), ([0, 3, 4, 7, 8], [0, 3, 4, 7, 8]), ([9, 8], [9]), ([10, 10, 0, 1, 2, 3, 4, 5, 6, 7, 8, 9, 10], [10])])
def barscanref11_symbol.B3 : List Nat := [0, 0, 2, 7, 15, 0, 32, 127, 255, 511, 1023, 2047]
theorem barscanref11_symbol.tab3 : rtab .any (opsOf Tryz.f38 3) = barscanref11_symbol.T3 := kr
theorem barscanref11_symbol.bits3 : waitsOk barscanref11_symbol.T3.2 barscanref11_symbol.B3 = true := kr
def barscanref11_symbol.T5 : Bool × List (List Nat × List Nat) := (true, [([], []), ([], []), ([1], [1]), ([], []), ([3], [3]), ([4], [4]), ([5], [5]), ([], []), ([7], [7]), ([8], [8]), ([9], [9]), ([6, 10, 0], [6, 10]), ([2, 11, 11], [2, 11]), ([12], []), ([0, 12, 13], [0, 12, 13]), ([14, 13], [14]), ([15, 15, 0, 1, 2, 3, 4, 5, 6, 7, 8, 9, 10, 11, 12, 13, 14, 15], [15])])
def barscanref11_symbol.B5 : List Nat := [0, 0, 2, 0, 8, 24, 56, 0, 128, 384, 896, 2041, 4095, 8191, 16383, 32767, 65535]
theorem barscanref11_symbol.tab5 : rtab .any (opsOf Tryz.f38 5) = barscanref11_symbol.T5 := kr
theorem barscanref11_symbol.bits5 : waitsOk barscanref11_symbol.T5.2 barscanref11_symbol.B5 = true := kr
def barscanref11_symbol.T8 : Bool × List (List Nat × List Nat) := (true, [([], []), ([], []), ([1], [1]), ([], []), ([3], [3]), ([4], [4]), ([5], [5]), ([6, 0], [6]), ([2, 7, 7], [2, 7]), ([8], []), ([], []), ([10], [10]), ([11, 9], [11]), ([12], []), ([0, 8, 9, 12, 13], [0, 8, 9, 12, 13]), ([14, 13], [14]), ([15, 15, 0, 1, 2, 3, 4, 5, 6, 7, 8, 9, 10, 11, 12, 13, 14, 15], [15])])
def barscanref11_symbol.B8 : List Nat := [0, 0, 2, 0, 8, 24, 56, 121, 255, 511, 0, 1024, 4095, 8191, 16383, 32767, 65535]
theorem barscanref11_symbol.tab8 : rtab .any (opsOf Tryz.f38 8) = barscanref11_symbol.T8 := kr
theorem barscanref11_symbol.bits8 : waitsOk barscanref11_symbol.T8.2 barscanref11_symbol.B8 = true := kr
set_option maxHeartbeats 8000000 in
set_option maxRecDepth 100000 in
theorem barscanref11_symbol.calls (k : Nat) (a0 : Int) (a1 : ByteArray) (r : List Bool) (w : World) (h : barscanref11_symbol.f k a0 a1 = some r) :
    Calls Tryz.prog 38 #[.int .i64 a0, .string a1] w fun e w' => ∃ v0_ : Value, e = .returned (v0_) ∧ Kd.R Kd.bool 4 w' w.heap.size (fun _ => True) v0_ r ∧ Below w.heap.size w w' := by
 have HB := Aside0.mk (Below.refl w.heap.size w)
 have H := h
 clear h
 unfold barscanref11_symbol.f at H
 have HC3 := Aside0.mk H
 clear H
 go_enter Tryz.func38, Tryz.ntmps38
 go_upto_block 0 with (fail)
 go_cut [1] (fun v1 wc => ∃ (kq : Nat) (x1_2 : ByteArray), v1 = .string x1_2 ∧ Aside0 (barscanref11_symbol.j0 kq x1_2 = some r) ∧ Aside0 (kq ≤ k) ∧ Aside0 (Below w.heap.size w wc))
 case first =>
  have H := HC3.out
  clear HC3
  replace H := ifc H
  obtain ⟨c4, H⟩ | ⟨c4, H⟩ := H
  ·have c4b0 : (a0 == 2) = true := beq_iff_eq.mpr c4
   have c4b1 : (a0 != 2) = false := bne_eq_false_iff_eq.mpr c4
   clear c4
   (first | rw [c4b0] | (simp only [i64_w]; rw [c4b0]) | skip)
   replace H := bd H
   obtain ⟨t252, A5, H⟩ := H
   replace H := ifn H
   obtain ⟨c6, H⟩ := H
   have c6b0 := eq_true c6
   have c6b1 : decide (0 ≤ 4) = true := decide_eq_true c6
   clear c6
   by_cases c7 : 4 ≤ (a1.size : Int)
   rotate_left
   ·rw [if_neg c7] at H
    exact absurd H (by simp)
   rw [if_pos c7] at H
   have c7b0 := eq_true c7
   have c7b1 : decide (4 ≤ (a1.size : Int)) = true := decide_eq_true c7
   clear c7
   replace H := bd H
   obtain ⟨t255, A8, H⟩ := H
   replace H := bd H
   obtain ⟨t258, A9, H⟩ := H
   have c10b0 := eq_true (of_decide_eq_true am : 4 ≤ (a1.size : Int))
   replace H := bd H
   obtain ⟨t261, A11, H⟩ := H
   replace H := bd H
   obtain ⟨t264, A12, H⟩ := H
   obtain ⟨y267, hy267⟩ : ∃ y_ : List (List Bool), y_ = (([t252, t255, t258, t261, t264] : List (List Bool))) := ⟨_, rfl⟩
   replace H : ((barscanref11_join.f k y267).bind fun t270 => (some t270)) = some r := by first | (rw [hy267]; with_reducible exact H) | (have H2_ := (Option.bind_some _ _).symm.trans H; rw [hy267]; with_reducible exact H2_) | (have H2_ := (Option.bind_some _ _).symm.trans H; with_reducible exact H2_) | with_reducible exact H | (rw [hy267]; exact H) | exact H
   have Ny267 := Aside0.mk hy267
   clear hy267
   replace H := bd H
   obtain ⟨t270, A13, H⟩ := H
   obtain rfl := Option.some.inj H
   try go_wp2
   have n0_ := Aside0.mk (below_drew1 HB.out)
   clear HB
   have HB := n0_
   clear n0_
   refine start_ (n := 12) (S := fun w' => True) (ds := []) #[false, false, false, false, false, false, false, false, false, false, false, false] kr rfl rfl trivial (fun hHeld => ?_); refine with_tabW barscanref11_symbol.tab3 barscanref11_symbol.bits3 (fun HT_ HW_ => ?_)
   generalize w.drew = w14 at HB hHeld ⊢
   refine pu HT_ 1 9 (h := ?_)
   refine pu HT_ 2 10 (h := ?_)
   refine pu HT_ 5 13 (h := ?_)
   refine pu HT_ 6 14 (h := ?_)
   refine on HT_ 0 8 (h := fun K hK => ?_)
   refine goes_ Tryz.func67 kr rfl #[.string (⟨#[49, 48, 49]⟩ : ByteArray)] (by rfl) rfl rfl (by (try simp only [List.map_toArray, List.map_cons, List.map_nil]); first | done | rfl | (simp only [List.length_drop, List.length_take]; rfl) | (go_simp; done) | (go_simp; rfl)) ?_
   with_reducible refine (barscanref11_modules.calls k (⟨#[49, 48, 49]⟩ : ByteArray) t252 _ A5.out).mono ?_
   rintro e w15 ⟨v253, rfl, ho0, hb⟩
   refine ⟨_, rfl, ?_⟩
   have n0_ := Aside0.mk (Kd.R_lower ho0 (below_size bw))
   have n1_ := Aside0.mk (below_step bw hb)
   clear HB
   have HO254 := n0_
   have HB := n1_
   clear n0_ n1_
   (try clear hb)
   (try clear hb2)
   (try clear hk)
   (try clear hi)
   (try clear ho0)
   refine hK.out _ _ trivial (fun hHeld => ?_)
   clear hK K
   refine norm_ (a' := ?_) ?_ ?_
   rotate_left
   ·show Act.put _ (some 8) _ = _
    simp only [Act.put, List.setIfInBounds_toArray, List.set_cons_zero, List.set_cons_succ, i64_w]
    rfl
   refine on HT_ 3 11 (h := fun K hK => ?_)
   refine goes_ Tryz.func68 kr rfl #[.string (a1.extract 0 4), .string (⟨#[48, 48, 48, 48]⟩ : ByteArray), .string (⟨#[]⟩ : ByteArray)] (by rfl) rfl rfl (by (try simp only [List.map_toArray, List.map_cons, List.map_nil]); first | done | rfl | (simp only [List.length_drop, List.length_take]; rfl) | (go_simp; done) | (go_simp; rfl)) ?_
   with_reducible refine (barscanref11_row.calls k (a1.extract 0 4) (⟨#[48, 48, 48, 48]⟩ : ByteArray) (⟨#[]⟩ : ByteArray) t255 _ A8.out).mono ?_
   rintro e w16 ⟨v256, rfl, ho0, hb⟩
   refine ⟨_, rfl, ?_⟩
   have n0_ := Aside0.mk (Kd.R_elder' (kd HO254) (Kd.R_base ho0) hb)
   have n1_ := Aside0.mk (Kd.R_lower (Kd.R_new' ho0 (Kd.R_lt (kd HO254))) (below_size bw))
   have n2_ := Aside0.mk (below_step bw hb)
   clear HO254
   clear HB
   have HO254 := n0_
   have HO257 := n1_
   have HB := n2_
   clear n0_ n1_ n2_
   (try clear hb)
   (try clear hb2)
   (try clear hk)
   (try clear hi)
   (try clear ho0)
   refine hK.out _ _ trivial (fun hHeld => ?_)
   clear hK K
   refine norm_ (a' := ?_) ?_ ?_
   rotate_left
   ·show Act.put _ (some 11) _ = _
    simp only [Act.put, List.setIfInBounds_toArray, List.set_cons_zero, List.set_cons_succ, i64_w]
    rfl
   refine on HT_ 4 12 (h := fun K hK => ?_)
   refine goes_ Tryz.func67 kr rfl #[.string (⟨#[48, 49, 48, 49, 48]⟩ : ByteArray)] (by rfl) rfl rfl (by (try simp only [List.map_toArray, List.map_cons, List.map_nil]); first | done | rfl | (simp only [List.length_drop, List.length_take]; rfl) | (go_simp; done) | (go_simp; rfl)) ?_
   with_reducible refine (barscanref11_modules.calls k (⟨#[48, 49, 48, 49, 48]⟩ : ByteArray) t258 _ A9.out).mono ?_
   rintro e w17 ⟨v259, rfl, ho0, hb⟩
   refine ⟨_, rfl, ?_⟩
   have n0_ := Aside0.mk (Kd.R_elder' (kd HO254) (Kd.R_base ho0) hb)
   have n1_ := Aside0.mk (Kd.R_elder' (kd HO257) (Kd.R_base ho0) hb)
   have n2_ := Aside0.mk (Kd.R_lower (Kd.R_new' (Kd.R_new' ho0 (Kd.R_lt (kd HO254))) (Kd.R_lt (kd HO257))) (below_size bw))
   have n3_ := Aside0.mk (below_step bw hb)
   clear HO254
   clear HO257
   clear HB
   have HO254 := n0_
   have HO257 := n1_
   have HO260 := n2_
   have HB := n3_
   clear n0_ n1_ n2_ n3_
   (try clear hb)
   (try clear hb2)
   (try clear hk)
   (try clear hi)
   (try clear ho0)
   refine hK.out _ _ trivial (fun hHeld => ?_)
   clear hK K
   refine norm_ (a' := ?_) ?_ ?_
   rotate_left
   ·show Act.put _ (some 12) _ = _
    simp only [Act.put, List.setIfInBounds_toArray, List.set_cons_zero, List.set_cons_succ, i64_w]
    rfl
   refine on HT_ 7 15 (h := fun K hK => ?_)
   refine goes_ Tryz.func68 kr rfl #[.string (a1.extract 4 a1.size), .string (⟨#[50, 50, 50, 50]⟩ : ByteArray), .string (⟨#[]⟩ : ByteArray)] (by rfl) rfl rfl (by (try simp only [List.map_toArray, List.map_cons, List.map_nil]); first | done | rfl | (simp only [List.length_drop, List.length_take]; rfl) | (go_simp; done) | (go_simp; rfl)) ?_
   with_reducible refine (barscanref11_row.calls k (a1.extract 4 a1.size) (⟨#[50, 50, 50, 50]⟩ : ByteArray) (⟨#[]⟩ : ByteArray) t261 _ A11.out).mono ?_
   rintro e w18 ⟨v262, rfl, ho0, hb⟩
   refine ⟨_, rfl, ?_⟩
   have n0_ := Aside0.mk (Kd.R_elder' (kd HO254) (Kd.R_base ho0) hb)
   have n1_ := Aside0.mk (Kd.R_elder' (kd HO257) (Kd.R_base ho0) hb)
   have n2_ := Aside0.mk (Kd.R_elder' (kd HO260) (Kd.R_base ho0) hb)
   have n3_ := Aside0.mk (Kd.R_lower (Kd.R_new' (Kd.R_new' (Kd.R_new' ho0 (Kd.R_lt (kd HO254))) (Kd.R_lt (kd HO257))) (Kd.R_lt (kd HO260))) (below_size bw))
   have n4_ := Aside0.mk (below_step bw hb)
   clear HO254
   clear HO257
   clear HO260
   clear HB
   have HO254 := n0_
   have HO257 := n1_
   have HO260 := n2_
   have HO263 := n3_
   have HB := n4_
   clear n0_ n1_ n2_ n3_ n4_
   (try clear hb)
   (try clear hb2)
   (try clear hk)
   (try clear hi)
   (try clear ho0)
   refine hK.out _ _ trivial (fun hHeld => ?_)
   clear hK K
   refine norm_ (a' := ?_) ?_ ?_
   rotate_left
   ·show Act.put _ (some 15) _ = _
    simp only [Act.put, List.setIfInBounds_toArray, List.set_cons_zero, List.set_cons_succ, i64_w]
    rfl
   refine on HT_ 8 16 (h := fun K hK => ?_)
   refine goes_ Tryz.func67 kr rfl #[.string (⟨#[49, 48, 49]⟩ : ByteArray)] (by rfl) rfl rfl (by (try simp only [List.map_toArray, List.map_cons, List.map_nil]); first | done | rfl | (simp only [List.length_drop, List.length_take]; rfl) | (go_simp; done) | (go_simp; rfl)) ?_
   with_reducible refine (barscanref11_modules.calls k (⟨#[49, 48, 49]⟩ : ByteArray) t264 _ A12.out).mono ?_
   rintro e w19 ⟨v265, rfl, ho0, hb⟩
   refine ⟨_, rfl, ?_⟩
   have n0_ := Aside0.mk (Kd.R_elder' (kd HO254) (Kd.R_base ho0) hb)
   have n1_ := Aside0.mk (Kd.R_elder' (kd HO257) (Kd.R_base ho0) hb)
   have n2_ := Aside0.mk (Kd.R_elder' (kd HO260) (Kd.R_base ho0) hb)
   have n3_ := Aside0.mk (Kd.R_elder' (kd HO263) (Kd.R_base ho0) hb)
   have n4_ := Aside0.mk (Kd.R_lower (Kd.R_new' (Kd.R_new' (Kd.R_new' (Kd.R_new' ho0 (Kd.R_lt (kd HO254))) (Kd.R_lt (kd HO257))) (Kd.R_lt (kd HO260))) (Kd.R_lt (kd HO263))) (below_size bw))
   have n5_ := Aside0.mk (below_step bw hb)
   clear HO254
   clear HO257
   clear HO260
   clear HO263
   clear HB
   have HO254 := n0_
   have HO257 := n1_
   have HO260 := n2_
   have HO263 := n3_
   have HO266 := n4_
   have HB := n5_
   clear n0_ n1_ n2_ n3_ n4_ n5_
   (try clear hb)
   (try clear hb2)
   (try clear hk)
   (try clear hi)
   (try clear ho0)
   obtain ⟨Ao20, co20, eo20⟩ := Kd.R_slice HO254.out
   (first | subst eo20 | (injection eo20 with f1_ f2_ f3_; have f4_ := f1_.symm; have f5_ := f3_.symm; clear f1_ f2_ f3_; subst f4_; subst f5_))
   obtain ⟨Ao21, co21, eo21⟩ := Kd.R_slice HO257.out
   (first | subst eo21 | (injection eo21 with f1_ f2_ f3_; have f4_ := f1_.symm; have f5_ := f3_.symm; clear f1_ f2_ f3_; subst f4_; subst f5_))
   obtain ⟨Ao22, co22, eo22⟩ := Kd.R_slice HO260.out
   (first | subst eo22 | (injection eo22 with f1_ f2_ f3_; have f4_ := f1_.symm; have f5_ := f3_.symm; clear f1_ f2_ f3_; subst f4_; subst f5_))
   obtain ⟨Ao23, co23, eo23⟩ := Kd.R_slice HO263.out
   (first | subst eo23 | (injection eo23 with f1_ f2_ f3_; have f4_ := f1_.symm; have f5_ := f3_.symm; clear f1_ f2_ f3_; subst f4_; subst f5_))
   obtain ⟨Ao24, co24, eo24⟩ := Kd.R_slice HO266.out
   (first | subst eo24 | (injection eo24 with f1_ f2_ f3_; have f4_ := f1_.symm; have f5_ := f3_.symm; clear f1_ f2_ f3_; subst f4_; subst f5_))
   refine hK.out _ _ trivial (fun hHeld => ?_)
   clear hK K
   refine norm_ (a' := ?_) ?_ ?_
   rotate_left
   ·show Act.put _ (some 16) _ = _
    simp only [Act.put, List.setIfInBounds_toArray, List.set_cons_zero, List.set_cons_succ, i64_w]
    rfl
   refine on HT_ 9 17 (h := fun K hK => ?_)
   refine Kd.N_lit_step (Kd.slice 4 Kd.bool) _ 23 ?hg (N' := 17) ?hd (xs := ([t252, t255, t258, t261, t264] : List (List Bool))) (inner := [.slice Ao20 t252.length co20, .slice Ao21 t255.length co21, .slice Ao22 t258.length co22, .slice Ao23 t261.length co23, .slice Ao24 t264.length co24]) (ok := (fun _ => True)) (okp := (fun _ => True)) ?hr ?hp (fun _ hk => hk) ((show ∀ k_, w19.heap.size ≤ k_ → (fun _ => True) k_ from fun k_ hk => trivial) _ (Nat.le_refl _)) (Below.refl _ _) (Nat.le_refl _) (by simp) ?_; (case hd => rfl); (case hg => rfl); (case hr => first | (go_simp; done) | (go_simp; rfl)); (case hp => exact (Reps.one (show Kd.FK (Kd.slice 4 Kd.bool) _ _ t252 [.slice Ao20 t252.length co20] from (Kd.FK_slice_mk (Kd.R_reads' (Kd.R_mono (ok' := (fun _ => True)) (HO254.out) (fun k_ hk => trivial))).2.1 (Kd.R_F (Kd.R_mono (ok' := (fun _ => True)) (HO254.out) (fun k_ hk => trivial))))) (Reps.one (show Kd.FK (Kd.slice 4 Kd.bool) _ _ t255 [.slice Ao21 t255.length co21] from (Kd.FK_slice_mk (Kd.R_reads' (Kd.R_mono (ok' := (fun _ => True)) (HO257.out) (fun k_ hk => trivial))).2.1 (Kd.R_F (Kd.R_mono (ok' := (fun _ => True)) (HO257.out) (fun k_ hk => trivial))))) (Reps.one (show Kd.FK (Kd.slice 4 Kd.bool) _ _ t258 [.slice Ao22 t258.length co22] from (Kd.FK_slice_mk (Kd.R_reads' (Kd.R_mono (ok' := (fun _ => True)) (HO260.out) (fun k_ hk => trivial))).2.1 (Kd.R_F (Kd.R_mono (ok' := (fun _ => True)) (HO260.out) (fun k_ hk => trivial))))) (Reps.one (show Kd.FK (Kd.slice 4 Kd.bool) _ _ t261 [.slice Ao23 t261.length co23] from (Kd.FK_slice_mk (Kd.R_reads' (Kd.R_mono (ok' := (fun _ => True)) (HO263.out) (fun k_ hk => trivial))).2.1 (Kd.R_F (Kd.R_mono (ok' := (fun _ => True)) (HO263.out) (fun k_ hk => trivial))))) (Reps.one (show Kd.FK (Kd.slice 4 Kd.bool) _ _ t264 [.slice Ao24 t264.length co24] from (Kd.FK_slice_mk (Kd.R_reads' (Kd.R_mono (ok' := (fun _ => True)) (HO266.out) (fun k_ hk => trivial))).2.1 (Kd.R_F (Kd.R_mono (ok' := (fun _ => True)) (HO266.out) (fun k_ hk => trivial))))) (Reps.none _ _)))))))
   intro v268 w25 ho26 hb hg_ hnew_
   clear hg_ hnew_
   (first | rw [← Ny267.out] at ho26 | (simp only [Int.reduceToNat] at ho26; rw [← Ny267.out] at ho26))
   have n0_ := Aside0.mk (Kd.N_lower ho26 (below_size bw))
   have n1_ := Aside0.mk (below_step bw hb)
   clear HB
   clear HO254
   clear HO257
   clear HO260
   clear HO263
   clear HO266
   have HO269 := n0_
   have HB := n1_
   clear n0_ n1_
   clear hb ho26
   obtain ⟨Ao27, co27, eo27⟩ := Kd.N_slice HO269.out
   (first | subst eo27 | (injection eo27 with f1_ f2_ f3_; have f4_ := f1_.symm; have f5_ := f3_.symm; clear f1_ f2_ f3_; subst f4_; subst f5_))
   refine hK.out _ _ trivial (fun hHeld => ?_)
   clear hK K
   refine norm_ (a' := ?_) ?_ ?_
   rotate_left
   ·show Act.put _ (some 17) _ = _
    simp only [Act.put, List.setIfInBounds_toArray, List.set_cons_zero, List.set_cons_succ, i64_w]
    rfl
   refine on HT_ 10 18 (h := fun K hK => ?_)
   refine goes_ Tryz.func36 kr rfl #[.slice Ao27 y267.length co27] (by rfl) rfl rfl (by (try simp only [List.map_toArray, List.map_cons, List.map_nil]); first | done | rfl | (simp only [List.length_drop, List.length_take]; rfl) | (go_simp; done) | (go_simp; rfl)) ?_
   with_reducible refine (barscanref11_join.calls k _ _ y267 t270 _ ?side1 ?side2 A13.out).mono ?_
   (case side1 => repeat (first | exact (Kd.N_reads' HO269.out).2.2 | (with_reducible refine Kd.C_alloc ?_ _) | (with_reducible refine Kd.C_drewN ?_ _) | (with_reducible refine Kd.C_drew ?_)))
   (case side2 => exact (Kd.N_reads' HO269.out).2.1)
   rintro e w28 ⟨v271, rfl, ho0, hb⟩
   refine ⟨_, rfl, ?_⟩
   have n0_ := Aside0.mk (Kd.N_elder' (by (with_reducible repeat (first | apply Kd.N_alloc | apply Kd.N_drewN | apply Kd.N_drew)); exact HO269.out) (Kd.R_base ho0) hb)
   have n1_ := Aside0.mk (Kd.R_lower ho0 (below_size bw))
   have n2_ := Aside0.mk (below_step bw hb)
   clear HO269
   clear HB
   have HO269 := n0_
   have HO272 := n1_
   have HB := n2_
   clear n0_ n1_ n2_
   (try clear hb)
   (try clear hb2)
   (try clear hk)
   (try clear hi)
   (try clear ho0)
   refine hK.out _ _ trivial (fun hHeld => ?_)
   clear hK K
   refine norm_ (a' := ?_) ?_ ?_
   rotate_left
   ·show Act.put _ (some 18) _ = _
    simp only [Act.put, List.setIfInBounds_toArray, List.set_cons_zero, List.set_cons_succ, i64_w]
    rfl
   refine pu HT_ 11 4 (h := ?_)
   refine done_ (done_of HT_.out kr) ?_
   try go_wp2
   go_ret
   exact ⟨_, es, kd HO272, bw⟩
  have c4b0 : (a0 == 2) = false := beq_eq_false_iff_ne.mpr c4
  have c4b1 : (a0 != 2) = true := bne_iff_ne.mpr c4
  (first | rw [c4b0] | (simp only [i64_w]; rw [c4b0]) | skip)
  replace H := ifc H
  obtain ⟨c29, H⟩ | ⟨c29, H⟩ := H
  rotate_left
  ·have c29b0 : (a0 == 4) = false := beq_eq_false_iff_ne.mpr c29
   have c29b1 : (a0 != 4) = true := bne_iff_ne.mpr c29
   replace H := ifc H
   obtain ⟨c53, H⟩ | ⟨c53, H⟩ := H
   rotate_left
   ·have c53b0 : (a0 == 3) = false := beq_eq_false_iff_ne.mpr c53
    have c53b1 : (a0 != 3) = true := bne_iff_ne.mpr c53
    have H' := Aside0.mk H
    clear H
    go_wp2
    go_meet
    case rel => exact ⟨_, (a1), rs, H', ⟨la⟩, ⟨bw⟩⟩
   have c53b0 : (a0 == 3) = true := beq_iff_eq.mpr c53
   have c53b1 : (a0 != 3) = false := bne_eq_false_iff_eq.mpr c53
   clear c53
   replace H := ifn H
   obtain ⟨c54, H⟩ := H
   have c54b0 := eq_true c54
   have c54b1 : decide (1 + a1.size ≤ 9223372036854775807) = true := decide_eq_true c54
   have H' := Aside0.mk H
   clear H
   go_wp2
   go_meet
   case rel => exact ⟨_, ((⟨#[48]⟩ : ByteArray) ++ a1), rs, H', ⟨la⟩, ⟨bw⟩⟩
  have c29b0 : (a0 == 4) = true := beq_iff_eq.mpr c29
  have c29b1 : (a0 != 4) = false := bne_eq_false_iff_eq.mpr c29
  clear c29
  replace H := bd H
  obtain ⟨t273, A30, H⟩ := H
  replace H := ifn H
  obtain ⟨c31, H⟩ := H
  have c31b0 := eq_true c31
  have c31b1 : decide (1 ≤ 7) = true := decide_eq_true c31
  clear c31
  by_cases c32 : 7 ≤ (a1.size : Int)
  rotate_left
  ·rw [if_neg c32] at H
   exact absurd H (by simp)
  rw [if_pos c32] at H
  have c32b0 := eq_true c32
  have c32b1 : decide (7 ≤ (a1.size : Int)) = true := decide_eq_true c32
  clear c32
  replace H := ifn H
  obtain ⟨c33, H⟩ := H
  have c33b0 : decide (0 < (a1.size : Int)) = true := decide_eq_true c33
  have c33b1 : decide (0 < a1.size) = true := decide_eq_true om
  clear c33
  by_cases c35 : 7 < (a1.size : Int)
  rotate_left
  ·rw [if_neg c35] at H
   exact absurd H (by simp)
  rw [if_pos c35] at H
  have c35b0 : decide (7 < (a1.size : Int)) = true := decide_eq_true c35
  have c35b1 : decide (7 < a1.size) = true := decide_eq_true om
  clear c35
  replace H := bd H
  obtain ⟨t276, A37, H⟩ := H
  replace H := bd H
  obtain ⟨t277, A38, H⟩ := H
  replace H := bd H
  obtain ⟨t280, A39, H⟩ := H
  obtain ⟨y283, hy283⟩ : ∃ y_ : List (List Bool), y_ = (([t273, t277, t280] : List (List Bool))) := ⟨_, rfl⟩
  replace H : ((barscanref11_join.f k y283).bind fun t286 => (some t286)) = some r := by first | (rw [hy283]; with_reducible exact H) | (have H2_ := (Option.bind_some _ _).symm.trans H; rw [hy283]; with_reducible exact H2_) | (have H2_ := (Option.bind_some _ _).symm.trans H; with_reducible exact H2_) | with_reducible exact H | (rw [hy283]; exact H) | exact H
  have Ny283 := Aside0.mk hy283
  clear hy283
  replace H := bd H
  obtain ⟨t286, A40, H⟩ := H
  obtain rfl := Option.some.inj H
  try go_wp2
  have n0_ := Aside0.mk (below_drew1 HB.out)
  clear HB
  have HB := n0_
  clear n0_
  have p34 : 0 ≤ (0 : Int) := om
  have q34 : 0 < a1.size := (by have : (0 : Int) < (a1.size : Int) := of_decide_eq_true am; omega)
  have hx34 : ∀ h : 0 < a1.size, ((a1[0]'h).toNat : Int) = bt a1 0 := bt_at a1 0
  clear p34
  have qi34 : (0 < (a1.size : Int)) = True := eq_true (of_decide_eq_true am)
  replace q34 := eq_true q34
  have p36 : 0 ≤ (7 : Int) := om
  have q36 : 7 < a1.size := (by have : (7 : Int) < (a1.size : Int) := of_decide_eq_true am; omega)
  have hx36 : ∀ h : 7 < a1.size, ((a1[7]'h).toNat : Int) = bt a1 7 := bt_at a1 7
  clear p36
  have qi36 : (7 < (a1.size : Int)) = True := eq_true (of_decide_eq_true am)
  replace q36 := eq_true q36
  refine start_ (n := 17) (S := fun w' => True) (ds := []) #[false, false, false, false, false, false, false, false, false, false, false, false, false, false, false, false, false] kr rfl rfl trivial (fun hHeld => ?_); refine with_tabW barscanref11_symbol.tab5 barscanref11_symbol.bits5 (fun HT_ HW_ => ?_)
  generalize w.drew = w41 at HB hHeld ⊢
  refine pu HT_ 1 22 (h := ?_)
  refine pu HT_ 2 23 (h := ?_)
  refine pu HT_ 3 24 (h := ?_)
  refine pu HT_ 7 28 (h := ?_)
  refine tk HT_ HW_ hHeld 4 25 (h := ?_)
  refine pu HT_ 5 26 (h := ?_)
  refine pu HT_ 6 27 (h := ?_)
  refine tk HT_ HW_ hHeld 8 29 (h := ?_)
  refine pu HT_ 9 30 (h := ?_)
  refine pu HT_ 10 31 (h := ?_)
  refine on HT_ 0 21 (h := fun K hK => ?_)
  refine goes_ Tryz.func67 kr rfl #[.string (⟨#[49, 48, 49]⟩ : ByteArray)] (by rfl) rfl rfl (by (try simp only [List.map_toArray, List.map_cons, List.map_nil]); first | done | rfl | (simp only [List.length_drop, List.length_take]; rfl) | (go_simp; done) | (go_simp; rfl)) ?_
  with_reducible refine (barscanref11_modules.calls k (⟨#[49, 48, 49]⟩ : ByteArray) t273 _ A30.out).mono ?_
  rintro e w42 ⟨v274, rfl, ho0, hb⟩
  refine ⟨_, rfl, ?_⟩
  have n0_ := Aside0.mk (Kd.R_lower ho0 (below_size bw))
  have n1_ := Aside0.mk (below_step bw hb)
  clear HB
  have HO275 := n0_
  have HB := n1_
  clear n0_ n1_
  (try clear hb)
  (try clear hb2)
  (try clear hk)
  (try clear hi)
  (try clear ho0)
  refine hK.out _ _ trivial (fun hHeld => ?_)
  clear hK K
  refine norm_ (a' := ?_) ?_ ?_
  rotate_left
  ·show Act.put _ (some 21) _ = _
   simp only [Act.put, List.setIfInBounds_toArray, List.set_cons_zero, List.set_cons_succ, i64_w]
   rfl
  refine on HT_ 11 32 (h := fun K hK => ?_)
  refine goes_ Tryz.func69 kr rfl #[.int .i64 (((bt a1 0) - 48) % 256), .int .i64 (((bt a1 7) - 48) % 256)] (by rfl) rfl rfl (by (try simp only [List.map_toArray, List.map_cons, List.map_nil]); first | done | rfl | (simp only [List.length_drop, List.length_take]; rfl) | (go_simp; done) | (go_simp; rfl)) ?_
  with_reducible refine (barscanref11_setsE.calls k (((bt a1 0) - 48) % 256) (((bt a1 7) - 48) % 256) t276 _ A37.out).mono ?_
  rintro e w43 ⟨rfl, hb⟩
  refine ⟨_, rfl, ?_⟩
  have n0_ := Aside0.mk (Kd.R_below (kd HO275) hb)
  have n1_ := Aside0.mk (below_step bw hb)
  clear HO275
  clear HB
  have HO275 := n0_
  have HB := n1_
  clear n0_ n1_
  (try clear hb)
  (try clear hb2)
  (try clear hk)
  (try clear hi)
  refine hK.out _ _ trivial (fun hHeld => ?_)
  clear hK K
  refine norm_ (a' := ?_) ?_ ?_
  rotate_left
  ·show Act.put _ (some 32) _ = _
   simp only [Act.put, List.setIfInBounds_toArray, List.set_cons_zero, List.set_cons_succ, i64_w]
   rfl
  refine on HT_ 12 33 (h := fun K hK => ?_)
  refine goes_ Tryz.func68 kr rfl #[.string (a1.extract 1 7), .string t276, .string (⟨#[]⟩ : ByteArray)] (by rfl) rfl rfl (by (try simp only [List.map_toArray, List.map_cons, List.map_nil]); first | done | rfl | (simp only [List.length_drop, List.length_take]; rfl) | (go_simp; done) | (go_simp; rfl)) ?_
  with_reducible refine (barscanref11_row.calls k (a1.extract 1 7) t276 (⟨#[]⟩ : ByteArray) t277 _ A38.out).mono ?_
  rintro e w44 ⟨v278, rfl, ho0, hb⟩
  refine ⟨_, rfl, ?_⟩
  have n0_ := Aside0.mk (Kd.R_elder' (kd HO275) (Kd.R_base ho0) hb)
  have n1_ := Aside0.mk (Kd.R_lower (Kd.R_new' ho0 (Kd.R_lt (kd HO275))) (below_size bw))
  have n2_ := Aside0.mk (below_step bw hb)
  clear HO275
  clear HB
  have HO275 := n0_
  have HO279 := n1_
  have HB := n2_
  clear n0_ n1_ n2_
  (try clear hb)
  (try clear hb2)
  (try clear hk)
  (try clear hi)
  (try clear ho0)
  refine hK.out _ _ trivial (fun hHeld => ?_)
  clear hK K
  refine norm_ (a' := ?_) ?_ ?_
  rotate_left
  ·show Act.put _ (some 33) _ = _
   simp only [Act.put, List.setIfInBounds_toArray, List.set_cons_zero, List.set_cons_succ, i64_w]
   rfl
  refine on HT_ 13 34 (h := fun K hK => ?_)
  refine goes_ Tryz.func67 kr rfl #[.string (⟨#[48, 49, 48, 49, 48, 49]⟩ : ByteArray)] (by rfl) rfl rfl (by (try simp only [List.map_toArray, List.map_cons, List.map_nil]); first | done | rfl | (simp only [List.length_drop, List.length_take]; rfl) | (go_simp; done) | (go_simp; rfl)) ?_
  with_reducible refine (barscanref11_modules.calls k (⟨#[48, 49, 48, 49, 48, 49]⟩ : ByteArray) t280 _ A39.out).mono ?_
  rintro e w45 ⟨v281, rfl, ho0, hb⟩
  refine ⟨_, rfl, ?_⟩
  have n0_ := Aside0.mk (Kd.R_elder' (kd HO275) (Kd.R_base ho0) hb)
  have n1_ := Aside0.mk (Kd.R_elder' (kd HO279) (Kd.R_base ho0) hb)
  have n2_ := Aside0.mk (Kd.R_lower (Kd.R_new' (Kd.R_new' ho0 (Kd.R_lt (kd HO275))) (Kd.R_lt (kd HO279))) (below_size bw))
  have n3_ := Aside0.mk (below_step bw hb)
  clear HO275
  clear HO279
  clear HB
  have HO275 := n0_
  have HO279 := n1_
  have HO282 := n2_
  have HB := n3_
  clear n0_ n1_ n2_ n3_
  (try clear hb)
  (try clear hb2)
  (try clear hk)
  (try clear hi)
  (try clear ho0)
  obtain ⟨Ao46, co46, eo46⟩ := Kd.R_slice HO275.out
  (first | subst eo46 | (injection eo46 with f1_ f2_ f3_; have f4_ := f1_.symm; have f5_ := f3_.symm; clear f1_ f2_ f3_; subst f4_; subst f5_))
  obtain ⟨Ao47, co47, eo47⟩ := Kd.R_slice HO279.out
  (first | subst eo47 | (injection eo47 with f1_ f2_ f3_; have f4_ := f1_.symm; have f5_ := f3_.symm; clear f1_ f2_ f3_; subst f4_; subst f5_))
  obtain ⟨Ao48, co48, eo48⟩ := Kd.R_slice HO282.out
  (first | subst eo48 | (injection eo48 with f1_ f2_ f3_; have f4_ := f1_.symm; have f5_ := f3_.symm; clear f1_ f2_ f3_; subst f4_; subst f5_))
  refine hK.out _ _ trivial (fun hHeld => ?_)
  clear hK K
  refine norm_ (a' := ?_) ?_ ?_
  rotate_left
  ·show Act.put _ (some 34) _ = _
   simp only [Act.put, List.setIfInBounds_toArray, List.set_cons_zero, List.set_cons_succ, i64_w]
   rfl
  refine on HT_ 14 35 (h := fun K hK => ?_)
  refine Kd.N_lit_step (Kd.slice 4 Kd.bool) _ 23 ?hg (N' := 35) ?hd (xs := ([t273, t277, t280] : List (List Bool))) (inner := [.slice Ao46 t273.length co46, .slice Ao47 t277.length co47, .slice Ao48 t280.length co48]) (ok := (fun _ => True)) (okp := (fun _ => True)) ?hr ?hp (fun _ hk => hk) ((show ∀ k_, w45.heap.size ≤ k_ → (fun _ => True) k_ from fun k_ hk => trivial) _ (Nat.le_refl _)) (Below.refl _ _) (Nat.le_refl _) (by simp) ?_; (case hd => rfl); (case hg => rfl); (case hr => first | (go_simp; done) | (go_simp; rfl)); (case hp => exact (Reps.one (show Kd.FK (Kd.slice 4 Kd.bool) _ _ t273 [.slice Ao46 t273.length co46] from (Kd.FK_slice_mk (Kd.R_reads' (Kd.R_mono (ok' := (fun _ => True)) (HO275.out) (fun k_ hk => trivial))).2.1 (Kd.R_F (Kd.R_mono (ok' := (fun _ => True)) (HO275.out) (fun k_ hk => trivial))))) (Reps.one (show Kd.FK (Kd.slice 4 Kd.bool) _ _ t277 [.slice Ao47 t277.length co47] from (Kd.FK_slice_mk (Kd.R_reads' (Kd.R_mono (ok' := (fun _ => True)) (HO279.out) (fun k_ hk => trivial))).2.1 (Kd.R_F (Kd.R_mono (ok' := (fun _ => True)) (HO279.out) (fun k_ hk => trivial))))) (Reps.one (show Kd.FK (Kd.slice 4 Kd.bool) _ _ t280 [.slice Ao48 t280.length co48] from (Kd.FK_slice_mk (Kd.R_reads' (Kd.R_mono (ok' := (fun _ => True)) (HO282.out) (fun k_ hk => trivial))).2.1 (Kd.R_F (Kd.R_mono (ok' := (fun _ => True)) (HO282.out) (fun k_ hk => trivial))))) (Reps.none _ _)))))
  intro v284 w49 ho50 hb hg_ hnew_
  clear hg_ hnew_
  (first | rw [← Ny283.out] at ho50 | (simp only [Int.reduceToNat] at ho50; rw [← Ny283.out] at ho50))
  have n0_ := Aside0.mk (Kd.N_lower ho50 (below_size bw))
  have n1_ := Aside0.mk (below_step bw hb)
  clear HB
  clear HO275
  clear HO279
  clear HO282
  have HO285 := n0_
  have HB := n1_
  clear n0_ n1_
  clear hb ho50
  obtain ⟨Ao51, co51, eo51⟩ := Kd.N_slice HO285.out
  (first | subst eo51 | (injection eo51 with f1_ f2_ f3_; have f4_ := f1_.symm; have f5_ := f3_.symm; clear f1_ f2_ f3_; subst f4_; subst f5_))
  refine hK.out _ _ trivial (fun hHeld => ?_)
  clear hK K
  refine norm_ (a' := ?_) ?_ ?_
  rotate_left
  ·show Act.put _ (some 35) _ = _
   simp only [Act.put, List.setIfInBounds_toArray, List.set_cons_zero, List.set_cons_succ, i64_w]
   rfl
  refine on HT_ 15 36 (h := fun K hK => ?_)
  refine goes_ Tryz.func36 kr rfl #[.slice Ao51 y283.length co51] (by rfl) rfl rfl (by (try simp only [List.map_toArray, List.map_cons, List.map_nil]); first | done | rfl | (simp only [List.length_drop, List.length_take]; rfl) | (go_simp; done) | (go_simp; rfl)) ?_
  with_reducible refine (barscanref11_join.calls k _ _ y283 t286 _ ?side1 ?side2 A40.out).mono ?_
  (case side1 => repeat (first | exact (Kd.N_reads' HO285.out).2.2 | (with_reducible refine Kd.C_alloc ?_ _) | (with_reducible refine Kd.C_drewN ?_ _) | (with_reducible refine Kd.C_drew ?_)))
  (case side2 => exact (Kd.N_reads' HO285.out).2.1)
  rintro e w52 ⟨v287, rfl, ho0, hb⟩
  refine ⟨_, rfl, ?_⟩
  have n0_ := Aside0.mk (Kd.N_elder' (by (with_reducible repeat (first | apply Kd.N_alloc | apply Kd.N_drewN | apply Kd.N_drew)); exact HO285.out) (Kd.R_base ho0) hb)
  have n1_ := Aside0.mk (Kd.R_lower ho0 (below_size bw))
  have n2_ := Aside0.mk (below_step bw hb)
  clear HO285
  clear HB
  have HO285 := n0_
  have HO288 := n1_
  have HB := n2_
  clear n0_ n1_ n2_
  (try clear hb)
  (try clear hb2)
  (try clear hk)
  (try clear hi)
  (try clear ho0)
  refine hK.out _ _ trivial (fun hHeld => ?_)
  clear hK K
  refine norm_ (a' := ?_) ?_ ?_
  rotate_left
  ·show Act.put _ (some 36) _ = _
   simp only [Act.put, List.setIfInBounds_toArray, List.set_cons_zero, List.set_cons_succ, i64_w]
   rfl
  refine pu HT_ 16 4 (h := ?_)
  refine done_ (done_of HT_.out kr) ?_
  try go_wp2
  go_ret
  exact ⟨_, es, kd HO288, bw⟩
 case rest =>
  clear HC3
  try clear c2
  try clear p2
  try clear c3
  try clear p3
  try clear q3
  try clear hx3
  try clear qi3
  try clear c4
  try clear c4b0
  try clear c4b1
  try clear c5
  try clear c6
  try clear c7
  try clear c29
  try clear c29b0
  try clear c29b1
  try clear c31
  try clear c31b0
  try clear c31b1
  try clear c32
  try clear c32b0
  try clear c32b1
  try clear c33
  try clear c33b0
  try clear c33b1
  try clear p34
  try clear q34
  try clear hx34
  try clear qi34
  try clear c35
  try clear c35b0
  try clear c35b1
  try clear c36
  try clear p36
  try clear q36
  try clear hx36
  try clear qi36
  try clear c53
  try clear c53b0
  try clear c53b1
  try clear c54
  try clear c54b0
  try clear c54b1
  try clear c54b2
  try clear p34
  try clear p36
  try clear q34
  try clear q36
  obtain ⟨kq, x1_2, rfl, HA, HJ2, HB⟩ := hcut
  cases kq with
  | zero => exact absurd HA.out (by simp [barscanref11_symbol.j0])
  | succ kj2 =>
   have H := HA.out
   clear HA
   simp only [barscanref11_symbol.j0] at H
   replace H := bd H
   obtain ⟨t289, A55, H⟩ := H
   replace H := ifc H
   obtain ⟨c56, H⟩ | ⟨c56, H⟩ := H
   rotate_left
   ·exact absurd H (by simp)
   have c56b0 := eq_true c56
   have c56b1 : decide (1 ≤ 7) = true := decide_eq_true c56
   clear c56
   replace H := ifn H
   obtain ⟨c57, H⟩ := H
   have c57b0 := eq_true c57
   have c57b1 : decide (7 ≤ (x1_2.size : Int)) = true := decide_eq_true c57
   clear c57
   by_cases c58 : 0 < (x1_2.size : Int)
   rotate_left
   ·rw [if_neg c58] at H
    exact absurd H (by simp)
   rw [if_pos c58] at H
   have c58b0 : decide (0 < (x1_2.size : Int)) = true := decide_eq_true c58
   have c58b1 : decide (0 < x1_2.size) = true := decide_eq_true om
   clear c58
   replace H := bd H
   obtain ⟨t292, A60, H⟩ := H
   replace H := bd H
   obtain ⟨t293, A61, H⟩ := H
   replace H := bd H
   obtain ⟨t296, A62, H⟩ := H
   have c63b0 := eq_true (of_decide_eq_true am : 7 ≤ (x1_2.size : Int))
   replace H := bd H
   obtain ⟨t299, A64, H⟩ := H
   replace H := bd H
   obtain ⟨t302, A65, H⟩ := H
   obtain ⟨y305, hy305⟩ : ∃ y_ : List (List Bool), y_ = (([t289, t293, t296, t299, t302] : List (List Bool))) := ⟨_, rfl⟩
   replace H : ((barscanref11_join.f kj2 y305).bind fun t308 => (some t308)) = some r := by first | (rw [hy305]; with_reducible exact H) | (have H2_ := (Option.bind_some _ _).symm.trans H; rw [hy305]; with_reducible exact H2_) | (have H2_ := (Option.bind_some _ _).symm.trans H; with_reducible exact H2_) | with_reducible exact H | (rw [hy305]; exact H) | exact H
   have Ny305 := Aside0.mk hy305
   clear hy305
   replace H := bd H
   obtain ⟨t308, A66, H⟩ := H
   obtain rfl := Option.some.inj H
   try go_wp2
   have n0_ := Aside0.mk (below_drew1 HB.out)
   clear HB
   have HB := n0_
   clear n0_
   have p59 : 0 ≤ (0 : Int) := om
   have q59 : 0 < x1_2.size := (by have : (0 : Int) < (x1_2.size : Int) := of_decide_eq_true am; omega)
   have hx59 : ∀ h : 0 < x1_2.size, ((x1_2[0]'h).toNat : Int) = bt x1_2 0 := bt_at x1_2 0
   clear p59
   have qi59 : (0 < (x1_2.size : Int)) = True := eq_true (of_decide_eq_true am)
   replace q59 := eq_true q59
   refine start_ (n := 17) (S := fun w' => True) (ds := []) #[false, false, false, false, false, false, false, false, false, false, false, false, false, false, false, false, false] kr rfl rfl trivial (fun hHeld => ?_); refine with_tabW barscanref11_symbol.tab8 barscanref11_symbol.bits8 (fun HT_ HW_ => ?_)
   generalize wc.drew = w67 at HB hHeld ⊢
   refine pu HT_ 1 42 (h := ?_)
   refine pu HT_ 2 43 (h := ?_)
   refine pu HT_ 3 44 (h := ?_)
   refine pu HT_ 10 51 (h := ?_)
   refine pu HT_ 11 52 (h := ?_)
   refine tk HT_ HW_ hHeld 4 45 (h := ?_)
   refine pu HT_ 5 46 (h := ?_)
   refine pu HT_ 6 47 (h := ?_)
   refine on HT_ 0 41 (h := fun K hK => ?_)
   refine goes_ Tryz.func67 kr rfl #[.string (⟨#[49, 48, 49]⟩ : ByteArray)] (by rfl) rfl rfl (by (try simp only [List.map_toArray, List.map_cons, List.map_nil]); first | done | rfl | (simp only [List.length_drop, List.length_take]; rfl) | (go_simp; done) | (go_simp; rfl)) ?_
   with_reducible refine (barscanref11_modules.calls kj2 (⟨#[49, 48, 49]⟩ : ByteArray) t289 _ A55.out).mono ?_
   rintro e w68 ⟨v290, rfl, ho0, hb⟩
   refine ⟨_, rfl, ?_⟩
   have n0_ := Aside0.mk (Kd.R_lower ho0 (below_size bw))
   have n1_ := Aside0.mk (below_step bw hb)
   clear HB
   have HO291 := n0_
   have HB := n1_
   clear n0_ n1_
   (try clear hb)
   (try clear hb2)
   (try clear hk)
   (try clear hi)
   (try clear ho0)
   refine hK.out _ _ trivial (fun hHeld => ?_)
   clear hK K
   refine norm_ (a' := ?_) ?_ ?_
   rotate_left
   ·show Act.put _ (some 41) _ = _
    simp only [Act.put, List.setIfInBounds_toArray, List.set_cons_zero, List.set_cons_succ, i64_w]
    rfl
   refine on HT_ 7 48 (h := fun K hK => ?_)
   refine goes_ Tryz.func70 kr rfl #[.int .i64 (((bt x1_2 0) - 48) % 256)] (by rfl) rfl rfl (by (try simp only [List.map_toArray, List.map_cons, List.map_nil]); first | done | rfl | (simp only [List.length_drop, List.length_take]; rfl) | (go_simp; done) | (go_simp; rfl)) ?_
   with_reducible refine (barscanref11_sets13.calls (((bt x1_2 0) - 48) % 256) t292 _ A60.out).mono ?_
   rintro e w69 ⟨rfl, hb⟩
   refine ⟨_, rfl, ?_⟩
   have n0_ := Aside0.mk (Kd.R_below (kd HO291) hb)
   have n1_ := Aside0.mk (below_step bw hb)
   clear HO291
   clear HB
   have HO291 := n0_
   have HB := n1_
   clear n0_ n1_
   (try clear hb)
   (try clear hb2)
   (try clear hk)
   (try clear hi)
   refine hK.out _ _ trivial (fun hHeld => ?_)
   clear hK K
   refine norm_ (a' := ?_) ?_ ?_
   rotate_left
   ·show Act.put _ (some 48) _ = _
    simp only [Act.put, List.setIfInBounds_toArray, List.set_cons_zero, List.set_cons_succ, i64_w]
    rfl
   refine on HT_ 8 49 (h := fun K hK => ?_)
   refine goes_ Tryz.func68 kr rfl #[.string (x1_2.extract 1 7), .string t292, .string (⟨#[]⟩ : ByteArray)] (by rfl) rfl rfl (by (try simp only [List.map_toArray, List.map_cons, List.map_nil]); first | done | rfl | (simp only [List.length_drop, List.length_take]; rfl) | (go_simp; done) | (go_simp; rfl)) ?_
   with_reducible refine (barscanref11_row.calls kj2 (x1_2.extract 1 7) t292 (⟨#[]⟩ : ByteArray) t293 _ A61.out).mono ?_
   rintro e w70 ⟨v294, rfl, ho0, hb⟩
   refine ⟨_, rfl, ?_⟩
   have n0_ := Aside0.mk (Kd.R_elder' (kd HO291) (Kd.R_base ho0) hb)
   have n1_ := Aside0.mk (Kd.R_lower (Kd.R_new' ho0 (Kd.R_lt (kd HO291))) (below_size bw))
   have n2_ := Aside0.mk (below_step bw hb)
   clear HO291
   clear HB
   have HO291 := n0_
   have HO295 := n1_
   have HB := n2_
   clear n0_ n1_ n2_
   (try clear hb)
   (try clear hb2)
   (try clear hk)
   (try clear hi)
   (try clear ho0)
   refine hK.out _ _ trivial (fun hHeld => ?_)
   clear hK K
   refine norm_ (a' := ?_) ?_ ?_
   rotate_left
   ·show Act.put _ (some 49) _ = _
    simp only [Act.put, List.setIfInBounds_toArray, List.set_cons_zero, List.set_cons_succ, i64_w]
    rfl
   refine on HT_ 9 50 (h := fun K hK => ?_)
   refine goes_ Tryz.func67 kr rfl #[.string (⟨#[48, 49, 48, 49, 48]⟩ : ByteArray)] (by rfl) rfl rfl (by (try simp only [List.map_toArray, List.map_cons, List.map_nil]); first | done | rfl | (simp only [List.length_drop, List.length_take]; rfl) | (go_simp; done) | (go_simp; rfl)) ?_
   with_reducible refine (barscanref11_modules.calls kj2 (⟨#[48, 49, 48, 49, 48]⟩ : ByteArray) t296 _ A62.out).mono ?_
   rintro e w71 ⟨v297, rfl, ho0, hb⟩
   refine ⟨_, rfl, ?_⟩
   have n0_ := Aside0.mk (Kd.R_elder' (kd HO291) (Kd.R_base ho0) hb)
   have n1_ := Aside0.mk (Kd.R_elder' (kd HO295) (Kd.R_base ho0) hb)
   have n2_ := Aside0.mk (Kd.R_lower (Kd.R_new' (Kd.R_new' ho0 (Kd.R_lt (kd HO291))) (Kd.R_lt (kd HO295))) (below_size bw))
   have n3_ := Aside0.mk (below_step bw hb)
   clear HO291
   clear HO295
   clear HB
   have HO291 := n0_
   have HO295 := n1_
   have HO298 := n2_
   have HB := n3_
   clear n0_ n1_ n2_ n3_
   (try clear hb)
   (try clear hb2)
   (try clear hk)
   (try clear hi)
   (try clear ho0)
   refine hK.out _ _ trivial (fun hHeld => ?_)
   clear hK K
   refine norm_ (a' := ?_) ?_ ?_
   rotate_left
   ·show Act.put _ (some 50) _ = _
    simp only [Act.put, List.setIfInBounds_toArray, List.set_cons_zero, List.set_cons_succ, i64_w]
    rfl
   refine on HT_ 12 53 (h := fun K hK => ?_)
   refine goes_ Tryz.func68 kr rfl #[.string (x1_2.extract 7 x1_2.size), .string (⟨#[50, 50, 50, 50, 50, 50]⟩ : ByteArray), .string (⟨#[]⟩ : ByteArray)] (by rfl) rfl rfl (by (try simp only [List.map_toArray, List.map_cons, List.map_nil]); first | done | rfl | (simp only [List.length_drop, List.length_take]; rfl) | (go_simp; done) | (go_simp; rfl)) ?_
   with_reducible refine (barscanref11_row.calls kj2 (x1_2.extract 7 x1_2.size) (⟨#[50, 50, 50, 50, 50, 50]⟩ : ByteArray) (⟨#[]⟩ : ByteArray) t299 _ A64.out).mono ?_
   rintro e w72 ⟨v300, rfl, ho0, hb⟩
   refine ⟨_, rfl, ?_⟩
   have n0_ := Aside0.mk (Kd.R_elder' (kd HO291) (Kd.R_base ho0) hb)
   have n1_ := Aside0.mk (Kd.R_elder' (kd HO295) (Kd.R_base ho0) hb)
   have n2_ := Aside0.mk (Kd.R_elder' (kd HO298) (Kd.R_base ho0) hb)
   have n3_ := Aside0.mk (Kd.R_lower (Kd.R_new' (Kd.R_new' (Kd.R_new' ho0 (Kd.R_lt (kd HO291))) (Kd.R_lt (kd HO295))) (Kd.R_lt (kd HO298))) (below_size bw))
   have n4_ := Aside0.mk (below_step bw hb)
   clear HO291
   clear HO295
   clear HO298
   clear HB
   have HO291 := n0_
   have HO295 := n1_
   have HO298 := n2_
   have HO301 := n3_
   have HB := n4_
   clear n0_ n1_ n2_ n3_ n4_
   (try clear hb)
   (try clear hb2)
   (try clear hk)
   (try clear hi)
   (try clear ho0)
   refine hK.out _ _ trivial (fun hHeld => ?_)
   clear hK K
   refine norm_ (a' := ?_) ?_ ?_
   rotate_left
   ·show Act.put _ (some 53) _ = _
    simp only [Act.put, List.setIfInBounds_toArray, List.set_cons_zero, List.set_cons_succ, i64_w]
    rfl
   refine on HT_ 13 54 (h := fun K hK => ?_)
   refine goes_ Tryz.func67 kr rfl #[.string (⟨#[49, 48, 49]⟩ : ByteArray)] (by rfl) rfl rfl (by (try simp only [List.map_toArray, List.map_cons, List.map_nil]); first | done | rfl | (simp only [List.length_drop, List.length_take]; rfl) | (go_simp; done) | (go_simp; rfl)) ?_
   with_reducible refine (barscanref11_modules.calls kj2 (⟨#[49, 48, 49]⟩ : ByteArray) t302 _ A65.out).mono ?_
   rintro e w73 ⟨v303, rfl, ho0, hb⟩
   refine ⟨_, rfl, ?_⟩
   have n0_ := Aside0.mk (Kd.R_elder' (kd HO291) (Kd.R_base ho0) hb)
   have n1_ := Aside0.mk (Kd.R_elder' (kd HO295) (Kd.R_base ho0) hb)
   have n2_ := Aside0.mk (Kd.R_elder' (kd HO298) (Kd.R_base ho0) hb)
   have n3_ := Aside0.mk (Kd.R_elder' (kd HO301) (Kd.R_base ho0) hb)
   have n4_ := Aside0.mk (Kd.R_lower (Kd.R_new' (Kd.R_new' (Kd.R_new' (Kd.R_new' ho0 (Kd.R_lt (kd HO291))) (Kd.R_lt (kd HO295))) (Kd.R_lt (kd HO298))) (Kd.R_lt (kd HO301))) (below_size bw))
   have n5_ := Aside0.mk (below_step bw hb)
   clear HO291
   clear HO295
   clear HO298
   clear HO301
   clear HB
   have HO291 := n0_
   have HO295 := n1_
   have HO298 := n2_
   have HO301 := n3_
   have HO304 := n4_
   have HB := n5_
   clear n0_ n1_ n2_ n3_ n4_ n5_
   (try clear hb)
   (try clear hb2)
   (try clear hk)
   (try clear hi)
   (try clear ho0)
   obtain ⟨Ao74, co74, eo74⟩ := Kd.R_slice HO291.out
   (first | subst eo74 | (injection eo74 with f1_ f2_ f3_; have f4_ := f1_.symm; have f5_ := f3_.symm; clear f1_ f2_ f3_; subst f4_; subst f5_))
   obtain ⟨Ao75, co75, eo75⟩ := Kd.R_slice HO295.out
   (first | subst eo75 | (injection eo75 with f1_ f2_ f3_; have f4_ := f1_.symm; have f5_ := f3_.symm; clear f1_ f2_ f3_; subst f4_; subst f5_))
   obtain ⟨Ao76, co76, eo76⟩ := Kd.R_slice HO298.out
   (first | subst eo76 | (injection eo76 with f1_ f2_ f3_; have f4_ := f1_.symm; have f5_ := f3_.symm; clear f1_ f2_ f3_; subst f4_; subst f5_))
   obtain ⟨Ao77, co77, eo77⟩ := Kd.R_slice HO301.out
   (first | subst eo77 | (injection eo77 with f1_ f2_ f3_; have f4_ := f1_.symm; have f5_ := f3_.symm; clear f1_ f2_ f3_; subst f4_; subst f5_))
   obtain ⟨Ao78, co78, eo78⟩ := Kd.R_slice HO304.out
   (first | subst eo78 | (injection eo78 with f1_ f2_ f3_; have f4_ := f1_.symm; have f5_ := f3_.symm; clear f1_ f2_ f3_; subst f4_; subst f5_))
   refine hK.out _ _ trivial (fun hHeld => ?_)
   clear hK K
   refine norm_ (a' := ?_) ?_ ?_
   rotate_left
   ·show Act.put _ (some 54) _ = _
    simp only [Act.put, List.setIfInBounds_toArray, List.set_cons_zero, List.set_cons_succ, i64_w]
    rfl
   refine on HT_ 14 55 (h := fun K hK => ?_)
   refine Kd.N_lit_step (Kd.slice 4 Kd.bool) _ 23 ?hg (N' := 55) ?hd (xs := ([t289, t293, t296, t299, t302] : List (List Bool))) (inner := [.slice Ao74 t289.length co74, .slice Ao75 t293.length co75, .slice Ao76 t296.length co76, .slice Ao77 t299.length co77, .slice Ao78 t302.length co78]) (ok := (fun _ => True)) (okp := (fun _ => True)) ?hr ?hp (fun _ hk => hk) ((show ∀ k_, w73.heap.size ≤ k_ → (fun _ => True) k_ from fun k_ hk => trivial) _ (Nat.le_refl _)) (Below.refl _ _) (Nat.le_refl _) (by simp) ?_; (case hd => rfl); (case hg => rfl); (case hr => first | (go_simp; done) | (go_simp; rfl)); (case hp => exact (Reps.one (show Kd.FK (Kd.slice 4 Kd.bool) _ _ t289 [.slice Ao74 t289.length co74] from (Kd.FK_slice_mk (Kd.R_reads' (Kd.R_mono (ok' := (fun _ => True)) (HO291.out) (fun k_ hk => trivial))).2.1 (Kd.R_F (Kd.R_mono (ok' := (fun _ => True)) (HO291.out) (fun k_ hk => trivial))))) (Reps.one (show Kd.FK (Kd.slice 4 Kd.bool) _ _ t293 [.slice Ao75 t293.length co75] from (Kd.FK_slice_mk (Kd.R_reads' (Kd.R_mono (ok' := (fun _ => True)) (HO295.out) (fun k_ hk => trivial))).2.1 (Kd.R_F (Kd.R_mono (ok' := (fun _ => True)) (HO295.out) (fun k_ hk => trivial))))) (Reps.one (show Kd.FK (Kd.slice 4 Kd.bool) _ _ t296 [.slice Ao76 t296.length co76] from (Kd.FK_slice_mk (Kd.R_reads' (Kd.R_mono (ok' := (fun _ => True)) (HO298.out) (fun k_ hk => trivial))).2.1 (Kd.R_F (Kd.R_mono (ok' := (fun _ => True)) (HO298.out) (fun k_ hk => trivial))))) (Reps.one (show Kd.FK (Kd.slice 4 Kd.bool) _ _ t299 [.slice Ao77 t299.length co77] from (Kd.FK_slice_mk (Kd.R_reads' (Kd.R_mono (ok' := (fun _ => True)) (HO301.out) (fun k_ hk => trivial))).2.1 (Kd.R_F (Kd.R_mono (ok' := (fun _ => True)) (HO301.out) (fun k_ hk => trivial))))) (Reps.one (show Kd.FK (Kd.slice 4 Kd.bool) _ _ t302 [.slice Ao78 t302.length co78] from (Kd.FK_slice_mk (Kd.R_reads' (Kd.R_mono (ok' := (fun _ => True)) (HO304.out) (fun k_ hk => trivial))).2.1 (Kd.R_F (Kd.R_mono (ok' := (fun _ => True)) (HO304.out) (fun k_ hk => trivial))))) (Reps.none _ _)))))))
   intro v306 w79 ho80 hb hg_ hnew_
   clear hg_ hnew_
   (first | rw [← Ny305.out] at ho80 | (simp only [Int.reduceToNat] at ho80; rw [← Ny305.out] at ho80))
   have n0_ := Aside0.mk (Kd.N_lower ho80 (below_size bw))
   have n1_ := Aside0.mk (below_step bw hb)
   clear HB
   clear HO291
   clear HO295
   clear HO298
   clear HO301
   clear HO304
   have HO307 := n0_
   have HB := n1_
   clear n0_ n1_
   clear hb ho80
   obtain ⟨Ao81, co81, eo81⟩ := Kd.N_slice HO307.out
   (first | subst eo81 | (injection eo81 with f1_ f2_ f3_; have f4_ := f1_.symm; have f5_ := f3_.symm; clear f1_ f2_ f3_; subst f4_; subst f5_))
   refine hK.out _ _ trivial (fun hHeld => ?_)
   clear hK K
   refine norm_ (a' := ?_) ?_ ?_
   rotate_left
   ·show Act.put _ (some 55) _ = _
    simp only [Act.put, List.setIfInBounds_toArray, List.set_cons_zero, List.set_cons_succ, i64_w]
    rfl
   refine on HT_ 15 56 (h := fun K hK => ?_)
   refine goes_ Tryz.func36 kr rfl #[.slice Ao81 y305.length co81] (by rfl) rfl rfl (by (try simp only [List.map_toArray, List.map_cons, List.map_nil]); first | done | rfl | (simp only [List.length_drop, List.length_take]; rfl) | (go_simp; done) | (go_simp; rfl)) ?_
   with_reducible refine (barscanref11_join.calls kj2 _ _ y305 t308 _ ?side1 ?side2 A66.out).mono ?_
   (case side1 => repeat (first | exact (Kd.N_reads' HO307.out).2.2 | (with_reducible refine Kd.C_alloc ?_ _) | (with_reducible refine Kd.C_drewN ?_ _) | (with_reducible refine Kd.C_drew ?_)))
   (case side2 => exact (Kd.N_reads' HO307.out).2.1)
   rintro e w82 ⟨v309, rfl, ho0, hb⟩
   refine ⟨_, rfl, ?_⟩
   have n0_ := Aside0.mk (Kd.N_elder' (by (with_reducible repeat (first | apply Kd.N_alloc | apply Kd.N_drewN | apply Kd.N_drew)); exact HO307.out) (Kd.R_base ho0) hb)
   have n1_ := Aside0.mk (Kd.R_lower ho0 (below_size bw))
   have n2_ := Aside0.mk (below_step bw hb)
   clear HO307
   clear HB
   have HO307 := n0_
   have HO310 := n1_
   have HB := n2_
   clear n0_ n1_ n2_
   (try clear hb)
   (try clear hb2)
   (try clear hk)
   (try clear hi)
   (try clear ho0)
   refine hK.out _ _ trivial (fun hHeld => ?_)
   clear hK K
   refine norm_ (a' := ?_) ?_ ?_
   rotate_left
   ·show Act.put _ (some 56) _ = _
    simp only [Act.put, List.setIfInBounds_toArray, List.set_cons_zero, List.set_cons_succ, i64_w]
    rfl
   refine pu HT_ 16 4 (h := ?_)
   refine done_ (done_of HT_.out kr) ?_
   try go_wp2
   go_ret
   exact ⟨_, es, kd HO310, bw⟩

end Go.Proofs.YtjmeekceecpemaaGreatDoor.Q

namespace Go.Proofs.YtjmeekceecpemaaGreatDoor.Q
open Go.RowKit Go.Proofs.YtjmeekceecpemaaGreatDoorW.PrintWords Go.Proofs.YtjmeekceecpemaaGreatDoorW.PrintLast Go.Proofs.YtjmeekceecpemaaGreatDoorW.PrintMore

set_option linter.unusedVariables false
set_option linter.unusedSimpArgs false

/-! ### barscanref11_setsAddOn: function 71 -/
def barscanref11_setsAddOn.f (a0 : ByteArray) : Option (ByteArray) := if (a0.size : Int) = 2 then ((some (([(⟨#[48, 48]⟩ : ByteArray), (⟨#[48, 49]⟩ : ByteArray), (⟨#[49, 48]⟩ : ByteArray), (⟨#[49, 49]⟩ : ByteArray)] : List ByteArray) : List ByteArray)).bind fun y311 => (if 0 < (a0.size : Int) then (if 1 < (a0.size : Int) then (if 0 ≤ (((10 * (((bt a0 0) - 48) % 256)) + (((bt a0 1) - 48) % 256)) % 4) then (if (((10 * (((bt a0 0) - 48) % 256)) + (((bt a0 1) - 48) % 256)) % 4) < (y311.length : Int) then (some (rdOf ByteArray.empty y311 (((10 * (((bt a0 0) - 48) % 256)) + (((bt a0 1) - 48) % 256)) % 4))) else (none)) else (none)) else (none)) else (none))) else (if 0 < (a0.size : Int) then (if 2 < (a0.size : Int) then (if 4 < (a0.size : Int) then (if 1 < (a0.size : Int) then (if 3 < (a0.size : Int) then ((some (([(⟨#[49, 49, 48, 48, 48]⟩ : ByteArray), (⟨#[49, 48, 49, 48, 48]⟩ : ByteArray), (⟨#[49, 48, 48, 49, 48]⟩ : ByteArray), (⟨#[49, 48, 48, 48, 49]⟩ : ByteArray), (⟨#[48, 49, 49, 48, 48]⟩ : ByteArray), (⟨#[48, 48, 49, 49, 48]⟩ : ByteArray), (⟨#[48, 48, 48, 49, 49]⟩ : ByteArray), (⟨#[48, 49, 48, 49, 48]⟩ : ByteArray), (⟨#[48, 49, 48, 48, 49]⟩ : ByteArray), (⟨#[48, 48, 49, 48, 49]⟩ : ByteArray)] : List ByteArray) : List ByteArray)).bind fun y315 => (if 0 ≤ (((3 * (((((bt a0 0) - 48) % 256) + (((bt a0 2) - 48) % 256)) + (((bt a0 4) - 48) % 256))) + (9 * ((((bt a0 1) - 48) % 256) + (((bt a0 3) - 48) % 256)))) % 10) then (if (((3 * (((((bt a0 0) - 48) % 256) + (((bt a0 2) - 48) % 256)) + (((bt a0 4) - 48) % 256))) + (9 * ((((bt a0 1) - 48) % 256) + (((bt a0 3) - 48) % 256)))) % 10) < (y315.length : Int) then (some (rdOf ByteArray.empty y315 (((3 * (((((bt a0 0) - 48) % 256) + (((bt a0 2) - 48) % 256)) + (((bt a0 4) - 48) % 256))) + (9 * ((((bt a0 1) - 48) % 256) + (((bt a0 3) - 48) % 256)))) % 10))) else (none)) else (none))) else (none)) else (none)) else (none)) else (none)) else (none))
def barscanref11_setsAddOn.T2 : Bool × List (List Nat × List Nat) := (true, [([], []), ([], []), ([1], [1]), ([2], [2]), ([3], [3]), ([4], [4]), ([], []), ([6], [6]), ([7], [7]), ([8], [8]), ([5, 9], [5, 9]), ([10], [10]), ([0, 11], [0, 11]), ([12], [12]), ([13, 0, 1, 2, 3, 4, 5, 6, 7, 8, 9, 10, 11, 12, 13], [13])])
def barscanref11_setsAddOn.B2 : List Nat := [0, 0, 2, 6, 14, 30, 0, 64, 192, 448, 1022, 2046, 4095, 8191, 16383]
theorem barscanref11_setsAddOn.tab2 : rtab .any (opsOf Tryz.f71 2) = barscanref11_setsAddOn.T2 := kr
theorem barscanref11_setsAddOn.bits2 : waitsOk barscanref11_setsAddOn.T2.2 barscanref11_setsAddOn.B2 = true := kr
def barscanref11_setsAddOn.T3 : Bool × List (List Nat × List Nat) := (true, [([], []), ([0], [0]), ([1], [1]), ([2], [2]), ([], []), ([4], [4]), ([5], [5]), ([6], [6]), ([3, 7], [3, 7]), ([], []), ([9], [9]), ([10], [10]), ([11], [11]), ([8, 12], [8, 12]), ([13], [13]), ([], []), ([15], [15]), ([16], [16]), ([17], [17]), ([], []), ([19], [19]), ([20], [20]), ([21], [21]), ([18, 22], [18, 22]), ([23], [23]), ([14, 24], [14, 24]), ([25, 0, 1, 2, 3, 4, 5, 6, 7, 8, 9, 10, 11, 12, 13, 14, 15, 16, 17, 18, 19, 20, 21, 22, 23, 24, 25], [25])])
def barscanref11_setsAddOn.B3 : List Nat := [0, 1, 3, 7, 0, 16, 48, 112, 255, 0, 512, 1536, 3584, 8191, 16383, 0, 32768, 98304, 229376, 0, 524288, 1572864, 3670016, 8355840, 16744448, 33554431, 67108863]
theorem barscanref11_setsAddOn.tab3 : rtab .any (opsOf Tryz.f71 3) = barscanref11_setsAddOn.T3 := kr
theorem barscanref11_setsAddOn.bits3 : waitsOk barscanref11_setsAddOn.T3.2 barscanref11_setsAddOn.B3 = true := kr
set_option maxHeartbeats 8000000 in
set_option maxRecDepth 100000 in
theorem barscanref11_setsAddOn.calls (a0 : ByteArray) (r : ByteArray) (w : World) (h : barscanref11_setsAddOn.f a0 = some r) :
    Calls Tryz.prog 71 #[.string a0] w fun e w' => e = .returned (.string r) ∧ Below w.heap.size w w' := by
 have HB := Aside0.mk (Below.refl w.heap.size w)
 have H := h
 clear h
 unfold barscanref11_setsAddOn.f at H
 replace H := ifc H
 obtain ⟨c2, H⟩ | ⟨c2, H⟩ := H
 ·have c2b0 : ((a0.size : Int) == 2) = true := beq_iff_eq.mpr c2
  have c2b1 : ((a0.size : Int) != 2) = false := bne_eq_false_iff_eq.mpr c2
  clear c2
  obtain ⟨y311, hy311⟩ : ∃ y_ : List ByteArray, y_ = (([(⟨#[48, 48]⟩ : ByteArray), (⟨#[48, 49]⟩ : ByteArray), (⟨#[49, 48]⟩ : ByteArray), (⟨#[49, 49]⟩ : ByteArray)] : List ByteArray)) := ⟨_, rfl⟩
  replace H : (if 0 < (a0.size : Int) then (if 1 < (a0.size : Int) then (if 0 ≤ (((10 * (((bt a0 0) - 48) % 256)) + (((bt a0 1) - 48) % 256)) % 4) then (if (((10 * (((bt a0 0) - 48) % 256)) + (((bt a0 1) - 48) % 256)) % 4) < (y311.length : Int) then (some (rdOf ByteArray.empty y311 (((10 * (((bt a0 0) - 48) % 256)) + (((bt a0 1) - 48) % 256)) % 4))) else (none)) else (none)) else (none)) else (none)) = some r := by first | (rw [hy311]; with_reducible exact H) | (have H2_ := (Option.bind_some _ _).symm.trans H; rw [hy311]; with_reducible exact H2_) | (have H2_ := (Option.bind_some _ _).symm.trans H; with_reducible exact H2_) | with_reducible exact H | (rw [hy311]; exact H) | exact H
  have Ny311 := Aside0.mk hy311
  clear hy311
  replace H := ifn H
  obtain ⟨c3, H⟩ := H
  have c3b0 : decide (0 < (a0.size : Int)) = true := decide_eq_true c3
  have c3b1 : decide (0 < a0.size) = true := decide_eq_true om
  clear c3
  by_cases c5 : 1 < (a0.size : Int)
  rotate_left
  ·rw [if_neg c5] at H
   exact absurd H (by simp)
  rw [if_pos c5] at H
  have c5b0 : decide (1 < (a0.size : Int)) = true := decide_eq_true c5
  have c5b1 : decide (1 < a0.size) = true := decide_eq_true om
  clear c5
  obtain ⟨ji7, hji7⟩ : ∃ j_ : Int, (((10 * (((bt a0 0) - 48) % 256)) + (((bt a0 1) - 48) % 256)) % 4) = j_ := ⟨_, rfl⟩
  replace H : (if 0 ≤ (ji7) then (if (ji7) < (y311.length : Int) then (some (rdOf ByteArray.empty y311 (ji7))) else (none)) else (none)) = some r := by first | (rw [hji7] at H; exact H) | (simp only [hji7] at H ⊢; exact H)
  replace H := ifn H
  obtain ⟨c8, H⟩ := H
  have c8b0 : decide (0 ≤ (ji7)) = true := decide_eq_true c8
  clear c8
  by_cases c9 : (ji7) < (y311.length : Int)
  rotate_left
  ·rw [if_neg c9] at H
   exact absurd H (by simp)
  rw [if_pos c9] at H
  have c9b0 : decide ((ji7) < (y311.length : Int)) = true := decide_eq_true c9
  clear c9
  obtain rfl := Option.some.inj H
  go_enter Tryz.func71, Tryz.ntmps71
  try go_wp2
  have pi314 : (0 ≤ ((ji7) : Int)) = True := eq_true (of_decide_eq_true am)
  have qi314 : ((ji7) < (y311.length : Int)) = True := eq_true (of_decide_eq_true am)
  have n0_ := Aside0.mk (below_drew1 HB.out)
  clear HB
  have HB := n0_
  clear n0_
  have p4 : 0 ≤ (0 : Int) := om
  have q4 : 0 < a0.size := (by have : (0 : Int) < (a0.size : Int) := of_decide_eq_true am; omega)
  have hx4 : ∀ h : 0 < a0.size, ((a0[0]'h).toNat : Int) = bt a0 0 := bt_at a0 0
  clear p4
  have qi4 : (0 < (a0.size : Int)) = True := eq_true (of_decide_eq_true am)
  replace q4 := eq_true q4
  have p6 : 0 ≤ (1 : Int) := om
  have q6 : 1 < a0.size := (by have : (1 : Int) < (a0.size : Int) := of_decide_eq_true am; omega)
  have hx6 : ∀ h : 1 < a0.size, ((a0[1]'h).toNat : Int) = bt a0 1 := bt_at a0 1
  clear p6
  have qi6 : (1 < (a0.size : Int)) = True := eq_true (of_decide_eq_true am)
  replace q6 := eq_true q6
  refine start_ (n := 15) (S := fun w' => True) (ds := []) #[false, false, false, false, false, false, false, false, false, false, false, false, false, false, false] kr rfl rfl trivial (fun hHeld => ?_); refine with_tabW barscanref11_setsAddOn.tab2 barscanref11_setsAddOn.bits2 (fun HT_ HW_ => ?_)
  generalize w.drew = w10 at HB hHeld ⊢
  refine pu HT_ 1 8 (h := ?_)
  refine pu HT_ 6 13 (h := ?_)
  refine tk HT_ HW_ hHeld 2 9 (h := ?_)
  refine pu HT_ 3 10 (h := ?_)
  refine pu HT_ 4 11 (h := ?_)
  refine pu HT_ 5 12 (h := ?_)
  refine tk HT_ HW_ hHeld 7 14 (h := ?_)
  refine pu HT_ 8 15 (h := ?_)
  refine pu HT_ 9 16 (h := ?_)
  refine pu HT_ 10 17 (h := ?_)
  refine pu HT_ 11 18 (h := ?_)
  refine on HT_ 0 7 (h := fun K hK => ?_)
  refine Kd.R_lit_step Kd.string _ 9 ?hg (N := 7) ?hd (xs := ([(⟨#[48, 48]⟩ : ByteArray), (⟨#[48, 49]⟩ : ByteArray), (⟨#[49, 48]⟩ : ByteArray), (⟨#[49, 49]⟩ : ByteArray)] : List ByteArray)) (inner := [.string (⟨#[48, 48]⟩ : ByteArray), .string (⟨#[48, 49]⟩ : ByteArray), .string (⟨#[49, 48]⟩ : ByteArray), .string (⟨#[49, 49]⟩ : ByteArray)]) (ok := fun _ => True) (okp := fun _ => True) ?hr ?hp (fun _ hk => hk) trivial (Below.refl _ _) (Nat.le_refl _) (by simp) ?_; (case hd => rfl); (case hg => rfl); (case hr => first | (go_simp; done) | (go_simp; rfl)); (case hp => exact (Reps.one (show Kd.M Kd.string _ _ _ (⟨#[48, 48]⟩ : ByteArray) [.string (⟨#[48, 48]⟩ : ByteArray)] from rfl) (Reps.one (show Kd.M Kd.string _ _ _ (⟨#[48, 49]⟩ : ByteArray) [.string (⟨#[48, 49]⟩ : ByteArray)] from rfl) (Reps.one (show Kd.M Kd.string _ _ _ (⟨#[49, 48]⟩ : ByteArray) [.string (⟨#[49, 48]⟩ : ByteArray)] from rfl) (Reps.one (show Kd.M Kd.string _ _ _ (⟨#[49, 49]⟩ : ByteArray) [.string (⟨#[49, 49]⟩ : ByteArray)] from rfl) (Reps.none _ _))))))
  intro v312 w11 ho12 hb hg_ hnew_
  clear hg_ hnew_
  (first | rw [← Ny311.out] at ho12 | (simp only [Int.reduceToNat] at ho12; rw [← Ny311.out] at ho12))
  have n0_ := Aside0.mk (Kd.R_lower ho12 (below_size bw))
  have n1_ := Aside0.mk (below_step bw hb)
  clear HB
  have HO313 := n0_
  have HB := n1_
  clear n0_ n1_
  clear hb ho12
  obtain ⟨Ao13, co13, eo13⟩ := Kd.R_slice HO313.out
  subst eo13
  obtain ⟨ado13, fo13, _⟩ := Kd.at_string (Kd.R_reads' HO313.out).2.2 0 (by decide) (by rw [Ny311.out]; simp)
  cases fo13
  refine hK.out _ _ trivial (fun hHeld => ?_)
  clear hK K
  refine nm (h := ?_)
  refine pu HT_ 12 19 (h := ?_)
  refine on HT_ 13 20 (h := fun K hK => ?_)
  (have p314 : 0 ≤ ((ji7) : Int) := of_decide_eq_true am; have q314 : (ji7) < (y311.length : Int) := of_decide_eq_true am; obtain ⟨ad314, e314, hx314_0⟩ := Kd.at_string (Kd.R_reads' HO313.out).2.2 (ji7) p314 q314; obtain rfl : ado13 = ad314 := (by injection e314))
  refine value_ (w1 := ?_) (v := ?_) (by rfl) rfl ?_ ?_
  rotate_left 2
  ·go_simp
   constructor
   rotate_left
   ·rfl
   rfl
  clear hx314_0
  refine hK.out _ _ trivial (fun hHeld => ?_)
  clear hK K
  refine nm (h := ?_)
  refine pu HT_ 14 2 (h := ?_)
  refine done_ (done_of HT_.out kr) ?_
  try go_wp2
  go_ret
  exact ⟨by first | rfl | (simp [errW_none, errW_some] <;> rfl) | (simp only [← hji7]; first | rfl | (simp [errW_none, errW_some] <;> rfl)) | (simp [*, errW_none, errW_some] <;> rfl), bw⟩
 have c2b0 : ((a0.size : Int) == 2) = false := beq_eq_false_iff_ne.mpr c2
 have c2b1 : ((a0.size : Int) != 2) = true := bne_iff_ne.mpr c2
 replace H := ifc H
 obtain ⟨c14, H⟩ | ⟨c14, H⟩ := H
 rotate_left
 ·exact absurd H (by simp)
 have c14b0 : decide (0 < (a0.size : Int)) = true := decide_eq_true c14
 have c14b1 : decide (0 < a0.size) = true := decide_eq_true om
 clear c14
 replace H := ifn H
 obtain ⟨c16, H⟩ := H
 have c16b0 : decide (2 < (a0.size : Int)) = true := decide_eq_true c16
 have c16b1 : decide (2 < a0.size) = true := decide_eq_true om
 clear c16
 by_cases c18 : 4 < (a0.size : Int)
 rotate_left
 ·rw [if_neg c18] at H
  exact absurd H (by simp)
 rw [if_pos c18] at H
 have c18b0 : decide (4 < (a0.size : Int)) = true := decide_eq_true c18
 have c18b1 : decide (4 < a0.size) = true := decide_eq_true om
 clear c18
 replace H := ifn H
 obtain ⟨c20, H⟩ := H
 have c20b0 : decide (1 < (a0.size : Int)) = true := decide_eq_true c20
 have c20b1 : decide (1 < a0.size) = true := decide_eq_true om
 clear c20
 by_cases c22 : 3 < (a0.size : Int)
 rotate_left
 ·rw [if_neg c22] at H
  exact absurd H (by simp)
 rw [if_pos c22] at H
 have c22b0 : decide (3 < (a0.size : Int)) = true := decide_eq_true c22
 have c22b1 : decide (3 < a0.size) = true := decide_eq_true om
 clear c22
 obtain ⟨y315, hy315⟩ : ∃ y_ : List ByteArray, y_ = (([(⟨#[49, 49, 48, 48, 48]⟩ : ByteArray), (⟨#[49, 48, 49, 48, 48]⟩ : ByteArray), (⟨#[49, 48, 48, 49, 48]⟩ : ByteArray), (⟨#[49, 48, 48, 48, 49]⟩ : ByteArray), (⟨#[48, 49, 49, 48, 48]⟩ : ByteArray), (⟨#[48, 48, 49, 49, 48]⟩ : ByteArray), (⟨#[48, 48, 48, 49, 49]⟩ : ByteArray), (⟨#[48, 49, 48, 49, 48]⟩ : ByteArray), (⟨#[48, 49, 48, 48, 49]⟩ : ByteArray), (⟨#[48, 48, 49, 48, 49]⟩ : ByteArray)] : List ByteArray)) := ⟨_, rfl⟩
 replace H : (if 0 ≤ (((3 * (((((bt a0 0) - 48) % 256) + (((bt a0 2) - 48) % 256)) + (((bt a0 4) - 48) % 256))) + (9 * ((((bt a0 1) - 48) % 256) + (((bt a0 3) - 48) % 256)))) % 10) then (if (((3 * (((((bt a0 0) - 48) % 256) + (((bt a0 2) - 48) % 256)) + (((bt a0 4) - 48) % 256))) + (9 * ((((bt a0 1) - 48) % 256) + (((bt a0 3) - 48) % 256)))) % 10) < (y315.length : Int) then (some (rdOf ByteArray.empty y315 (((3 * (((((bt a0 0) - 48) % 256) + (((bt a0 2) - 48) % 256)) + (((bt a0 4) - 48) % 256))) + (9 * ((((bt a0 1) - 48) % 256) + (((bt a0 3) - 48) % 256)))) % 10))) else (none)) else (none)) = some r := by first | (rw [hy315]; with_reducible exact H) | (have H2_ := (Option.bind_some _ _).symm.trans H; rw [hy315]; with_reducible exact H2_) | (have H2_ := (Option.bind_some _ _).symm.trans H; with_reducible exact H2_) | with_reducible exact H | (rw [hy315]; exact H) | exact H
 have Ny315 := Aside0.mk hy315
 clear hy315
 obtain ⟨ji24, hji24⟩ : ∃ j_ : Int, (((3 * (((((bt a0 0) - 48) % 256) + (((bt a0 2) - 48) % 256)) + (((bt a0 4) - 48) % 256))) + (9 * ((((bt a0 1) - 48) % 256) + (((bt a0 3) - 48) % 256)))) % 10) = j_ := ⟨_, rfl⟩
 replace H : (if 0 ≤ (ji24) then (if (ji24) < (y315.length : Int) then (some (rdOf ByteArray.empty y315 (ji24))) else (none)) else (none)) = some r := by first | (rw [hji24] at H; exact H) | (simp only [hji24] at H ⊢; exact H)
 replace H := ifn H
 obtain ⟨c25, H⟩ := H
 have c25b0 : decide (0 ≤ (ji24)) = true := decide_eq_true c25
 clear c25
 by_cases c26 : (ji24) < (y315.length : Int)
 rotate_left
 ·rw [if_neg c26] at H
  exact absurd H (by simp)
 rw [if_pos c26] at H
 have c26b0 : decide ((ji24) < (y315.length : Int)) = true := decide_eq_true c26
 clear c26
 obtain rfl := Option.some.inj H
 go_enter Tryz.func71, Tryz.ntmps71
 try go_wp2
 have n0_ := Aside0.mk (below_drew1 HB.out)
 clear HB
 have HB := n0_
 clear n0_
 have p15 : 0 ≤ (0 : Int) := om
 have q15 : 0 < a0.size := (by have : (0 : Int) < (a0.size : Int) := of_decide_eq_true am; omega)
 have hx15 : ∀ h : 0 < a0.size, ((a0[0]'h).toNat : Int) = bt a0 0 := bt_at a0 0
 clear p15
 have qi15 : (0 < (a0.size : Int)) = True := eq_true (of_decide_eq_true am)
 replace q15 := eq_true q15
 have p17 : 0 ≤ (2 : Int) := om
 have q17 : 2 < a0.size := (by have : (2 : Int) < (a0.size : Int) := of_decide_eq_true am; omega)
 have hx17 : ∀ h : 2 < a0.size, ((a0[2]'h).toNat : Int) = bt a0 2 := bt_at a0 2
 clear p17
 have qi17 : (2 < (a0.size : Int)) = True := eq_true (of_decide_eq_true am)
 replace q17 := eq_true q17
 have p19 : 0 ≤ (4 : Int) := om
 have q19 : 4 < a0.size := (by have : (4 : Int) < (a0.size : Int) := of_decide_eq_true am; omega)
 have hx19 : ∀ h : 4 < a0.size, ((a0[4]'h).toNat : Int) = bt a0 4 := bt_at a0 4
 clear p19
 have qi19 : (4 < (a0.size : Int)) = True := eq_true (of_decide_eq_true am)
 replace q19 := eq_true q19
 have p21 : 0 ≤ (1 : Int) := om
 have q21 : 1 < a0.size := (by have : (1 : Int) < (a0.size : Int) := of_decide_eq_true am; omega)
 have hx21 : ∀ h : 1 < a0.size, ((a0[1]'h).toNat : Int) = bt a0 1 := bt_at a0 1
 clear p21
 have qi21 : (1 < (a0.size : Int)) = True := eq_true (of_decide_eq_true am)
 replace q21 := eq_true q21
 have p23 : 0 ≤ (3 : Int) := om
 have q23 : 3 < a0.size := (by have : (3 : Int) < (a0.size : Int) := of_decide_eq_true am; omega)
 have hx23 : ∀ h : 3 < a0.size, ((a0[3]'h).toNat : Int) = bt a0 3 := bt_at a0 3
 clear p23
 have qi23 : (3 < (a0.size : Int)) = True := eq_true (of_decide_eq_true am)
 replace q23 := eq_true q23
 refine start_ (n := 27) (S := fun w' => True) (ds := []) #[false, false, false, false, false, false, false, false, false, false, false, false, false, false, false, false, false, false, false, false, false, false, false, false, false, false, false] kr rfl rfl trivial (fun hHeld => ?_); refine with_tabW barscanref11_setsAddOn.tab3 barscanref11_setsAddOn.bits3 (fun HT_ HW_ => ?_)
 generalize w.drew = w27 at HB hHeld ⊢
 refine pu HT_ 0 21 (h := ?_)
 refine pu HT_ 4 25 (h := ?_)
 refine pu HT_ 9 30 (h := ?_)
 refine pu HT_ 15 36 (h := ?_)
 refine pu HT_ 19 40 (h := ?_)
 refine tk HT_ HW_ hHeld 1 22 (h := ?_)
 refine pu HT_ 2 23 (h := ?_)
 refine pu HT_ 3 24 (h := ?_)
 refine tk HT_ HW_ hHeld 5 26 (h := ?_)
 refine pu HT_ 6 27 (h := ?_)
 refine pu HT_ 7 28 (h := ?_)
 refine pu HT_ 8 29 (h := ?_)
 refine tk HT_ HW_ hHeld 10 31 (h := ?_)
 refine pu HT_ 11 32 (h := ?_)
 refine pu HT_ 12 33 (h := ?_)
 refine pu HT_ 13 34 (h := ?_)
 refine pu HT_ 14 35 (h := ?_)
 refine tk HT_ HW_ hHeld 16 37 (h := ?_)
 refine pu HT_ 17 38 (h := ?_)
 refine pu HT_ 18 39 (h := ?_)
 refine tk HT_ HW_ hHeld 20 41 (h := ?_)
 refine pu HT_ 21 42 (h := ?_)
 refine pu HT_ 22 43 (h := ?_)
 refine pu HT_ 23 44 (h := ?_)
 refine pu HT_ 24 45 (h := ?_)
 refine pu HT_ 25 46 (h := ?_)
 refine pu HT_ 26 3 (h := ?_)
 refine done_ (done_of HT_.out kr) ?_
 try go_wp2_with (first | ((with_reducible refine gate_dst (N := 47) rfl ?_); refine Kd.R_lit Kd.string _ 9 ?hg (N := 47) ?hd (xs := ([(⟨#[49, 49, 48, 48, 48]⟩ : ByteArray), (⟨#[49, 48, 49, 48, 48]⟩ : ByteArray), (⟨#[49, 48, 48, 49, 48]⟩ : ByteArray), (⟨#[49, 48, 48, 48, 49]⟩ : ByteArray), (⟨#[48, 49, 49, 48, 48]⟩ : ByteArray), (⟨#[48, 48, 49, 49, 48]⟩ : ByteArray), (⟨#[48, 48, 48, 49, 49]⟩ : ByteArray), (⟨#[48, 49, 48, 49, 48]⟩ : ByteArray), (⟨#[48, 49, 48, 48, 49]⟩ : ByteArray), (⟨#[48, 48, 49, 48, 49]⟩ : ByteArray)] : List ByteArray)) (inner := [.string (⟨#[49, 49, 48, 48, 48]⟩ : ByteArray), .string (⟨#[49, 48, 49, 48, 48]⟩ : ByteArray), .string (⟨#[49, 48, 48, 49, 48]⟩ : ByteArray), .string (⟨#[49, 48, 48, 48, 49]⟩ : ByteArray), .string (⟨#[48, 49, 49, 48, 48]⟩ : ByteArray), .string (⟨#[48, 48, 49, 49, 48]⟩ : ByteArray), .string (⟨#[48, 48, 48, 49, 49]⟩ : ByteArray), .string (⟨#[48, 49, 48, 49, 48]⟩ : ByteArray), .string (⟨#[48, 49, 48, 48, 49]⟩ : ByteArray), .string (⟨#[48, 48, 49, 48, 49]⟩ : ByteArray)]) (ok := fun _ => True) (okp := fun _ => True) ?hr ?hp (fun _ hk => hk) trivial (Below.refl _ _) (Nat.le_refl _) (by simp) ?_; (case hd => rfl); (case hg => rfl); (case hr => first | (go_simp; done) | (go_simp; rfl)); (case hp => exact (Reps.one (show Kd.M Kd.string _ _ _ (⟨#[49, 49, 48, 48, 48]⟩ : ByteArray) [.string (⟨#[49, 49, 48, 48, 48]⟩ : ByteArray)] from rfl) (Reps.one (show Kd.M Kd.string _ _ _ (⟨#[49, 48, 49, 48, 48]⟩ : ByteArray) [.string (⟨#[49, 48, 49, 48, 48]⟩ : ByteArray)] from rfl) (Reps.one (show Kd.M Kd.string _ _ _ (⟨#[49, 48, 48, 49, 48]⟩ : ByteArray) [.string (⟨#[49, 48, 48, 49, 48]⟩ : ByteArray)] from rfl) (Reps.one (show Kd.M Kd.string _ _ _ (⟨#[49, 48, 48, 48, 49]⟩ : ByteArray) [.string (⟨#[49, 48, 48, 48, 49]⟩ : ByteArray)] from rfl) (Reps.one (show Kd.M Kd.string _ _ _ (⟨#[48, 49, 49, 48, 48]⟩ : ByteArray) [.string (⟨#[48, 49, 49, 48, 48]⟩ : ByteArray)] from rfl) (Reps.one (show Kd.M Kd.string _ _ _ (⟨#[48, 48, 49, 49, 48]⟩ : ByteArray) [.string (⟨#[48, 48, 49, 49, 48]⟩ : ByteArray)] from rfl) (Reps.one (show Kd.M Kd.string _ _ _ (⟨#[48, 48, 48, 49, 49]⟩ : ByteArray) [.string (⟨#[48, 48, 48, 49, 49]⟩ : ByteArray)] from rfl) (Reps.one (show Kd.M Kd.string _ _ _ (⟨#[48, 49, 48, 49, 48]⟩ : ByteArray) [.string (⟨#[48, 49, 48, 49, 48]⟩ : ByteArray)] from rfl) (Reps.one (show Kd.M Kd.string _ _ _ (⟨#[48, 49, 48, 48, 49]⟩ : ByteArray) [.string (⟨#[48, 49, 48, 48, 49]⟩ : ByteArray)] from rfl) (Reps.one (show Kd.M Kd.string _ _ _ (⟨#[48, 48, 49, 48, 49]⟩ : ByteArray) [.string (⟨#[48, 48, 49, 48, 49]⟩ : ByteArray)] from rfl) (Reps.none _ _)))))))))))); intro v316 w28 ho29 hb hg_ hnew_; clear hg_ hnew_; (first | rw [← Ny315.out] at ho29 | (simp only [Int.reduceToNat] at ho29; rw [← Ny315.out] at ho29)); have n0_ := Aside0.mk (Kd.R_lower ho29 (below_size bw)); have n1_ := Aside0.mk (below_step bw hb); clear HB; have HO317 := n0_; have HB := n1_; clear n0_ n1_; clear hb ho29; obtain ⟨Ao30, co30, eo30⟩ := Kd.R_slice HO317.out; subst eo30; have p318 : 0 ≤ ((ji24) : Int) := of_decide_eq_true am; have q318 : (ji24) < (y315.length : Int) := of_decide_eq_true am; obtain ⟨ad318, e318, hx318_0⟩ := Kd.at_string (Kd.R_reads' HO317.out).2.2 (ji24) p318 q318; cases e318; replace p318 := eq_true p318; replace q318 := eq_true q318))
 go_ret
 exact ⟨by first | rfl | (simp [errW_none, errW_some] <;> rfl) | (simp only [← hji24]; first | rfl | (simp [errW_none, errW_some] <;> rfl)) | (simp [*, errW_none, errW_some] <;> rfl), bw⟩

end Go.Proofs.YtjmeekceecpemaaGreatDoor.Q

namespace Go.Proofs.YtjmeekceecpemaaGreatDoor.Q
open Go.RowKit Go.Proofs.YtjmeekceecpemaaGreatDoorW.PrintWords Go.Proofs.YtjmeekceecpemaaGreatDoorW.PrintLast Go.Proofs.YtjmeekceecpemaaGreatDoorW.PrintMore

set_option linter.unusedVariables false
set_option linter.unusedSimpArgs false

/-! ### barscanref11_addition: function 39 -/
def barscanref11_addition.f (k : Nat) (a0 : ByteArray) : Option (List Bool) := (barscanref11_modules.f k (⟨#[49, 48, 49, 49]⟩ : ByteArray)).bind fun t319 => ((barscanref11_setsAddOn.f a0).bind fun t322 => ((barscanref11_row.f k a0 t322 (⟨#[48, 49]⟩ : ByteArray)).bind fun t323 => ((barscanref11_join.f k (([t319, t323] : List (List Bool)))).bind fun t329 => (some t329))))
theorem barscanref11_addition.mono : ∀ a0 k, LeO (barscanref11_addition.f k a0) (barscanref11_addition.f (k + 1) a0) := by
  intro a0 k
  unfold barscanref11_addition.f
  repeat' with_reducible first | exact barscanref11_join.mono _ _ | exact barscanref11_modules.mono _ _ | exact barscanref11_row.mono _ _ _ _ | exact LeO.refl _ | exact LeO.none _ | refine LeO.ite ?_ ?_ | refine LeO.bind ?_ (fun _ => ?_)
set_option maxHeartbeats 8000000 in
set_option maxRecDepth 100000 in
theorem barscanref11_addition.calls (k : Nat) (a0 : ByteArray) (r : List Bool) (w : World) (h : barscanref11_addition.f k a0 = some r) :
    Calls Tryz.prog 39 #[.string a0] w fun e w' => ∃ v0_ : Value, e = .returned (v0_) ∧ Kd.R Kd.bool 4 w' w.heap.size (fun _ => True) v0_ r ∧ Below w.heap.size w w' := by
 have HB := Aside0.mk (Below.refl w.heap.size w)
 have H := h
 clear h
 unfold barscanref11_addition.f at H
 replace H := bd H
 obtain ⟨t319, A2, H⟩ := H
 replace H := bd H
 obtain ⟨t322, A3, H⟩ := H
 replace H := bd H
 obtain ⟨t323, A4, H⟩ := H
 obtain ⟨y326, hy326⟩ : ∃ y_ : List (List Bool), y_ = (([t319, t323] : List (List Bool))) := ⟨_, rfl⟩
 replace H : ((barscanref11_join.f k y326).bind fun t329 => (some t329)) = some r := by first | (rw [hy326]; with_reducible exact H) | (have H2_ := (Option.bind_some _ _).symm.trans H; rw [hy326]; with_reducible exact H2_) | (have H2_ := (Option.bind_some _ _).symm.trans H; with_reducible exact H2_) | with_reducible exact H | (rw [hy326]; exact H) | exact H
 have Ny326 := Aside0.mk hy326
 clear hy326
 replace H := bd H
 obtain ⟨t329, A5, H⟩ := H
 obtain rfl := Option.some.inj H
 go_enter Tryz.func39, Tryz.ntmps39
 go_wp2_with (first | ((with_reducible refine gate_callee (f := 67) rfl ?_); refine goesL_ (some 3) rfl rfl Tryz.func67 kr rfl #[.string (⟨#[49, 48, 49, 49]⟩ : ByteArray)] rfl ar ?_; (with_reducible refine (barscanref11_modules.calls k (⟨#[49, 48, 49, 49]⟩ : ByteArray) t319 _ A2.out).mono ?_); rintro e w6 ⟨v320, rfl, ho0, hb⟩; refine ⟨_, rfl, ?_⟩; have n0_ := Aside0.mk (Kd.R_lower ho0 (below_size bw)); have n1_ := Aside0.mk (below_step bw hb); clear HB; have HO321 := n0_; have HB := n1_; clear n0_ n1_; clear hb; (try clear ho0)) | ((with_reducible refine gate_callee (f := 71) rfl ?_); refine goesL_ (some 6) rfl rfl Tryz.func71 kr rfl #[.string a0] rfl ar ?_; (with_reducible refine (barscanref11_setsAddOn.calls a0 t322 _ A3.out).mono ?_); rintro e w7 ⟨rfl, hb⟩; refine ⟨_, rfl, ?_⟩; replace HO321 := Aside0.mk (Kd.R_below (kd HO321) hb); replace HB := Aside0.mk (below_step bw hb); clear hb) | ((with_reducible refine gate_callee (f := 68) rfl ?_); refine goesL_ (some 7) rfl rfl Tryz.func68 kr rfl #[.string a0, .string t322, .string (⟨#[48, 49]⟩ : ByteArray)] rfl ar ?_; (with_reducible refine (barscanref11_row.calls k a0 t322 (⟨#[48, 49]⟩ : ByteArray) t323 _ A4.out).mono ?_); rintro e w8 ⟨v324, rfl, ho0, hb⟩; refine ⟨_, rfl, ?_⟩; have n0_ := Aside0.mk (Kd.R_elder' (kd HO321) (Kd.R_base ho0) hb); have n1_ := Aside0.mk (Kd.R_lower (Kd.R_new' ho0 (Kd.R_lt (kd HO321))) (below_size bw)); have n2_ := Aside0.mk (below_step bw hb); clear HO321; clear HB; have HO321 := n0_; have HO325 := n1_; have HB := n2_; clear n0_ n1_ n2_; clear hb; (try clear ho0); obtain ⟨Ao9, co9, eo9⟩ := Kd.R_slice HO321.out; subst eo9; obtain ⟨Ao10, co10, eo10⟩ := Kd.R_slice HO325.out; subst eo10) | ((with_reducible refine gate_dst (N := 8) rfl ?_); refine Kd.N_lit (Kd.slice 4 Kd.bool) _ 23 ?hg (N' := 8) ?hd (xs := ([t319, t323] : List (List Bool))) (inner := [.slice Ao9 t319.length co9, .slice Ao10 t323.length co10]) (ok := (fun _ => True)) (okp := (fun _ => True)) ?hr ?hp (fun _ hk => hk) ((show ∀ k_, w8.heap.size ≤ k_ → (fun _ => True) k_ from fun k_ hk => trivial) _ (Nat.le_refl _)) (Below.refl _ _) (Nat.le_refl _) (by simp) ?_; (case hd => rfl); (case hg => rfl); (case hr => first | (go_simp; done) | (go_simp; rfl)); (case hp => exact (Reps.one (show Kd.FK (Kd.slice 4 Kd.bool) _ _ t319 [.slice Ao9 t319.length co9] from (Kd.FK_slice_mk (Kd.R_reads' (Kd.R_mono (ok' := (fun _ => True)) (HO321.out) (fun k_ hk => trivial))).2.1 (Kd.R_F (Kd.R_mono (ok' := (fun _ => True)) (HO321.out) (fun k_ hk => trivial))))) (Reps.one (show Kd.FK (Kd.slice 4 Kd.bool) _ _ t323 [.slice Ao10 t323.length co10] from (Kd.FK_slice_mk (Kd.R_reads' (Kd.R_mono (ok' := (fun _ => True)) (HO325.out) (fun k_ hk => trivial))).2.1 (Kd.R_F (Kd.R_mono (ok' := (fun _ => True)) (HO325.out) (fun k_ hk => trivial))))) (Reps.none _ _)))); intro v327 w11 ho12 hb hg_ hnew_; clear hg_ hnew_; (first | rw [← Ny326.out] at ho12 | (simp only [Int.reduceToNat] at ho12; rw [← Ny326.out] at ho12)); have n0_ := Aside0.mk (Kd.N_lower ho12 (below_size bw)); have n1_ := Aside0.mk (below_step bw hb); clear HB; clear HO321; clear HO325; have HO328 := n0_; have HB := n1_; clear n0_ n1_; clear hb ho12; obtain ⟨Ao13, co13, eo13⟩ := Kd.N_slice HO328.out; subst eo13) | ((with_reducible refine gate_callee (f := 36) rfl ?_); refine goesL_ (some 9) rfl rfl Tryz.func36 kr rfl #[.slice Ao13 y326.length co13] rfl ar ?_; (with_reducible refine (barscanref11_join.calls k _ _ y326 t329 _ ?side1 ?side2 A5.out).mono ?_); (case side1 => repeat (first | exact (Kd.N_reads' HO328.out).2.2 | (with_reducible refine Kd.C_alloc ?_ _) | (with_reducible refine Kd.C_drewN ?_ _) | (with_reducible refine Kd.C_drew ?_))); (case side2 => exact (Kd.N_reads' HO328.out).2.1); rintro e w14 ⟨v330, rfl, ho0, hb⟩; refine ⟨_, rfl, ?_⟩; have n0_ := Aside0.mk (Kd.N_elder' (by (with_reducible repeat (first | apply Kd.N_alloc | apply Kd.N_drewN | apply Kd.N_drew)); exact HO328.out) (Kd.R_base ho0) hb); have n1_ := Aside0.mk (Kd.R_lower ho0 (below_size bw)); have n2_ := Aside0.mk (below_step bw hb); clear HO328; clear HB; have HO328 := n0_; have HO331 := n1_; have HB := n2_; clear n0_ n1_ n2_; clear hb; (try clear ho0)))
 go_ret
 exact ⟨_, es, kd HO331, bw⟩

end Go.Proofs.YtjmeekceecpemaaGreatDoor.Q

namespace Go.Proofs.YtjmeekceecpemaaGreatDoor.Q
open Go.RowKit Go.Proofs.YtjmeekceecpemaaGreatDoorW.PrintWords Go.Proofs.YtjmeekceecpemaaGreatDoorW.PrintLast Go.Proofs.YtjmeekceecpemaaGreatDoorW.PrintMore

set_option linter.unusedVariables false
set_option linter.unusedSimpArgs false

/-! ### barscanref11_Encode: function 12 -/
mutual
def barscanref11_Encode.j0 : Nat → Int → ByteArray → ByteArray → Bool → Option (List Bool × Int)
  | 0, _, _, _, _ => none
  | k + 1, x0, x1, x2, x32 => if x32 = true then (some (([] : List Bool), 7)) else (if x0 = 1 then (barscanref11_Encode.j1 k x0 x1 x2 11 7) else (barscanref11_Encode.j1 k x0 x1 x2 9 7))
def barscanref11_Encode.j1 : Nat → Int → ByteArray → ByteArray → Int → Int → Option (List Bool × Int)
  | 0, _, _, _, _, _ => none
  | k + 1, x0, x1, x2, x9, x10 => if x0 = 2 then (barscanref11_Encode.j2 k x0 x1 x2 7 x10) else (barscanref11_Encode.j2 k x0 x1 x2 x9 x10)
def barscanref11_Encode.j2 : Nat → Int → ByteArray → ByteArray → Int → Int → Option (List Bool × Int)
  | 0, _, _, _, _, _ => none
  | k + 1, x0, x1, x2, x9, x10 => if x0 = 3 then (barscanref11_Encode.j3 k x0 x1 x2 x9 9) else (barscanref11_Encode.j3 k x0 x1 x2 x9 x10)
def barscanref11_Encode.j3 : Nat → Int → ByteArray → ByteArray → Int → Int → Option (List Bool × Int)
  | 0, _, _, _, _, _ => none
  | k + 1, x0, x1, x2, x9, x10 => if x2.toList = ([] : List UInt8) then ((barscanref11_light.f x9).bind fun t334 => ((barscanref11_symbol.f k x0 x1).bind fun t337 => ((barscanref11_light.f x10).bind fun t340 => ((barscanref11_join.f k (([t334, t337, t340] : List (List Bool)))).bind fun t346 => (some (t346, 0)))))) else ((barscanref11_light.f x9).bind fun t349 => ((barscanref11_symbol.f k x0 x1).bind fun t352 => ((barscanref11_light.f 9).bind fun t355 => ((barscanref11_addition.f k x2).bind fun t358 => ((barscanref11_light.f 7).bind fun t361 => ((barscanref11_join.f k (([t349, t352, t355, t358, t361] : List (List Bool)))).bind fun t367 => (some (t367, 0))))))))
end
def barscanref11_Encode.f (k : Nat) (a0 : Int) (a1 : ByteArray) (a2 : ByteArray) : Option (List Bool × Int) := (barscanref11_complete.f k a0 a1).bind fun t332 => (if t332 = 0 then ((barscanref11_digits.f k a2).bind fun t333 => (if t333 = true then (if (a2.size : Int) = 0 then (barscanref11_Encode.j0 k a0 a1 a2 false) else (if (a2.size : Int) = 2 then (barscanref11_Encode.j0 k a0 a1 a2 false) else (barscanref11_Encode.j0 k a0 a1 a2 ((a2.size : Int) != 5)))) else (some (([] : List Bool), 6)))) else (some (([] : List Bool), t332)))
theorem barscanref11_Encode.mono_l : ∀ k, (∀ y0 y1 y2 y3, LeO (barscanref11_Encode.j0 k y0 y1 y2 y3) (barscanref11_Encode.j0 (k + 1) y0 y1 y2 y3)) ∧ (∀ y0 y1 y2 y3 y4, LeO (barscanref11_Encode.j1 k y0 y1 y2 y3 y4) (barscanref11_Encode.j1 (k + 1) y0 y1 y2 y3 y4)) ∧ (∀ y0 y1 y2 y3 y4, LeO (barscanref11_Encode.j2 k y0 y1 y2 y3 y4) (barscanref11_Encode.j2 (k + 1) y0 y1 y2 y3 y4)) ∧ (∀ y0 y1 y2 y3 y4, LeO (barscanref11_Encode.j3 k y0 y1 y2 y3 y4) (barscanref11_Encode.j3 (k + 1) y0 y1 y2 y3 y4))
  | 0 => ⟨fun _ _ _ _ r h => by simp [barscanref11_Encode.j0] at h, fun _ _ _ _ _ r h => by simp [barscanref11_Encode.j1] at h, fun _ _ _ _ _ r h => by simp [barscanref11_Encode.j2] at h, fun _ _ _ _ _ r h => by simp [barscanref11_Encode.j3] at h⟩
  | k + 1 => by
    obtain ⟨ih0, ih1, ih2, ih3⟩ := barscanref11_Encode.mono_l k
    refine ⟨?_, ?_, ?_, ?_⟩
    · intro y0 y1 y2 y3
      unfold barscanref11_Encode.j0
      repeat' with_reducible first | exact ih0 _ _ _ _ | exact ih1 _ _ _ _ _ | exact ih2 _ _ _ _ _ | exact ih3 _ _ _ _ _ | exact barscanref11_addition.mono _ _ | exact barscanref11_complete.mono _ _ _ | exact barscanref11_digits.mono _ _ | exact barscanref11_join.mono _ _ | exact barscanref11_symbol.mono _ _ _ | exact LeO.refl _ | exact LeO.none _ | refine LeO.ite ?_ ?_ | refine LeO.bind ?_ (fun _ => ?_)
    · intro y0 y1 y2 y3 y4
      unfold barscanref11_Encode.j1
      repeat' with_reducible first | exact ih0 _ _ _ _ | exact ih1 _ _ _ _ _ | exact ih2 _ _ _ _ _ | exact ih3 _ _ _ _ _ | exact barscanref11_addition.mono _ _ | exact barscanref11_complete.mono _ _ _ | exact barscanref11_digits.mono _ _ | exact barscanref11_join.mono _ _ | exact barscanref11_symbol.mono _ _ _ | exact LeO.refl _ | exact LeO.none _ | refine LeO.ite ?_ ?_ | refine LeO.bind ?_ (fun _ => ?_)
    · intro y0 y1 y2 y3 y4
      unfold barscanref11_Encode.j2
      repeat' with_reducible first | exact ih0 _ _ _ _ | exact ih1 _ _ _ _ _ | exact ih2 _ _ _ _ _ | exact ih3 _ _ _ _ _ | exact barscanref11_addition.mono _ _ | exact barscanref11_complete.mono _ _ _ | exact barscanref11_digits.mono _ _ | exact barscanref11_join.mono _ _ | exact barscanref11_symbol.mono _ _ _ | exact LeO.refl _ | exact LeO.none _ | refine LeO.ite ?_ ?_ | refine LeO.bind ?_ (fun _ => ?_)
    · intro y0 y1 y2 y3 y4
      unfold barscanref11_Encode.j3
      repeat' with_reducible first | exact ih0 _ _ _ _ | exact ih1 _ _ _ _ _ | exact ih2 _ _ _ _ _ | exact ih3 _ _ _ _ _ | exact barscanref11_addition.mono _ _ | exact barscanref11_complete.mono _ _ _ | exact barscanref11_digits.mono _ _ | exact barscanref11_join.mono _ _ | exact barscanref11_symbol.mono _ _ _ | exact LeO.refl _ | exact LeO.none _ | refine LeO.ite ?_ ?_ | refine LeO.bind ?_ (fun _ => ?_)
theorem barscanref11_Encode.mono : ∀ a0 a1 a2 k, LeO (barscanref11_Encode.f k a0 a1 a2) (barscanref11_Encode.f (k + 1) a0 a1 a2) := by
  intro a0 a1 a2 k
  obtain ⟨ih0, ih1, ih2, ih3⟩ := barscanref11_Encode.mono_l k
  unfold barscanref11_Encode.f
  repeat' with_reducible first | exact ih0 _ _ _ _ | exact ih1 _ _ _ _ _ | exact ih2 _ _ _ _ _ | exact ih3 _ _ _ _ _ | exact barscanref11_addition.mono _ _ | exact barscanref11_complete.mono _ _ _ | exact barscanref11_digits.mono _ _ | exact barscanref11_join.mono _ _ | exact barscanref11_symbol.mono _ _ _ | exact LeO.refl _ | exact LeO.none _ | refine LeO.ite ?_ ?_ | refine LeO.bind ?_ (fun _ => ?_)
set_option maxHeartbeats 8000000 in
set_option maxRecDepth 100000 in
theorem barscanref11_Encode.calls (k : Nat) (a0 : Int) (a1 : ByteArray) (a2 : ByteArray) (r1 : List Bool) (r2 : Int) (w : World) (h : barscanref11_Encode.f k a0 a1 a2 = some (r1, r2)) :
    Calls Tryz.prog 12 #[.int .i64 a0, .string a1, .string a2] w fun e w' => ∃ v0_ : Value, e = .returned (.tuple #[v0_, .int .i64 r2]) ∧ Kd.R Kd.bool 4 w' w.heap.size (fun _ => True) v0_ r1 ∧ Below w.heap.size w w' := by
 have HB := Aside0.mk (Below.refl w.heap.size w)
 have H := h
 clear h
 unfold barscanref11_Encode.f at H
 replace H := bd H
 obtain ⟨t332, A4, H⟩ := H
 replace H := ifc H
 obtain ⟨c5, H⟩ | ⟨c5, H⟩ := H
 rotate_left
 ·have c5b0 : (t332 == 0) = false := beq_eq_false_iff_ne.mpr c5
  have c5b1 : (t332 != 0) = true := bne_iff_ne.mpr c5
  simp only [Option.some.injEq, Prod.mk.injEq] at H
  obtain ⟨rfl, rfl⟩ := H
  go_enter Tryz.func12, Tryz.ntmps12
  go_wp2_with (first | ((with_reducible refine gate_callee (f := 34) rfl ?_); refine goesL_ (some 13) rfl rfl Tryz.func34 kr rfl #[.int .i64 a0, .string a1] rfl ar ?_; (with_reducible refine (barscanref11_complete.calls k a0 a1 t332 _ A4.out).mono ?_); rintro e w55 ⟨rfl, hb⟩; refine ⟨_, rfl, ?_⟩; replace HB := Aside0.mk (below_step bw hb); clear hb))
  go_ret2
  exact ⟨_, es, by first | exact Kd.R_nil _ _ _ _ _ | exact Kd.N_nil _ _ _ _ _ | exact Kd.V_nil _ _ _ _ _ | exact Kd.Q_nil _ _ _ _ _ | exact Kd.S_nil _ _ _ _ _, bw⟩
 have c5b0 : (t332 == 0) = true := beq_iff_eq.mpr c5
 have c5b1 : (t332 != 0) = false := bne_eq_false_iff_eq.mpr c5
 clear c5
 replace H := bd H
 obtain ⟨t333, A6, H⟩ := H
 by_cases c7 : t333 = true
 rotate_left
 ·replace c7 := Bool.eq_false_iff.mpr c7
  subst c7
  rw [if_neg (show ¬ (false = true) by decide)] at H
  simp only [Option.some.injEq, Prod.mk.injEq] at H
  obtain ⟨rfl, rfl⟩ := H
  go_enter Tryz.func12, Tryz.ntmps12
  go_wp2_with (first | ((with_reducible refine gate_callee (f := 34) rfl ?_); refine goesL_ (some 13) rfl rfl Tryz.func34 kr rfl #[.int .i64 a0, .string a1] rfl ar ?_; (with_reducible refine (barscanref11_complete.calls k a0 a1 t332 _ A4.out).mono ?_); rintro e w54 ⟨rfl, hb⟩; refine ⟨_, rfl, ?_⟩; replace HB := Aside0.mk (below_step bw hb); clear hb) | ((with_reducible refine gate_callee (f := 35) rfl ?_); refine goesL_ (some 18) rfl rfl Tryz.func35 kr rfl #[.string a2] rfl ar ?_; (with_reducible refine (barscanref11_digits.calls k a2 false _ A6.out).mono ?_); rintro e w' ⟨rfl, ⟨nd, rfl⟩⟩; refine ⟨_, rfl, ?_⟩))
  go_ret2
  exact ⟨_, es, by first | exact Kd.R_nil _ _ _ _ _ | exact Kd.N_nil _ _ _ _ _ | exact Kd.V_nil _ _ _ _ _ | exact Kd.Q_nil _ _ _ _ _ | exact Kd.S_nil _ _ _ _ _, bw⟩
 subst c7
 rw [if_pos rfl] at H
 have HC8 := Aside0.mk H
 clear H
 go_enter Tryz.func12, Tryz.ntmps12
 go_upto_region 6 with (first | ((with_reducible refine gate_callee (f := 34) rfl ?_); refine goesL_ (some 13) rfl rfl Tryz.func34 kr rfl #[.int .i64 a0, .string a1] rfl ar ?_; (with_reducible refine (barscanref11_complete.calls k a0 a1 t332 _ A4.out).mono ?_); rintro e w9 ⟨rfl, hb⟩; refine ⟨_, rfl, ?_⟩; replace HB := Aside0.mk (below_step bw hb); clear hb) | ((with_reducible refine gate_callee (f := 35) rfl ?_); refine goesL_ (some 18) rfl rfl Tryz.func35 kr rfl #[.string a2] rfl ar ?_; (with_reducible refine (barscanref11_digits.calls k a2 true _ A6.out).mono ?_); rintro e w' ⟨rfl, ⟨nd, rfl⟩⟩; refine ⟨_, rfl, ?_⟩))
 (try simp only [Act.put, List.setIfInBounds_toArray, List.set_cons_zero, List.set_cons_succ])
 go_cut [32] (fun v32 wc => ∃ (kq : Nat) (x32_7 : Bool), v32 = .bool x32_7 ∧ Aside0 (barscanref11_Encode.j0 kq a0 a1 a2 x32_7 = some (r1, r2)) ∧ Aside0 (kq ≤ k) ∧ Aside0 (Below w.heap.size w wc))
 case first =>
  have H := HC8.out
  clear HC8
  replace H := ifc H
  obtain ⟨c10, H⟩ | ⟨c10, H⟩ := H
  ·have c10b0 : ((a2.size : Int) == 0) = true := beq_iff_eq.mpr c10
   have c10b1 : ((a2.size : Int) != 0) = false := bne_eq_false_iff_eq.mpr c10
   clear c10
   (first | rw [c10b0] | (simp only [i64_w]; rw [c10b0]) | skip)
   have H' := Aside0.mk H
   clear H
   go_wp2
   go_meet
   case rel => exact ⟨_, (false), rs, H', ⟨la⟩, ⟨bw⟩⟩
  have c10b0 : ((a2.size : Int) == 0) = false := beq_eq_false_iff_ne.mpr c10
  have c10b1 : ((a2.size : Int) != 0) = true := bne_iff_ne.mpr c10
  (first | rw [c10b0] | (simp only [i64_w]; rw [c10b0]) | skip)
  replace H := ifc H
  obtain ⟨c11, H⟩ | ⟨c11, H⟩ := H
  ·have c11b0 : ((a2.size : Int) == 2) = true := beq_iff_eq.mpr c11
   have c11b1 : ((a2.size : Int) != 2) = false := bne_eq_false_iff_eq.mpr c11
   clear c11
   have H' := Aside0.mk H
   clear H
   go_wp2
   go_meet
   case rel => exact ⟨_, (false), rs, H', ⟨la⟩, ⟨bw⟩⟩
  have c11b0 : ((a2.size : Int) == 2) = false := beq_eq_false_iff_ne.mpr c11
  have c11b1 : ((a2.size : Int) != 2) = true := bne_iff_ne.mpr c11
  have H' := Aside0.mk H
  clear H
  go_wp2
  go_meet
  case rel => exact ⟨_, (((a2.size : Int) != 5)), rs, H', ⟨la⟩, ⟨bw⟩⟩
 case rest =>
  clear HC8
  try clear c1
  try clear p2
  try clear c3
  try clear c5
  try clear c5b0
  try clear c5b1
  try clear c7
  try clear c10
  try clear c10b0
  try clear c10b1
  try clear c11
  try clear c11b0
  try clear c11b1
  obtain ⟨kq, x32_7, rfl, HA, HJ7, HB⟩ := hcut
  cases kq with
  | zero => exact absurd HA.out (by simp [barscanref11_Encode.j0])
  | succ kj7 =>
   have H := HA.out
   clear HA
   simp only [barscanref11_Encode.j0] at H
   by_cases c12 : x32_7 = true
   ·subst c12
    rw [if_pos rfl] at H
    simp only [Option.some.injEq, Prod.mk.injEq] at H
    obtain ⟨rfl, rfl⟩ := H
    go_wp2
    go_ret2
    exact ⟨_, es, by first | exact Kd.R_nil _ _ _ _ _ | exact Kd.N_nil _ _ _ _ _ | exact Kd.V_nil _ _ _ _ _ | exact Kd.Q_nil _ _ _ _ _ | exact Kd.S_nil _ _ _ _ _, bw⟩
   replace c12 := Bool.eq_false_iff.mpr c12
   subst c12
   rw [if_neg (show ¬ (false = true) by decide)] at H
   have HC13 := Aside0.mk H
   clear H
   go_upto_if 34 with (fail)
   go_cut [9] (fun v9 wc => ∃ (kq : Nat) (x9_12 : Int), v9 = .int .i64 x9_12 ∧ Aside0 (barscanref11_Encode.j1 kq a0 a1 a2 x9_12 7 = some (r1, r2)) ∧ Aside0 (kq ≤ kj7) ∧ Aside0 (Below w.heap.size w wc))
   case first =>
    have H := HC13.out
    clear HC13
    replace H := ifc H
    obtain ⟨c14, H⟩ | ⟨c14, H⟩ := H
    rotate_left
    ·have c14b0 : (a0 == 1) = false := beq_eq_false_iff_ne.mpr c14
     have c14b1 : (a0 != 1) = true := bne_iff_ne.mpr c14
     (first | rw [c14b0] | (simp only [i64_w]; rw [c14b0]) | skip)
     have H' := Aside0.mk H
     clear H
     go_wp2
     go_meet
     case rel => exact ⟨_, (9), rs, H', ⟨by have := HJ7.out; first | omega | exact Nat.le_refl _⟩, ⟨bw⟩⟩
    have c14b0 : (a0 == 1) = true := beq_iff_eq.mpr c14
    have c14b1 : (a0 != 1) = false := bne_eq_false_iff_eq.mpr c14
    clear c14
    (first | rw [c14b0] | (simp only [i64_w]; rw [c14b0]) | skip)
    have H' := Aside0.mk H
    clear H
    go_wp2
    go_meet
    case rel => exact ⟨_, (11), rs, H', ⟨by have := HJ7.out; first | omega | exact Nat.le_refl _⟩, ⟨bw⟩⟩
   case rest =>
    clear HC13
    try clear c1
    try clear p2
    try clear c3
    try clear c5
    try clear c5b0
    try clear c5b1
    try clear c7
    try clear c10
    try clear c10b0
    try clear c10b1
    try clear c11
    try clear c11b0
    try clear c11b1
    try clear c12
    try clear c14
    try clear c14b0
    try clear c14b1
    try clear p2
    obtain ⟨kq, x9_12, rfl, HA, HJ12, HB⟩ := hcut
    cases kq with
    | zero => exact absurd HA.out (by simp [barscanref11_Encode.j1])
    | succ kj12 =>
     have H := HA.out
     clear HA
     simp only [barscanref11_Encode.j1] at H
     have HC15 := Aside0.mk H
     clear H
     go_upto_if 36 with (fail)
     go_cut [9] (fun v9 wc => ∃ (kq : Nat) (x9_14 : Int), v9 = .int .i64 x9_14 ∧ Aside0 (barscanref11_Encode.j2 kq a0 a1 a2 x9_14 7 = some (r1, r2)) ∧ Aside0 (kq ≤ kj12) ∧ Aside0 (Below w.heap.size w wc))
     case first =>
      have H := HC15.out
      clear HC15
      replace H := ifc H
      obtain ⟨c16, H⟩ | ⟨c16, H⟩ := H
      rotate_left
      ·have c16b0 : (a0 == 2) = false := beq_eq_false_iff_ne.mpr c16
       have c16b1 : (a0 != 2) = true := bne_iff_ne.mpr c16
       (first | rw [c16b0] | (simp only [i64_w]; rw [c16b0]) | skip)
       have H' := Aside0.mk H
       clear H
       go_wp2
       go_meet
       case rel => exact ⟨_, (x9_12), rs, H', ⟨by have := HJ7.out; have := HJ12.out; first | omega | exact Nat.le_refl _⟩, ⟨bw⟩⟩
      have c16b0 : (a0 == 2) = true := beq_iff_eq.mpr c16
      have c16b1 : (a0 != 2) = false := bne_eq_false_iff_eq.mpr c16
      clear c16
      (first | rw [c16b0] | (simp only [i64_w]; rw [c16b0]) | skip)
      have H' := Aside0.mk H
      clear H
      go_wp2
      go_meet
      case rel => exact ⟨_, (7), rs, H', ⟨by have := HJ7.out; have := HJ12.out; first | omega | exact Nat.le_refl _⟩, ⟨bw⟩⟩
     case rest =>
      clear HC15
      try clear c1
      try clear p2
      try clear c3
      try clear c5
      try clear c5b0
      try clear c5b1
      try clear c7
      try clear c10
      try clear c10b0
      try clear c10b1
      try clear c11
      try clear c11b0
      try clear c11b1
      try clear c12
      try clear c14
      try clear c14b0
      try clear c14b1
      try clear c16
      try clear c16b0
      try clear c16b1
      try clear p2
      obtain ⟨kq, x9_14, rfl, HA, HJ14, HB⟩ := hcut
      cases kq with
      | zero => exact absurd HA.out (by simp [barscanref11_Encode.j2])
      | succ kj14 =>
       have H := HA.out
       clear HA
       simp only [barscanref11_Encode.j2] at H
       have HC17 := Aside0.mk H
       clear H
       go_upto_if 38 with (fail)
       go_cut [10] (fun v10 wc => ∃ (kq : Nat) (x10_16 : Int), v10 = .int .i64 x10_16 ∧ Aside0 (barscanref11_Encode.j3 kq a0 a1 a2 x9_14 x10_16 = some (r1, r2)) ∧ Aside0 (kq ≤ kj14) ∧ Aside0 (Below w.heap.size w wc))
       case first =>
        have H := HC17.out
        clear HC17
        replace H := ifc H
        obtain ⟨c18, H⟩ | ⟨c18, H⟩ := H
        rotate_left
        ·have c18b0 : (a0 == 3) = false := beq_eq_false_iff_ne.mpr c18
         have c18b1 : (a0 != 3) = true := bne_iff_ne.mpr c18
         (first | rw [c18b0] | (simp only [i64_w]; rw [c18b0]) | skip)
         have H' := Aside0.mk H
         clear H
         go_wp2
         go_meet
         case rel => exact ⟨_, (7), rs, H', ⟨by have := HJ7.out; have := HJ12.out; have := HJ14.out; first | omega | exact Nat.le_refl _⟩, ⟨bw⟩⟩
        have c18b0 : (a0 == 3) = true := beq_iff_eq.mpr c18
        have c18b1 : (a0 != 3) = false := bne_eq_false_iff_eq.mpr c18
        clear c18
        (first | rw [c18b0] | (simp only [i64_w]; rw [c18b0]) | skip)
        have H' := Aside0.mk H
        clear H
        go_wp2
        go_meet
        case rel => exact ⟨_, (9), rs, H', ⟨by have := HJ7.out; have := HJ12.out; have := HJ14.out; first | omega | exact Nat.le_refl _⟩, ⟨bw⟩⟩
       case rest =>
        clear HC17
        try clear c1
        try clear p2
        try clear c3
        try clear c5
        try clear c5b0
        try clear c5b1
        try clear c7
        try clear c10
        try clear c10b0
        try clear c10b1
        try clear c11
        try clear c11b0
        try clear c11b1
        try clear c12
        try clear c14
        try clear c14b0
        try clear c14b1
        try clear c16
        try clear c16b0
        try clear c16b1
        try clear c18
        try clear c18b0
        try clear c18b1
        try clear p2
        obtain ⟨kq, x10_16, rfl, HA, HJ16, HB⟩ := hcut
        cases kq with
        | zero => exact absurd HA.out (by simp [barscanref11_Encode.j3])
        | succ kj16 =>
         have H := HA.out
         clear HA
         simp only [barscanref11_Encode.j3] at H
         replace H := ifc H
         obtain ⟨c19, H⟩ | ⟨c19, H⟩ := H
         ·have c19b0 : (a2.toList == ([] : List UInt8)) = true := beq_iff_eq.mpr c19
          have c19b1 : (a2.toList != ([] : List UInt8)) = false := bne_eq_false_iff_eq.mpr c19
          clear c19
          replace H := bd H
          obtain ⟨t334, A20, H⟩ := H
          replace H := bd H
          obtain ⟨t337, A21, H⟩ := H
          replace H := bd H
          obtain ⟨t340, A22, H⟩ := H
          obtain ⟨y343, hy343⟩ : ∃ y_ : List (List Bool), y_ = (([t334, t337, t340] : List (List Bool))) := ⟨_, rfl⟩
          replace H : ((barscanref11_join.f kj16 y343).bind fun t346 => (some (t346, 0))) = some (r1, r2) := by first | (rw [hy343]; with_reducible exact H) | (have H2_ := (Option.bind_some _ _).symm.trans H; rw [hy343]; with_reducible exact H2_) | (have H2_ := (Option.bind_some _ _).symm.trans H; with_reducible exact H2_) | with_reducible exact H | (rw [hy343]; exact H) | exact H
          have Ny343 := Aside0.mk hy343
          clear hy343
          replace H := bd H
          obtain ⟨t346, A23, H⟩ := H
          simp only [Option.some.injEq, Prod.mk.injEq] at H
          obtain ⟨rfl, rfl⟩ := H
          go_wp2_with (first | ((with_reducible refine gate_callee (f := 37) rfl ?_); refine goesL_ (some 42) rfl rfl Tryz.func37 kr rfl #[.int .i64 x9_14] rfl ar ?_; (with_reducible refine (barscanref11_light.calls x9_14 t334 _ A20.out).mono ?_); rintro e w24 ⟨v335, rfl, ho0, hb⟩; refine ⟨_, rfl, ?_⟩; have n0_ := Aside0.mk (Kd.R_lower ho0 (below_size bw)); have n1_ := Aside0.mk (below_step bw hb); clear HB; have HO336 := n0_; have HB := n1_; clear n0_ n1_; clear hb; (try clear ho0)) | ((with_reducible refine gate_callee (f := 38) rfl ?_); refine goesL_ (some 45) rfl rfl Tryz.func38 kr rfl #[.int .i64 a0, .string a1] rfl ar ?_; (with_reducible refine (barscanref11_symbol.calls kj16 a0 a1 t337 _ A21.out).mono ?_); rintro e w25 ⟨v338, rfl, ho0, hb⟩; refine ⟨_, rfl, ?_⟩; have n0_ := Aside0.mk (Kd.R_elder' (kd HO336) (Kd.R_base ho0) hb); have n1_ := Aside0.mk (Kd.R_lower (Kd.R_new' ho0 (Kd.R_lt (kd HO336))) (below_size bw)); have n2_ := Aside0.mk (below_step bw hb); clear HO336; clear HB; have HO336 := n0_; have HO339 := n1_; have HB := n2_; clear n0_ n1_ n2_; clear hb; (try clear ho0)) | ((with_reducible refine gate_callee (f := 37) rfl ?_); refine goesL_ (some 47) rfl rfl Tryz.func37 kr rfl #[.int .i64 x10_16] rfl ar ?_; (with_reducible refine (barscanref11_light.calls x10_16 t340 _ A22.out).mono ?_); rintro e w26 ⟨v341, rfl, ho0, hb⟩; refine ⟨_, rfl, ?_⟩; have n0_ := Aside0.mk (Kd.R_elder' (kd HO336) (Kd.R_base ho0) hb); have n1_ := Aside0.mk (Kd.R_elder' (kd HO339) (Kd.R_base ho0) hb); have n2_ := Aside0.mk (Kd.R_lower (Kd.R_new' (Kd.R_new' ho0 (Kd.R_lt (kd HO336))) (Kd.R_lt (kd HO339))) (below_size bw)); have n3_ := Aside0.mk (below_step bw hb); clear HO336; clear HO339; clear HB; have HO336 := n0_; have HO339 := n1_; have HO342 := n2_; have HB := n3_; clear n0_ n1_ n2_ n3_; clear hb; (try clear ho0); obtain ⟨Ao27, co27, eo27⟩ := Kd.R_slice HO336.out; subst eo27; obtain ⟨Ao28, co28, eo28⟩ := Kd.R_slice HO339.out; subst eo28; obtain ⟨Ao29, co29, eo29⟩ := Kd.R_slice HO342.out; subst eo29) | ((with_reducible refine gate_dst (N := 48) rfl ?_); (try (refine gate_guard (by rfl) ?_; dsimp only)); refine Kd.N_lit (Kd.slice 4 Kd.bool) _ 23 ?hg (N' := 48) ?hd (xs := ([t334, t337, t340] : List (List Bool))) (inner := [.slice Ao27 t334.length co27, .slice Ao28 t337.length co28, .slice Ao29 t340.length co29]) (ok := (fun _ => True)) (okp := (fun _ => True)) ?hr ?hp (fun _ hk => hk) ((show ∀ k_, w26.heap.size ≤ k_ → (fun _ => True) k_ from fun k_ hk => trivial) _ (Nat.le_refl _)) (Below.refl _ _) (Nat.le_refl _) (by simp) ?_; (case hd => rfl); (case hg => rfl); (case hr => first | (go_simp; done) | (go_simp; rfl)); (case hp => exact (Reps.one (show Kd.FK (Kd.slice 4 Kd.bool) _ _ t334 [.slice Ao27 t334.length co27] from (Kd.FK_slice_mk (Kd.R_reads' (Kd.R_mono (ok' := (fun _ => True)) (HO336.out) (fun k_ hk => trivial))).2.1 (Kd.R_F (Kd.R_mono (ok' := (fun _ => True)) (HO336.out) (fun k_ hk => trivial))))) (Reps.one (show Kd.FK (Kd.slice 4 Kd.bool) _ _ t337 [.slice Ao28 t337.length co28] from (Kd.FK_slice_mk (Kd.R_reads' (Kd.R_mono (ok' := (fun _ => True)) (HO339.out) (fun k_ hk => trivial))).2.1 (Kd.R_F (Kd.R_mono (ok' := (fun _ => True)) (HO339.out) (fun k_ hk => trivial))))) (Reps.one (show Kd.FK (Kd.slice 4 Kd.bool) _ _ t340 [.slice Ao29 t340.length co29] from (Kd.FK_slice_mk (Kd.R_reads' (Kd.R_mono (ok' := (fun _ => True)) (HO342.out) (fun k_ hk => trivial))).2.1 (Kd.R_F (Kd.R_mono (ok' := (fun _ => True)) (HO342.out) (fun k_ hk => trivial))))) (Reps.none _ _))))); intro v344 w30 ho31 hb hg_ hnew_; clear hg_ hnew_; (first | rw [← Ny343.out] at ho31 | (simp only [Int.reduceToNat] at ho31; rw [← Ny343.out] at ho31)); have n0_ := Aside0.mk (Kd.N_lower ho31 (below_size bw)); have n1_ := Aside0.mk (below_step bw hb); clear HB; clear HO336; clear HO339; clear HO342; have HO345 := n0_; have HB := n1_; clear n0_ n1_; clear hb ho31; obtain ⟨Ao32, co32, eo32⟩ := Kd.N_slice HO345.out; subst eo32) | ((with_reducible refine gate_callee (f := 36) rfl ?_); refine goesL_ (some 49) rfl rfl Tryz.func36 kr rfl #[.slice Ao32 y343.length co32] rfl ar ?_; (with_reducible refine (barscanref11_join.calls kj16 _ _ y343 t346 _ ?side1 ?side2 A23.out).mono ?_); (case side1 => repeat (first | exact (Kd.N_reads' HO345.out).2.2 | (with_reducible refine Kd.C_alloc ?_ _) | (with_reducible refine Kd.C_drewN ?_ _) | (with_reducible refine Kd.C_drew ?_))); (case side2 => exact (Kd.N_reads' HO345.out).2.1); rintro e w33 ⟨v347, rfl, ho0, hb⟩; refine ⟨_, rfl, ?_⟩; have n0_ := Aside0.mk (Kd.N_elder' (by (with_reducible repeat (first | apply Kd.N_alloc | apply Kd.N_drewN | apply Kd.N_drew)); exact HO345.out) (Kd.R_base ho0) hb); have n1_ := Aside0.mk (Kd.R_lower ho0 (below_size bw)); have n2_ := Aside0.mk (below_step bw hb); clear HO345; clear HB; have HO345 := n0_; have HO348 := n1_; have HB := n2_; clear n0_ n1_ n2_; clear hb; (try clear ho0)))
          go_ret2
          exact ⟨_, es, kd HO348, bw⟩
         have c19b0 : (a2.toList == ([] : List UInt8)) = false := beq_eq_false_iff_ne.mpr c19
         have c19b1 : (a2.toList != ([] : List UInt8)) = true := bne_iff_ne.mpr c19
         replace H := bd H
         obtain ⟨t349, A34, H⟩ := H
         replace H := bd H
         obtain ⟨t352, A35, H⟩ := H
         replace H := bd H
         obtain ⟨t355, A36, H⟩ := H
         replace H := bd H
         obtain ⟨t358, A37, H⟩ := H
         replace H := bd H
         obtain ⟨t361, A38, H⟩ := H
         obtain ⟨y364, hy364⟩ : ∃ y_ : List (List Bool), y_ = (([t349, t352, t355, t358, t361] : List (List Bool))) := ⟨_, rfl⟩
         replace H : ((barscanref11_join.f kj16 y364).bind fun t367 => (some (t367, 0))) = some (r1, r2) := by first | (rw [hy364]; with_reducible exact H) | (have H2_ := (Option.bind_some _ _).symm.trans H; rw [hy364]; with_reducible exact H2_) | (have H2_ := (Option.bind_some _ _).symm.trans H; with_reducible exact H2_) | with_reducible exact H | (rw [hy364]; exact H) | exact H
         have Ny364 := Aside0.mk hy364
         clear hy364
         replace H := bd H
         obtain ⟨t367, A39, H⟩ := H
         simp only [Option.some.injEq, Prod.mk.injEq] at H
         obtain ⟨rfl, rfl⟩ := H
         go_wp2_with (first | ((with_reducible refine gate_callee (f := 37) rfl ?_); refine goesL_ (some 51) rfl rfl Tryz.func37 kr rfl #[.int .i64 x9_14] rfl ar ?_; (with_reducible refine (barscanref11_light.calls x9_14 t349 _ A34.out).mono ?_); rintro e w40 ⟨v350, rfl, ho0, hb⟩; refine ⟨_, rfl, ?_⟩; have n0_ := Aside0.mk (Kd.R_lower ho0 (below_size bw)); have n1_ := Aside0.mk (below_step bw hb); clear HB; have HO351 := n0_; have HB := n1_; clear n0_ n1_; clear hb; (try clear ho0)) | ((with_reducible refine gate_callee (f := 38) rfl ?_); refine goesL_ (some 54) rfl rfl Tryz.func38 kr rfl #[.int .i64 a0, .string a1] rfl ar ?_; (with_reducible refine (barscanref11_symbol.calls kj16 a0 a1 t352 _ A35.out).mono ?_); rintro e w41 ⟨v353, rfl, ho0, hb⟩; refine ⟨_, rfl, ?_⟩; have n0_ := Aside0.mk (Kd.R_elder' (kd HO351) (Kd.R_base ho0) hb); have n1_ := Aside0.mk (Kd.R_lower (Kd.R_new' ho0 (Kd.R_lt (kd HO351))) (below_size bw)); have n2_ := Aside0.mk (below_step bw hb); clear HO351; clear HB; have HO351 := n0_; have HO354 := n1_; have HB := n2_; clear n0_ n1_ n2_; clear hb; (try clear ho0)) | ((with_reducible refine gate_callee (f := 37) rfl ?_); refine goesL_ (some 55) rfl rfl Tryz.func37 kr rfl #[.int .i64 9] rfl ar ?_; (with_reducible refine (barscanref11_light.calls 9 t355 _ A36.out).mono ?_); rintro e w42 ⟨v356, rfl, ho0, hb⟩; refine ⟨_, rfl, ?_⟩; have n0_ := Aside0.mk (Kd.R_elder' (kd HO351) (Kd.R_base ho0) hb); have n1_ := Aside0.mk (Kd.R_elder' (kd HO354) (Kd.R_base ho0) hb); have n2_ := Aside0.mk (Kd.R_lower (Kd.R_new' (Kd.R_new' ho0 (Kd.R_lt (kd HO351))) (Kd.R_lt (kd HO354))) (below_size bw)); have n3_ := Aside0.mk (below_step bw hb); clear HO351; clear HO354; clear HB; have HO351 := n0_; have HO354 := n1_; have HO357 := n2_; have HB := n3_; clear n0_ n1_ n2_ n3_; clear hb; (try clear ho0)) | ((with_reducible refine gate_callee (f := 39) rfl ?_); refine goesL_ (some 57) rfl rfl Tryz.func39 kr rfl #[.string a2] rfl ar ?_; (with_reducible refine (barscanref11_addition.calls kj16 a2 t358 _ A37.out).mono ?_); rintro e w43 ⟨v359, rfl, ho0, hb⟩; refine ⟨_, rfl, ?_⟩; have n0_ := Aside0.mk (Kd.R_elder' (kd HO351) (Kd.R_base ho0) hb); have n1_ := Aside0.mk (Kd.R_elder' (kd HO354) (Kd.R_base ho0) hb); have n2_ := Aside0.mk (Kd.R_elder' (kd HO357) (Kd.R_base ho0) hb); have n3_ := Aside0.mk (Kd.R_lower (Kd.R_new' (Kd.R_new' (Kd.R_new' ho0 (Kd.R_lt (kd HO351))) (Kd.R_lt (kd HO354))) (Kd.R_lt (kd HO357))) (below_size bw)); have n4_ := Aside0.mk (below_step bw hb); clear HO351; clear HO354; clear HO357; clear HB; have HO351 := n0_; have HO354 := n1_; have HO357 := n2_; have HO360 := n3_; have HB := n4_; clear n0_ n1_ n2_ n3_ n4_; clear hb; (try clear ho0)) | ((with_reducible refine gate_callee (f := 37) rfl ?_); refine goesL_ (some 58) rfl rfl Tryz.func37 kr rfl #[.int .i64 7] rfl ar ?_; (with_reducible refine (barscanref11_light.calls 7 t361 _ A38.out).mono ?_); rintro e w44 ⟨v362, rfl, ho0, hb⟩; refine ⟨_, rfl, ?_⟩; have n0_ := Aside0.mk (Kd.R_elder' (kd HO351) (Kd.R_base ho0) hb); have n1_ := Aside0.mk (Kd.R_elder' (kd HO354) (Kd.R_base ho0) hb); have n2_ := Aside0.mk (Kd.R_elder' (kd HO357) (Kd.R_base ho0) hb); have n3_ := Aside0.mk (Kd.R_elder' (kd HO360) (Kd.R_base ho0) hb); have n4_ := Aside0.mk (Kd.R_lower (Kd.R_new' (Kd.R_new' (Kd.R_new' (Kd.R_new' ho0 (Kd.R_lt (kd HO351))) (Kd.R_lt (kd HO354))) (Kd.R_lt (kd HO357))) (Kd.R_lt (kd HO360))) (below_size bw)); have n5_ := Aside0.mk (below_step bw hb); clear HO351; clear HO354; clear HO357; clear HO360; clear HB; have HO351 := n0_; have HO354 := n1_; have HO357 := n2_; have HO360 := n3_; have HO363 := n4_; have HB := n5_; clear n0_ n1_ n2_ n3_ n4_ n5_; clear hb; (try clear ho0); obtain ⟨Ao45, co45, eo45⟩ := Kd.R_slice HO351.out; subst eo45; obtain ⟨Ao46, co46, eo46⟩ := Kd.R_slice HO354.out; subst eo46; obtain ⟨Ao47, co47, eo47⟩ := Kd.R_slice HO357.out; subst eo47; obtain ⟨Ao48, co48, eo48⟩ := Kd.R_slice HO360.out; subst eo48; obtain ⟨Ao49, co49, eo49⟩ := Kd.R_slice HO363.out; subst eo49) | ((with_reducible refine gate_dst (N := 59) rfl ?_); (try (refine gate_guard (by rfl) ?_; dsimp only)); refine Kd.N_lit (Kd.slice 4 Kd.bool) _ 23 ?hg (N' := 59) ?hd (xs := ([t349, t352, t355, t358, t361] : List (List Bool))) (inner := [.slice Ao45 t349.length co45, .slice Ao46 t352.length co46, .slice Ao47 t355.length co47, .slice Ao48 t358.length co48, .slice Ao49 t361.length co49]) (ok := (fun _ => True)) (okp := (fun _ => True)) ?hr ?hp (fun _ hk => hk) ((show ∀ k_, w44.heap.size ≤ k_ → (fun _ => True) k_ from fun k_ hk => trivial) _ (Nat.le_refl _)) (Below.refl _ _) (Nat.le_refl _) (by simp) ?_; (case hd => rfl); (case hg => rfl); (case hr => first | (go_simp; done) | (go_simp; rfl)); (case hp => exact (Reps.one (show Kd.FK (Kd.slice 4 Kd.bool) _ _ t349 [.slice Ao45 t349.length co45] from (Kd.FK_slice_mk (Kd.R_reads' (Kd.R_mono (ok' := (fun _ => True)) (HO351.out) (fun k_ hk => trivial))).2.1 (Kd.R_F (Kd.R_mono (ok' := (fun _ => True)) (HO351.out) (fun k_ hk => trivial))))) (Reps.one (show Kd.FK (Kd.slice 4 Kd.bool) _ _ t352 [.slice Ao46 t352.length co46] from (Kd.FK_slice_mk (Kd.R_reads' (Kd.R_mono (ok' := (fun _ => True)) (HO354.out) (fun k_ hk => trivial))).2.1 (Kd.R_F (Kd.R_mono (ok' := (fun _ => True)) (HO354.out) (fun k_ hk => trivial))))) (Reps.one (show Kd.FK (Kd.slice 4 Kd.bool) _ _ t355 [.slice Ao47 t355.length co47] from (Kd.FK_slice_mk (Kd.R_reads' (Kd.R_mono (ok' := (fun _ => True)) (HO357.out) (fun k_ hk => trivial))).2.1 (Kd.R_F (Kd.R_mono (ok' := (fun _ => True)) (HO357.out) (fun k_ hk => trivial))))) (Reps.one (show Kd.FK (Kd.slice 4 Kd.bool) _ _ t358 [.slice Ao48 t358.length co48] from (Kd.FK_slice_mk (Kd.R_reads' (Kd.R_mono (ok' := (fun _ => True)) (HO360.out) (fun k_ hk => trivial))).2.1 (Kd.R_F (Kd.R_mono (ok' := (fun _ => True)) (HO360.out) (fun k_ hk => trivial))))) (Reps.one (show Kd.FK (Kd.slice 4 Kd.bool) _ _ t361 [.slice Ao49 t361.length co49] from (Kd.FK_slice_mk (Kd.R_reads' (Kd.R_mono (ok' := (fun _ => True)) (HO363.out) (fun k_ hk => trivial))).2.1 (Kd.R_F (Kd.R_mono (ok' := (fun _ => True)) (HO363.out) (fun k_ hk => trivial))))) (Reps.none _ _))))))); intro v365 w50 ho51 hb hg_ hnew_; clear hg_ hnew_; (first | rw [← Ny364.out] at ho51 | (simp only [Int.reduceToNat] at ho51; rw [← Ny364.out] at ho51)); have n0_ := Aside0.mk (Kd.N_lower ho51 (below_size bw)); have n1_ := Aside0.mk (below_step bw hb); clear HB; clear HO351; clear HO354; clear HO357; clear HO360; clear HO363; have HO366 := n0_; have HB := n1_; clear n0_ n1_; clear hb ho51; obtain ⟨Ao52, co52, eo52⟩ := Kd.N_slice HO366.out; subst eo52) | ((with_reducible refine gate_callee (f := 36) rfl ?_); refine goesL_ (some 60) rfl rfl Tryz.func36 kr rfl #[.slice Ao52 y364.length co52] rfl ar ?_; (with_reducible refine (barscanref11_join.calls kj16 _ _ y364 t367 _ ?side1 ?side2 A39.out).mono ?_); (case side1 => repeat (first | exact (Kd.N_reads' HO366.out).2.2 | (with_reducible refine Kd.C_alloc ?_ _) | (with_reducible refine Kd.C_drewN ?_ _) | (with_reducible refine Kd.C_drew ?_))); (case side2 => exact (Kd.N_reads' HO366.out).2.1); rintro e w53 ⟨v368, rfl, ho0, hb⟩; refine ⟨_, rfl, ?_⟩; have n0_ := Aside0.mk (Kd.N_elder' (by (with_reducible repeat (first | apply Kd.N_alloc | apply Kd.N_drewN | apply Kd.N_drew)); exact HO366.out) (Kd.R_base ho0) hb); have n1_ := Aside0.mk (Kd.R_lower ho0 (below_size bw)); have n2_ := Aside0.mk (below_step bw hb); clear HO366; clear HB; have HO366 := n0_; have HO369 := n1_; have HB := n2_; clear n0_ n1_ n2_; clear hb; (try clear ho0)))
         go_ret2
         exact ⟨_, es, kd HO369, bw⟩

end Go.Proofs.YtjmeekceecpemaaGreatDoor.Q

namespace Go.Proofs.YtjmeekceecpemaaGreatDoor.Q
open Go.RowKit Go.Proofs.YtjmeekceecpemaaGreatDoorW.PrintWords Go.Proofs.YtjmeekceecpemaaGreatDoorW.PrintLast Go.Proofs.YtjmeekceecpemaaGreatDoorW.PrintMore

set_option linter.unusedVariables false
set_option linter.unusedSimpArgs false

/-! ### barscanref11_Equal: function 40 -/
def barscanref11_Equal.l0 : Nat → List Bool → List Bool → Int → Option (Bool)
  | 0, _, _, _ => none
  | k + 1, x0, x1, x5 => if x5 < (x0.length : Int) then (if 0 ≤ x5 then (if x5 < (x1.length : Int) then (if ((rdOf false x0 x5) != (rdOf false x1 x5)) = true then (some false) else (barscanref11_Equal.l0 k x0 x1 (wrap64 (x5 + 1)))) else (none)) else (none)) else (some true)
def barscanref11_Equal.f (k : Nat) (l0 : List Bool) (l1 : List Bool) : Option (Bool) := if (l0.length : Int) = (l1.length : Int) then (barscanref11_Equal.l0 k l0 l1 0) else (some false)
theorem barscanref11_Equal.mono_l : ∀ k, (∀ y0 y1 y2, LeO (barscanref11_Equal.l0 k y0 y1 y2) (barscanref11_Equal.l0 (k + 1) y0 y1 y2))
  | 0 => fun _ _ _ r h => by simp [barscanref11_Equal.l0] at h
  | k + 1 => by
    have ih0 := barscanref11_Equal.mono_l k
    · intro y0 y1 y2
      unfold barscanref11_Equal.l0
      repeat' with_reducible first | exact ih0 _ _ _ | exact LeO.refl _ | exact LeO.none _ | refine LeO.ite ?_ ?_ | refine LeO.bind ?_ (fun _ => ?_)
theorem barscanref11_Equal.mono : ∀ a0 a1 k, LeO (barscanref11_Equal.f k a0 a1) (barscanref11_Equal.f (k + 1) a0 a1) := by
  intro a0 a1 k
  have ih0 := barscanref11_Equal.mono_l k
  unfold barscanref11_Equal.f
  repeat' with_reducible first | exact ih0 _ _ _ | exact LeO.refl _ | exact LeO.none _ | refine LeO.ite ?_ ?_ | refine LeO.bind ?_ (fun _ => ?_)
set_option maxHeartbeats 8000000 in
set_option maxRecDepth 100000 in
theorem barscanref11_Equal.calls (k : Nat) (A0 : Option Addr) (c0 : Nat) (l0 : List Bool) (A1 : Option Addr) (c1 : Nat) (l1 : List Bool) (r : Bool) (w : World) (hr0 : Kd.C Kd.bool w A0 l0.length l0) (hc0 : l0.length ≤ c0) (hr1 : Kd.C Kd.bool w A1 l1.length l1) (hc1 : l1.length ≤ c1) (h : barscanref11_Equal.f k l0 l1 = some r) :
    Calls Tryz.prog 40 #[.slice A0 l0.length c0, .slice A1 l1.length c1] w fun e w' => e = .returned (.bool r) ∧ Drawn0 w w' := by
 have HR0 := Aside0.mk hr0
 have HC0 := Aside0.mk hc0
 clear hr0 hc0
 have HR1 := Aside0.mk hr1
 have HC1 := Aside0.mk hc1
 clear hr1 hc1
 have H := h
 clear h
 unfold barscanref11_Equal.f at H
 replace H := ifc H
 obtain ⟨c3, H⟩ | ⟨c3, H⟩ := H
 rotate_left
 ·have c3b0 : ((l0.length : Int) == (l1.length : Int)) = false := beq_eq_false_iff_ne.mpr c3
  have c3b1 : ((l0.length : Int) != (l1.length : Int)) = true := bne_iff_ne.mpr c3
  have c3b2 : (l0.length == l1.length) = false := by first | simpa using c3 | (simp at c3 ⊢; omega)
  obtain rfl := Option.some.inj H
  go_enter Tryz.func40, Tryz.ntmps40
  go_wp2
  repeat (go_quiet (fail); try go_wp2)
  go_ret
  exact ⟨rs, by repeat (first | exact Drawn0.refl _ | apply Drawn0.step)⟩
 have c3b0 : ((l0.length : Int) == (l1.length : Int)) = true := beq_iff_eq.mpr c3
 have c3b1 : ((l0.length : Int) != (l1.length : Int)) = false := bne_eq_false_iff_eq.mpr c3
 have c3b2 : (l0.length == l1.length) = true := by first | simpa using c3 | (simp at c3 ⊢; omega)
 clear c3
 have H' := Aside0.mk H
 clear H
 go_enter Tryz.func40, Tryz.ntmps40
 go_wp2
 repeat (go_quiet (fail); try go_wp2)
 go_loopg [5] k (fun kq v5 w' => ∃ (x5_1 : Int), v5 = .int .i64 x5_1 ∧ Aside0 (barscanref11_Equal.l0 kq l0 l1 x5_1 = some r) ∧ Aside0 (kq ≤ k) ∧ Drawn0 w w')
 case atStart => exact ⟨(0), rs, H', ⟨Nat.le_refl _⟩, by repeat (first | exact Drawn0.refl _ | apply Drawn0.step)⟩
 case round =>
  clear H'
  try clear c1
  try clear p2
  try clear c3
  try clear c3b0
  try clear c3b1
  try clear c3b2
  obtain ⟨x5_1, rfl, HA, HK1, ⟨m1, rfl⟩⟩ := hrel
  cases gk with
  | zero => exact absurd HA.out (by simp [barscanref11_Equal.l0])
  | succ k1 =>
   have H := HA.out
   clear HA
   simp only [barscanref11_Equal.l0] at H
   replace H := ifc H
   obtain ⟨c4, H⟩ | ⟨c4, H⟩ := H
   rotate_left
   ·have c4b0 : decide (x5_1 < (l0.length : Int)) = false := decide_eq_false c4
    clear c4
    obtain rfl := Option.some.inj H
    go_wp2
    repeat (go_quiet (fail); try go_wp2)
    go_ret
    exact ⟨rs, by repeat (first | exact Drawn0.refl _ | apply Drawn0.step)⟩
   have c4b0 : decide (x5_1 < (l0.length : Int)) = true := decide_eq_true c4
   clear c4
   replace H := ifn H
   obtain ⟨c5, H⟩ := H
   have c5b0 : decide (0 ≤ x5_1) = true := decide_eq_true c5
   clear c5
   by_cases c6 : x5_1 < (l1.length : Int)
   rotate_left
   ·rw [if_neg c6] at H
    exact absurd H (by simp)
   rw [if_pos c6] at H
   have c6b0 : decide (x5_1 < (l1.length : Int)) = true := decide_eq_true c6
   clear c6
   replace H := ifc H
   obtain ⟨c7, H⟩ | ⟨c7, H⟩ := H
   ·have c7b0 : ((rdOf false l0 x5_1) != (rdOf false l1 x5_1)) = true := c7
    (try (have c7b1 : decide ((rdOf false l0 x5_1) = (rdOf false l1 x5_1)) = false := by simpa using c7))
    (try (have c7b2 : ((rdOf false l0 x5_1) == (rdOf false l1 x5_1)) = false := by simpa using c7))
    (try (have c7b3 : ¬ ((rdOf false l0 x5_1) = (rdOf false l1 x5_1)) := by simpa using c7))
    clear c7
    obtain rfl := Option.some.inj H
    have p370 : 0 ≤ (x5_1 : Int) := of_decide_eq_true am
    have q370 : x5_1 < (l0.length : Int) := of_decide_eq_true am
    obtain ⟨ad370, e370, hx370_0⟩ := Kd.at_bool HR0.out x5_1 p370 q370
    cases e370
    replace p370 := eq_true p370
    replace q370 := eq_true q370
    try have q370s := s1 q370
    have p371 : 0 ≤ (x5_1 : Int) := of_decide_eq_true am
    have q371 : x5_1 < (l1.length : Int) := of_decide_eq_true am
    obtain ⟨ad371, e371, hx371_0⟩ := Kd.at_bool HR1.out x5_1 p371 q371
    cases e371
    replace p371 := eq_true p371
    replace q371 := eq_true q371
    try have q371s := s1 q371
    go_wp2
    repeat (go_quiet (fail); try go_wp2)
    go_ret
    exact ⟨rs, by repeat (first | exact Drawn0.refl _ | apply Drawn0.step)⟩
   have c7b0 : ((rdOf false l0 x5_1) != (rdOf false l1 x5_1)) = false := by simpa using c7
   (try (have c7b1 : decide ((rdOf false l0 x5_1) = (rdOf false l1 x5_1)) = true := by simpa using c7))
   (try (have c7b2 : ((rdOf false l0 x5_1) == (rdOf false l1 x5_1)) = true := by simpa using c7))
   clear c7
   have H' := Aside0.mk H
   clear H
   have p370 : 0 ≤ (x5_1 : Int) := of_decide_eq_true am
   have q370 : x5_1 < (l0.length : Int) := of_decide_eq_true am
   obtain ⟨ad370, e370, hx370_0⟩ := Kd.at_bool HR0.out x5_1 p370 q370
   cases e370
   replace p370 := eq_true p370
   replace q370 := eq_true q370
   try have q370s := s1 q370
   have p371 : 0 ≤ (x5_1 : Int) := of_decide_eq_true am
   have q371 : x5_1 < (l1.length : Int) := of_decide_eq_true am
   obtain ⟨ad371, e371, hx371_0⟩ := Kd.at_bool HR1.out x5_1 p371 q371
   cases e371
   replace p371 := eq_true p371
   replace q371 := eq_true q371
   try have q371s := s1 q371
   go_wp2
   repeat (go_quiet (fail); try go_wp2)
   go_roundg k1
   case measure => have := HK1.out; omega
   case rel => exact ⟨(wrap64 (x5_1 + 1)), rs, H', ⟨by have := HK1.out; omega⟩, by repeat (first | exact Drawn0.refl _ | apply Drawn0.step)⟩

end Go.Proofs.YtjmeekceecpemaaGreatDoor.Q

namespace Go.Proofs.YtjmeekceecpemaaGreatDoor.Q
open Go.RowKit Go.Proofs.YtjmeekceecpemaaGreatDoorW.PrintWords Go.Proofs.YtjmeekceecpemaaGreatDoorW.PrintLast Go.Proofs.YtjmeekceecpemaaGreatDoorW.PrintMore

set_option linter.unusedVariables false
set_option linter.unusedSimpArgs false

/-! ### barscanlaw11_equal: function 13 -/
def barscanlaw11_equal.f (k : Nat) (l0 : List Bool) (l1 : List Bool) : Option (Bool) := (barscanref11_Equal.f k l0 l1).bind fun t372 => (some t372)
theorem barscanlaw11_equal.mono : ∀ a0 a1 k, LeO (barscanlaw11_equal.f k a0 a1) (barscanlaw11_equal.f (k + 1) a0 a1) := by
  intro a0 a1 k
  unfold barscanlaw11_equal.f
  repeat' with_reducible first | exact barscanref11_Equal.mono _ _ _ | exact LeO.refl _ | exact LeO.none _ | refine LeO.ite ?_ ?_ | refine LeO.bind ?_ (fun _ => ?_)
set_option maxHeartbeats 8000000 in
set_option maxRecDepth 100000 in
theorem barscanlaw11_equal.calls (k : Nat) (A0 : Option Addr) (c0 : Nat) (l0 : List Bool) (A1 : Option Addr) (c1 : Nat) (l1 : List Bool) (r : Bool) (w : World) (hr0 : Kd.C Kd.bool w A0 l0.length l0) (hc0 : l0.length ≤ c0) (hr1 : Kd.C Kd.bool w A1 l1.length l1) (hc1 : l1.length ≤ c1) (h : barscanlaw11_equal.f k l0 l1 = some r) :
    Calls Tryz.prog 13 #[.slice A0 l0.length c0, .slice A1 l1.length c1] w fun e w' => e = .returned (.bool r) ∧ Drawn0 w w' := by
 have HR0 := Aside0.mk hr0
 have HC0 := Aside0.mk hc0
 clear hr0 hc0
 have HR1 := Aside0.mk hr1
 have HC1 := Aside0.mk hc1
 clear hr1 hc1
 have H := h
 clear h
 unfold barscanlaw11_equal.f at H
 replace H := bd H
 obtain ⟨t372, A3, H⟩ := H
 obtain rfl := Option.some.inj H
 go_enter Tryz.func13, Tryz.ntmps13
 go_wp2_with (first | ((with_reducible refine gate_callee (f := 40) rfl ?_); refine goesL_ (some 7) rfl rfl Tryz.func40 kr rfl #[.slice A0 l0.length c0, .slice A1 l1.length c1] rfl ar ?_; (with_reducible refine (barscanref11_Equal.calls k _ _ l0 _ _ l1 t372 _ ?side1 ?side2 ?side3 ?side4 A3.out).mono ?_); (case side1 => repeat (first | exact HR0.out | (with_reducible refine Kd.C_alloc ?_ _) | (with_reducible refine Kd.C_drewN ?_ _) | (with_reducible refine Kd.C_drew ?_))); (case side2 => exact HC0.out); (case side3 => repeat (first | exact HR1.out | (with_reducible refine Kd.C_alloc ?_ _) | (with_reducible refine Kd.C_drewN ?_ _) | (with_reducible refine Kd.C_drew ?_))); (case side4 => exact HC1.out); rintro e w' ⟨rfl, ⟨nd, rfl⟩⟩; refine ⟨_, rfl, ?_⟩))
 go_ret
 exact ⟨rs, by repeat (first | exact Drawn0.refl _ | apply Drawn0.step)⟩

end Go.Proofs.YtjmeekceecpemaaGreatDoor.Q
