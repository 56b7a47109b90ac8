/- Joined by a program of this work (pack.py) out of the texts Th3, Qbarscanref14all, Qbarscanref14Format, Qbarscanref14Chars, Qbarscanref14Equal, Th4, Els of this seat, in build order. -/
import Derived.Test.YtghlbdemlmbijaaGreatDoorPC7
import Derived.Carry
import Derived.ShutString
import Derived.Deep.Slices
import Derived.Deep.Fields
import Derived.ChangeSame
/- Verify of both is one function. -/
namespace Go.Proofs.YtghlbdemlmbijaaGreatDoor.Q
open Go.RowKit Go.Proofs.YtghlbdemlmbijaaGreatDoorW.PrintWords Go.Proofs.YtghlbdemlmbijaaGreatDoorW.PrintLast Go.Proofs.YtghlbdemlmbijaaGreatDoorW.PrintMore
set_option linter.unusedVariables false
set_option linter.unusedSimpArgs false
def okc (f : Int) (c : UInt8) : Bool := if f = 5 then isChr c else isDig c
def tailS (f : Int) (d : ByteArray) : Int := if f = 3 ∧ dateS d = false then 9 else if f = 2 ∧ chkS d = false then 8 else 0
def verT (t : Int × Int) (d : ByteArray) : Int :=
  if (d.size : Int) > t.2 ∨ d.size = 0 ∨ ((d.size : Int) ≠ t.2 ∧ t.1 ≠ 4 ∧ t.1 ≠ 5) then 7 else if (bs d).all (okc t.1) = true then tailS t.1 d else 6
def verS (ai d : ByteArray) : Int := if (tableS (bs ai)).1 = 0 then 29 else verT (tableS (bs ai)) d
theorem rver_tail (f : Int) (ai d : ByteArray) (hs : d.size < 4294967296) (h3 : f = 3 → d.size = 6) (k : Nat) (hk : d.size + 10 < k) :
    (if f = 3 then ((barscanref14_date.f k d).bind fun t156 => (barscanref14_Verify.j2 k f (!t156) ai d)) else (barscanref14_Verify.j2 k f false ai d)) = some (tailS f d) := by
  obtain ⟨k, rfl⟩ : ∃ j, k = j + 1 := ⟨k - 1, by omega⟩
  unfold tailS
  simp only [barscanref14_Verify.j2]
  by_cases hf : f = 3
  · rw [if_pos hf, ref_date_at d (h3 hf) k, Option.bind_some]
    rcases hd : dateS d with _ | _
    · simp only [Bool.not_false, if_true]; rw [if_pos ⟨hf, trivial⟩]
    · simp only [Bool.not_true, Bool.false_eq_true, if_false]; rw [if_neg (show ¬ (f = 3 ∧ true = false) from fun h => absurd h.2 (by simp)), if_neg (by omega), if_neg (show ¬ (f = 2 ∧ _) from fun h => absurd h.1 (by omega))]
  · rw [if_neg hf, if_neg (by simp), if_neg (show ¬ (f = 3 ∧ _) from fun h => hf h.1)]
    by_cases h2 : f = 2
    · rw [if_pos h2, checked_at d hs k (by omega), Option.bind_some]
      rcases hd : chkS d with _ | _
      · rw [if_neg (by simp), if_pos ⟨h2, rfl⟩]
      · rw [if_pos rfl, if_neg (show ¬ (f = 2 ∧ true = false) from fun h => absurd h.2 (by simp))]
    · rw [if_neg h2, if_neg (show ¬ (f = 2 ∧ _) from fun h => h2 h.1)]
theorem rver_l (f : Int) (ai d : ByteArray) (hs : d.size < 4294967296) (h3 : f = 3 → d.size = 6) (n : Nat) : ∀ k i : Nat, i + n = d.size → n + d.size + 40 < k →
    barscanref14_Verify.l0 k f (d.size : Int) i ai d = some (if ((bs d).drop i).all (okc f) = true then tailS f d else 6) := by
  have hl := bs_len d
  induction n with
  | zero =>
    intro k i h1 h2
    obtain ⟨k, rfl⟩ : ∃ m, k = m + 1 := ⟨k - 1, by omega⟩
    simp only [barscanref14_Verify.l0]
    rw [if_neg (by omega), List.drop_of_length_le (by omega), rver_tail f ai d hs h3 k (by omega)]
    rfl
  | succ n ih =>
    intro k i h1 h2
    obtain ⟨k, rfl⟩ : ∃ m, k = m + 1 := ⟨k - 1, by omega⟩
    have hlt : i < (bs d).length := by omega
    have hd : (bs d).drop i = (bs d)[i] :: (bs d).drop (i + 1) := List.drop_eq_getElem_cons hlt
    simp only [barscanref14_Verify.l0]
    rw [if_pos (by omega), hd, List.all_cons]
    by_cases h5 : f = 5
    · rw [if_pos h5, if_pos (by omega), if_pos (by omega), bt_nat d i hlt, character_at _ k (by omega), Option.bind_some, wrap_up i (by omega), ih k (i + 1) (by omega) (by omega)]
      have e : okc f (bs d)[i] = isChr (bs d)[i] := by unfold okc; rw [if_pos h5]
      rw [e]
      rcases isChr (bs d)[i] with _ | _
      · rw [if_neg (by simp), Bool.false_and, if_neg (by simp)]
      · rw [if_pos rfl, Bool.true_and]
    · rw [if_neg h5, if_pos (by omega), if_pos (by omega), bt_nat d i hlt, digit_f, Option.bind_some, wrap_up i (by omega), ih k (i + 1) (by omega) (by omega)]
      have e : okc f (bs d)[i] = isDig (bs d)[i] := by unfold okc; rw [if_neg h5]
      rw [e]
      rcases isDig (bs d)[i] with _ | _
      · rw [if_neg (by simp), Bool.false_and, if_neg (by simp)]
      · rw [if_pos rfl, Bool.true_and]
theorem rver_j (t : Int × Int) (x : Bool) (ai d : ByteArray) (hs : d.size < 4294967296) (h3 : x = false → t.1 = 3 → d.size = 6) (k : Nat) (hk : d.size + d.size + 60 < k) :
    barscanref14_Verify.j0 k t.1 (d.size : Int) x ai d = some (if x = true then 7 else if (bs d).all (okc t.1) = true then tailS t.1 d else 6) := by
  obtain ⟨k, rfl⟩ : ∃ m, k = m + 1 := ⟨k - 1, by omega⟩
  simp only [barscanref14_Verify.j0]
  cases x with
  | true => rw [if_pos rfl, if_pos rfl]
  | false =>
    rw [if_neg (by simp), if_neg (by simp)]
    have := rver_l t.1 ai d hs (h3 rfl) d.size k 0 (by omega) (by omega)
    simpa using this
theorem ref_ver_at (ai d : ByteArray) (ha : ai.size < 4611686018427387904) (hs : d.size < 4294967296) (k : Nat) (hk : ai.size + d.size + d.size + 100 < k) : barscanref14_Verify.f k ai d = some (verS ai d) := by
  unfold barscanref14_Verify.f verS
  rw [table_ev ai ha k (by omega), Option.bind_some]
  have hf := tableS_form (bs ai)
  generalize tableS (bs ai) = t at hf
  have h6 : t.1 = 3 → t.2 = 6 := by
    simp only [List.mem_cons, List.not_mem_nil, or_false] at hf
    rcases hf with h | h | h | h | h | h | h | h | h | h | h | h | h <;> rw [h] <;> decide
  by_cases h0 : t.1 = 0
  · rw [if_pos h0, if_pos h0]
  · rw [if_neg h0, if_neg h0]
    unfold verT
    by_cases c1 : (d.size : Int) > t.2
    · rw [if_pos c1, rver_j t true ai d hs (by simp) k (by omega), if_pos rfl, if_pos (Or.inl c1)]
    · rw [if_neg c1]
      by_cases c2 : (d.size : Int) = 0
      · rw [if_pos c2, rver_j t true ai d hs (by simp) k (by omega), if_pos rfl, if_pos (Or.inr (Or.inl (by omega)))]
      · rw [if_neg c2]
        by_cases c3 : (d.size : Int) = t.2
        · rw [if_pos c3, rver_j t false ai d hs (fun _ h => by have := h6 h; omega) k (by omega)]; simp only [Bool.false_eq_true, if_false]; rw [if_neg (show ¬ ((d.size : Int) > t.2 ∨ d.size = 0 ∨ ((d.size : Int) ≠ t.2 ∧ t.1 ≠ 4 ∧ t.1 ≠ 5)) by omega)]
        · rw [if_neg c3]
          by_cases c4 : t.1 = 4
          · rw [if_pos c4, rver_j t false ai d hs (fun _ h => by omega) k (by omega)]; simp only [Bool.false_eq_true, if_false]; rw [if_neg (show ¬ ((d.size : Int) > t.2 ∨ d.size = 0 ∨ ((d.size : Int) ≠ t.2 ∧ t.1 ≠ 4 ∧ t.1 ≠ 5)) by omega)]
          · rw [if_neg c4]
            by_cases c5 : t.1 = 5
            · rw [show (t.1 != 5) = false from bne_eq_false_iff_eq.2 c5, rver_j t false ai d hs (fun _ h => by omega) k (by omega)]; simp only [Bool.false_eq_true, if_false]; rw [if_neg (show ¬ ((d.size : Int) > t.2 ∨ d.size = 0 ∨ ((d.size : Int) ≠ t.2 ∧ t.1 ≠ 4 ∧ t.1 ≠ 5)) by omega)]
            · rw [show (t.1 != 5) = true from bne_iff_ne.2 c5, rver_j t true ai d hs (fun h => by cases h) k (by omega), if_pos rfl, if_pos (Or.inr (Or.inr ⟨c3, c4, c5⟩))]
def gverS (fixed most : Int) (digits check day : Bool) (d : ByteArray) : Int :=
  if (fixed > 0 ∧ (d.size : Int) ≠ fixed) ∨ d.size = 0 ∨ (d.size : Int) > most then 7
  else if ((bs d).all fun x => decide (x ∈ bs (if digits = true then digitsS else lettersS))) = true then (if day = true ∧ dateS d = false then 9 else if check = true ∧ checkdigit_Verify.f 1 d ≠ some 0 then 8 else 0) else 6
theorem gver_j1 (c : ByteArray) (fixed most : Int) (digits check day x : Bool) (d : ByteArray) (hs : d.size < 4294967296) (h6 : x = false → day = true → d.size = 6) (k : Nat) (hk : d.size + 10 < k) :
    gs1_form_verify.j1 k d c x fixed most digits check day = some (if x = true then 7 else if ((bs d).all fun y => decide (y ∈ bs c)) = true then (if day = true ∧ dateS d = false then 9 else if check = true ∧ checkdigit_Verify.f 1 d ≠ some 0 then 8 else 0) else 6) := by
  obtain ⟨k, rfl⟩ : ∃ m, k = m + 2 := ⟨k - 2, by omega⟩
  simp only [gs1_form_verify.j1]
  cases x with
  | true => rw [if_pos rfl, if_pos rfl]
  | false =>
    simp only [Bool.false_eq_true, if_false]
    rw [gwithin_at d c (by omega) (k + 1) (by omega), Option.bind_some]
    rcases (bs d).all fun y => decide (y ∈ bs c) with _ | _
    · simp only [Bool.false_eq_true, if_false]
    · simp only [if_true]
      simp only [gs1_form_verify.j2]
      have hv : ∃ r, checkdigit_Verify.f 1 d = some r := ⟨_, if_pos rfl⟩
      obtain ⟨r, hr⟩ := hv
      rw [hr, Option.bind_some]
      have hx : (if check = true then (if r = 0 then some (0 : Int) else some 8) else some 0) = some (if check = true ∧ some r ≠ some 0 then 8 else 0) := by
        cases check with
        | false => simp
        | true => by_cases h : r = 0 <;> simp [h]
      cases day with
      | false => simp only [Bool.false_eq_true, if_false, false_and]; exact hx
      | true =>
        simp only [if_true]
        rw [date_at d (h6 rfl rfl) k, Option.bind_some]
        rcases dateS d with _ | _
        · simp only [Bool.not_false, if_true, and_self]
        · simp only [Bool.not_true, Bool.false_eq_true, if_false, and_false]; exact hx
theorem gver_at (fixed most : Int) (digits check day : Bool) (d : ByteArray) (hs : d.size < 4294967296) (h6 : day = true → fixed = 6) (k : Nat) (hk : d.size + 20 < k) :
    gs1_form_verify.f k fixed most digits check day d = some (gverS fixed most digits check day d) := by
  obtain ⟨k, rfl⟩ : ∃ m, k = m + 1 := ⟨k - 1, by omega⟩
  have main : ∀ c : ByteArray, gs1_form_verify.j0 (k + 1) d c fixed most digits check day = some (if (fixed > 0 ∧ (d.size : Int) ≠ fixed) ∨ d.size = 0 ∨ (d.size : Int) > most then 7 else if ((bs d).all fun x => decide (x ∈ bs c)) = true then (if day = true ∧ dateS d = false then 9 else if check = true ∧ checkdigit_Verify.f 1 d ≠ some 0 then 8 else 0) else 6) := by
    intro c
    simp only [gs1_form_verify.j0]
    by_cases a1 : fixed > 0
    · rw [if_pos a1]
      by_cases a2 : (d.size : Int) = fixed
      · rw [if_pos a2]
        by_cases a3 : (d.size : Int) = 0
        · rw [if_pos a3, gver_j1 c fixed most digits check day true d hs (by simp) k (by omega), if_pos rfl, if_pos (show (fixed > 0 ∧ (d.size : Int) ≠ fixed) ∨ d.size = 0 ∨ (d.size : Int) > most by omega)]
        · rw [if_neg a3, gver_j1 c fixed most digits check day (decide ((d.size : Int) > most)) d hs (fun _ h => by have := h6 h; omega) k (by omega)]
          by_cases a4 : (d.size : Int) > most
          · rw [if_pos (decide_eq_true a4), if_pos (show (fixed > 0 ∧ (d.size : Int) ≠ fixed) ∨ d.size = 0 ∨ (d.size : Int) > most by omega)]
          · rw [if_neg (show ¬ decide ((d.size : Int) > most) = true by simpa using a4), if_neg (show ¬ ((fixed > 0 ∧ (d.size : Int) ≠ fixed) ∨ d.size = 0 ∨ (d.size : Int) > most) by omega)]
      · rw [if_neg a2, gver_j1 c fixed most digits check day true d hs (by simp) k (by omega), if_pos rfl, if_pos (Or.inl ⟨a1, a2⟩)]
    · rw [if_neg a1]
      by_cases a3 : (d.size : Int) = 0
      · rw [if_pos a3, gver_j1 c fixed most digits check day true d hs (by simp) k (by omega), if_pos rfl, if_pos (show (fixed > 0 ∧ (d.size : Int) ≠ fixed) ∨ d.size = 0 ∨ (d.size : Int) > most by omega)]
      · rw [if_neg a3, gver_j1 c fixed most digits check day (decide ((d.size : Int) > most)) d hs (fun _ h => by have := h6 h; omega) k (by omega)]
        by_cases a4 : (d.size : Int) > most
        · rw [if_pos (decide_eq_true a4), if_pos (show (fixed > 0 ∧ (d.size : Int) ≠ fixed) ∨ d.size = 0 ∨ (d.size : Int) > most by omega)]
        · rw [if_neg (show ¬ decide ((d.size : Int) > most) = true by simpa using a4), if_neg (show ¬ ((fixed > 0 ∧ (d.size : Int) ≠ fixed) ∨ d.size = 0 ∨ (d.size : Int) > most) by omega)]
  unfold gs1_form_verify.f gverS
  cases digits with
  | true => simp only [if_true]; exact main _
  | false => simp only [Bool.false_eq_true, if_false]; exact main _
theorem dig_all (d : ByteArray) : ((bs d).all fun x => decide (x ∈ bs digitsS)) = (bs d).all isDig := allDig_eq d
theorem check_iff (d : ByteArray) (b1 : 1 < d.size) (b2 : d.size ≤ 18) (b3 : (bs d).all isDig = true) : checkdigit_Verify.f 1 d ≠ some 0 ↔ chkS d = false := by
  unfold checkdigit_Verify.f
  rw [if_pos rfl, if_neg (by omega), if_neg (by omega), if_pos (show allDig d = true from b3)]
  have := check_same d b1 b3
  by_cases hg : gchk (d.extract 0 (d.size - 1)) = d.extract (d.size - 1) d.size
  · rw [if_pos hg, this.1 hg]; simp
  · rw [if_neg hg]
    have : ¬ chkS d = true := fun h => hg (this.2 h)
    simpa using this
theorem okc_dig (d : ByteArray) (f : Int) (hne : f ≠ 5) : (bs d).all (okc f) = (bs d).all isDig := by
  congr 1
  funext c
  unfold okc
  rw [if_neg hne]
theorem gv_fix (m f : Int) (check day : Bool) (d : ByteArray) (hm : 1 < m) (hm2 : m ≤ 18) (h5 : f ≠ 5) (h4 : f ≠ 4) (hday : day = true ↔ f = 3) (hch : check = true ↔ f = 2) : gverS m m true check day d = verT (f, m) d := by
  unfold gverS verT tailS
  simp only [if_true]
  rw [dig_all, okc_dig d f h5]
  by_cases c1 : (d.size : Int) = m
  · rw [if_neg (show ¬ ((m > 0 ∧ (d.size : Int) ≠ m) ∨ d.size = 0 ∨ (d.size : Int) > m) by omega), if_neg (show ¬ ((d.size : Int) > m ∨ d.size = 0 ∨ ((d.size : Int) ≠ m ∧ f ≠ 4 ∧ f ≠ 5)) by omega)]
    by_cases c2 : (bs d).all isDig = true
    · rw [if_pos c2, if_pos c2]
      have := check_iff d (by omega) (by omega) c2
      simp only [hday, hch, this]
    · rw [if_neg c2, if_neg c2]
  · rw [if_pos (show (m > 0 ∧ (d.size : Int) ≠ m) ∨ d.size = 0 ∨ (d.size : Int) > m by omega), if_pos (show (d.size : Int) > m ∨ d.size = 0 ∨ ((d.size : Int) ≠ m ∧ f ≠ 4 ∧ f ≠ 5) from Or.inr (Or.inr ⟨c1, h4, h5⟩))]
theorem gv_num (m : Int) (d : ByteArray) : gverS 0 m true false false d = verT (4, m) d := by
  unfold gverS verT tailS
  simp only [if_true]
  rw [dig_all, okc_dig d 4 (by decide)]
  by_cases c1 : (d.size : Int) > m ∨ d.size = 0
  · rw [if_pos (by omega), if_pos (by omega)]
  · rw [if_neg (show ¬ (((0 : Int) > 0 ∧ (d.size : Int) ≠ 0) ∨ d.size = 0 ∨ (d.size : Int) > m) by omega), if_neg (show ¬ ((d.size : Int) > m ∨ d.size = 0 ∨ ((d.size : Int) ≠ m ∧ (4 : Int) ≠ 4 ∧ (4 : Int) ≠ 5)) by omega)]
    simp
theorem gv_text (m : Int) (d : ByteArray) : gverS 0 m false false false d = verT (5, m) d := by
  unfold gverS verT tailS
  simp only [Bool.false_eq_true, if_false]
  have e : (bs d).all (okc 5) = (bs d).all fun x => decide (x ∈ bs lettersS) := rfl
  rw [e]
  by_cases c1 : (d.size : Int) > m ∨ d.size = 0
  · rw [if_pos (by omega), if_pos (by omega)]
  · rw [if_neg (show ¬ (((0 : Int) > 0 ∧ (d.size : Int) ≠ 0) ∨ d.size = 0 ∨ (d.size : Int) > m) by omega), if_neg (show ¬ ((d.size : Int) > m ∨ d.size = 0 ∨ ((d.size : Int) ≠ m ∧ (5 : Int) ≠ 4 ∧ (5 : Int) ≠ 5)) by omega)]
    simp
theorem gver_verT (t : Int × Int) (hf : t ∈ [(2, 18), (2, 14), (3, 6), (1, 2), (4, 8), (5, 20), (5, 25), (5, 30), (5, 90), (2, 13), (4, 15), (1, 6), ((0 : Int), (0 : Int))]) (h0 : t.1 ≠ 0) (d : ByteArray) :
    gverS (conv t).1 (conv t).2.1 (conv t).2.2.1 (conv t).2.2.2.1 (conv t).2.2.2.2.1 d = verT t d := by
  simp only [List.mem_cons, List.not_mem_nil, or_false] at hf
  rcases hf with rfl | rfl | rfl | rfl | rfl | rfl | rfl | rfl | rfl | rfl | rfl | rfl | rfl
  · exact gv_fix 18 2 true false d (by decide) (by decide) (by decide) (by decide) (by decide) (by decide)
  · exact gv_fix 14 2 true false d (by decide) (by decide) (by decide) (by decide) (by decide) (by decide)
  · exact gv_fix 6 3 false true d (by decide) (by decide) (by decide) (by decide) (by decide) (by decide)
  · exact gv_fix 2 1 false false d (by decide) (by decide) (by decide) (by decide) (by decide) (by decide)
  · exact gv_num 8 d
  · exact gv_text 20 d
  · exact gv_text 25 d
  · exact gv_text 30 d
  · exact gv_text 90 d
  · exact gv_fix 13 2 true false d (by decide) (by decide) (by decide) (by decide) (by decide) (by decide)
  · exact gv_num 15 d
  · exact gv_fix 6 1 false false d (by decide) (by decide) (by decide) (by decide) (by decide) (by decide)
  · exact absurd rfl h0
theorem conv_ok (t : Int × Int) (hf : t ∈ [(2, 18), (2, 14), (3, 6), (1, 2), (4, 8), (5, 20), (5, 25), (5, 30), (5, 90), (2, 13), (4, 15), (1, 6), ((0 : Int), (0 : Int))]) : ((conv t).2.2.2.2.2 = true ↔ t.1 ≠ 0) ∧ ((conv t).2.2.2.2.1 = true → (conv t).1 = 6) := by
  simp only [List.mem_cons, List.not_mem_nil, or_false] at hf
  rcases hf with rfl | rfl | rfl | rfl | rfl | rfl | rfl | rfl | rfl | rfl | rfl | rfl | rfl <;> decide
theorem ver_at (ai d : ByteArray) (ha : ai.size < 4294967281) (hs : d.size < 4294967296) (k : Nat) (hk : d.size + 20 < k) : gs1_Verify.f k ai d = some (verS ai d) := by
  unfold gs1_Verify.f verS
  have hf := tableS_form (bs ai)
  rw [form_at ai ha, Option.bind_some]
  generalize tableS (bs ai) = t at hf
  have hc := conv_ok t hf
  by_cases h0 : t.1 = 0
  · rw [if_neg (fun h => hc.1.1 h h0), if_pos h0]
  · rw [if_pos (hc.1.2 h0), if_neg h0, gver_at _ _ _ _ _ d hs hc.2 k hk, Option.bind_some, gver_verT t hf h0]
set_option maxRecDepth 1000000 in
theorem examples_60 : barscanlaw14_examples.f 60 = some true := by decide +kernel
theorem examples_at (k : Nat) (hk : 60 ≤ k) : barscanlaw14_examples.f k = some true := up_of (F := barscanlaw14_examples.f) barscanlaw14_examples.mono examples_60 k hk
end Go.Proofs.YtghlbdemlmbijaaGreatDoor.Q

namespace Go.Proofs.YtghlbdemlmbijaaGreatDoor.Q
open Go.RowKit Go.Proofs.YtghlbdemlmbijaaGreatDoorW.PrintWords Go.Proofs.YtghlbdemlmbijaaGreatDoorW.PrintLast Go.Proofs.YtghlbdemlmbijaaGreatDoorW.PrintMore

set_option linter.unusedVariables false
set_option linter.unusedSimpArgs false

/-! ### barscanref14_all: function 35 -/
def barscanref14_all.l0 : Nat → List (S23) → Int → Option (Int)
 | 0, _, _ => none
 | k + 1, x0, x3 => if x3 < (x0.length : Int) then (if 0 ≤ x3 then ((barscanref14_Verify.f k ((rd_T23 x0 x3).f0) ((rd_T23 x0 x3).f1)).bind fun t271 => (if t271 = 0 then (barscanref14_all.l0 k x0 (wrap64 (x3 + 1))) else (some t271))) else (none)) else (some 0)
def barscanref14_all.f (k : Nat) (l0 : List (S23)) : Option (Int) := if (l0.length : Int) = 0 then (some 5) else (barscanref14_all.l0 k l0 0)
theorem barscanref14_all.mono_l : ∀ k, (∀ y0 y1, LeO (barscanref14_all.l0 k y0 y1) (barscanref14_all.l0 (k + 1) y0 y1))
 | 0 => fun _ _ r h => by simp [barscanref14_all.l0] at h
 | k + 1 => by
  have ih0 := barscanref14_all.mono_l k
  ·intro y0 y1
   unfold barscanref14_all.l0
   repeat' first
   | (with_reducible exact ih0 _ _)
   | (with_reducible exact barscanref14_Verify.mono _ _ _)
   | (with_reducible exact LeO.refl _)
   | (with_reducible exact LeO.none _)
   | (with_reducible refine LeO.ite ?_ ?_)
   | (with_reducible refine LeO.bind ?_ (fun _ => ?_))
   | exact ih0 _ _
   | exact barscanref14_Verify.mono _ _ _
   | exact LeO.none _
   | refine LeO.ite ?_ ?_
   | refine LeO.bind ?_ (fun _ => ?_)
theorem barscanref14_all.mono : ∀ a0 k, LeO (barscanref14_all.f k a0) (barscanref14_all.f (k + 1) a0) := by
 intro a0 k
 have ih0 := barscanref14_all.mono_l k
 unfold barscanref14_all.f
 repeat' first
   | (with_reducible exact ih0 _ _)
   | (with_reducible exact barscanref14_Verify.mono _ _ _)
   | (with_reducible exact LeO.refl _)
   | (with_reducible exact LeO.none _)
   | (with_reducible refine LeO.ite ?_ ?_)
   | (with_reducible refine LeO.bind ?_ (fun _ => ?_))
   | exact ih0 _ _
   | exact barscanref14_Verify.mono _ _ _
   | exact LeO.none _
   | refine LeO.ite ?_ ?_
   | refine LeO.bind ?_ (fun _ => ?_)
set_option maxHeartbeats 8000000 in
set_option maxRecDepth 100000 in
theorem barscanref14_all.calls (k : Nat) (A0 : Option Addr) (c0 : Nat) (l0 : List (S23)) (r : Int) (w : World) (hr0 : Kd.C k23 w A0 l0.length l0) (hc0 : l0.length ≤ c0) (h : barscanref14_all.f k l0 = some r) :
  Calls Tryz.prog 35 #[.slice A0 l0.length c0] w fun e w' => e = .returned (.int .i64 r) ∧ Below w.heap.size w w' := by
 have hu23 := Tryz.underlying23
 have HR0 := Aside0.mk hr0
 have HC0 := Aside0.mk hc0
 clear hr0 hc0
 have HB := Aside0.mk (Below.refl w.heap.size w)
 have H : (if (l0.length : Int) = 0 then (some 5) else (barscanref14_all.l0 k l0 0)) = some r := h
 clear h
 by_cases c2 : (l0.length : Int) = 0
 ·rw [if_pos c2] at H
  have c2b0 : ((l0.length : Int) == 0) = true := beq_iff_eq.mpr c2
  have c2b1 : ((l0.length : Int) != 0) = false := bne_eq_false_iff_eq.mpr c2
  clear c2
  obtain rfl := Option.some.inj H
  go_enter Tryz.func35, Tryz.ntmps35
  go_wp2
  go_ret
  exact ⟨by first | rfl | (simp [errW_none, errW_some] <;> rfl) | (simp [*, errW_none, errW_some] <;> rfl), by repeat (first | (with_reducible first | exact HB.out | apply below_alloc | apply pw_below_drewN | apply below_drew1) | exact HB.out)⟩
 ·rw [if_neg c2] at H
  have c2b0 : ((l0.length : Int) == 0) = false := beq_eq_false_iff_ne.mpr c2
  have c2b1 : ((l0.length : Int) != 0) = true := bne_iff_ne.mpr c2
  have c2b2 : ¬ (l0 = []) := fun h_ => c2 (by rw [h_]; rfl)
  have H' := Aside0.mk H
  clear H
  go_enter Tryz.func35, Tryz.ntmps35
  go_wp2
  go_loopg [3] k (fun kq v3 w' => ∃ (x3_1 : Int), v3 = .int .i64 x3_1 ∧ Aside0 (barscanref14_all.l0 kq l0 x3_1 = some r) ∧ Aside0 (kq ≤ k) ∧ Aside0 (Below w.heap.size w w'))
  case atStart => exact ⟨(0), (by first | rfl | (simp; done) | (simp [*]; done)), H', ⟨Nat.le_refl _⟩, ⟨by repeat (first | (with_reducible first | exact HB.out | apply below_alloc | apply pw_below_drewN | apply below_drew1) | exact HB.out)⟩⟩
  case round =>
   clear H'
   obtain ⟨x3_1, rfl, HA, HK1, HB⟩ := hrel
   cases gk with
   | zero => exact absurd HA.out (by simp [barscanref14_all.l0])
   | succ k1 =>
    have H := HA.out
    clear HA
    simp only [barscanref14_all.l0] at H
    by_cases c3 : x3_1 < (l0.length : Int)
    ·rw [if_pos c3] at H
     have c3b0 : decide (x3_1 < (l0.length : Int)) = true := decide_eq_true c3
     clear c3
     by_cases c4 : 0 ≤ x3_1
     ·rw [if_pos c4] at H
      have c4b0 : decide (0 ≤ x3_1) = true := decide_eq_true c4
      clear c4
      replace H := Option.bind_eq_some_iff.mp H
      obtain ⟨t271, A50, H⟩ := H
      replace H : (if t271 = 0 then (barscanref14_all.l0 k1 l0 (wrap64 (x3_1 + 1))) else (some t271)) = some r := H
      have A5 := Aside0.mk A50
      clear A50
      by_cases c6 : t271 = 0
      ·rw [if_pos c6] at H
       have c6b0 : (t271 == 0) = true := beq_iff_eq.mpr c6
       have c6b1 : (t271 != 0) = false := bne_eq_false_iff_eq.mpr c6
       clear c6
       have H' := Aside0.mk H
       clear H
       have p270 : 0 ≤ (x3_1 : Int) := of_decide_eq_true (by first | (with_reducible assumption) | assumption)
       have q270 : x3_1 < (l0.length : Int) := of_decide_eq_true (by first | (with_reducible assumption) | assumption)
       obtain ⟨ad270, e270, hx270_0, hx270_1⟩ := at_T23 HR0.out x3_1 p270 q270
       cases e270
       replace hx270_0 := (HB.out.cell (World.block_lt_of_cell? w _ hx270_0)).trans hx270_0
       replace hx270_1 := (HB.out.cell (World.block_lt_of_cell? w _ hx270_1)).trans hx270_1
       replace p270 := eq_true p270
       replace q270 := eq_true q270
       go_wp2_with (first | ((with_reducible refine gate_callee (f := 10) rfl ?_); refine goesL_ (some 18) rfl rfl Tryz.func10 (by kernel_rfl) rfl #[.agg #[.string ((rd_T23 l0 x3_1).f0), .string ((rd_T23 l0 x3_1).f1)]] rfl (by (try simp only [List.map_toArray, List.map_cons, List.map_nil]); first | done | rfl | (simp only [List.length_drop, List.length_take]; rfl)) ?_; (with_reducible refine (barscanref14_Verify.calls k1 ((rd_T23 l0 x3_1).f0) ((rd_T23 l0 x3_1).f1) t271 _ A5.out).mono ?_); rintro e w7 ⟨rfl, hb⟩; refine ⟨_, rfl, ?_⟩; have n0_ := Aside0.mk (below_step (by repeat (first | (with_reducible first | exact HB.out | apply below_alloc | apply pw_below_drewN | apply below_drew1) | exact HB.out)) hb); clear HB; have HB := n0_; clear n0_; (try clear hb); (try clear hb2); (try clear hk); (try clear hi)))
       go_roundg k1
       case measure => have := HK1.out; omega
       case rel => exact ⟨(wrap64 (x3_1 + 1)), (by first | rfl | (simp; done) | (simp [*]; done)), H', ⟨by have := HK1.out; omega⟩, ⟨by repeat (first | (with_reducible first | exact HB.out | apply below_alloc | apply pw_below_drewN | apply below_drew1) | exact HB.out)⟩⟩
      ·rw [if_neg c6] at H
       have c6b0 : (t271 == 0) = false := beq_eq_false_iff_ne.mpr c6
       have c6b1 : (t271 != 0) = true := bne_iff_ne.mpr c6
       obtain rfl := Option.some.inj H
       have p270 : 0 ≤ (x3_1 : Int) := of_decide_eq_true (by first | (with_reducible assumption) | assumption)
       have q270 : x3_1 < (l0.length : Int) := of_decide_eq_true (by first | (with_reducible assumption) | assumption)
       obtain ⟨ad270, e270, hx270_0, hx270_1⟩ := at_T23 HR0.out x3_1 p270 q270
       cases e270
       replace hx270_0 := (HB.out.cell (World.block_lt_of_cell? w _ hx270_0)).trans hx270_0
       replace hx270_1 := (HB.out.cell (World.block_lt_of_cell? w _ hx270_1)).trans hx270_1
       replace p270 := eq_true p270
       replace q270 := eq_true q270
       go_wp2_with (first | ((with_reducible refine gate_callee (f := 10) rfl ?_); refine goesL_ (some 18) rfl rfl Tryz.func10 (by kernel_rfl) rfl #[.agg #[.string ((rd_T23 l0 x3_1).f0), .string ((rd_T23 l0 x3_1).f1)]] rfl (by (try simp only [List.map_toArray, List.map_cons, List.map_nil]); first | done | rfl | (simp only [List.length_drop, List.length_take]; rfl)) ?_; (with_reducible refine (barscanref14_Verify.calls k1 ((rd_T23 l0 x3_1).f0) ((rd_T23 l0 x3_1).f1) t271 _ A5.out).mono ?_); rintro e w8 ⟨rfl, hb⟩; refine ⟨_, rfl, ?_⟩; have n0_ := Aside0.mk (below_step (by repeat (first | (with_reducible first | exact HB.out | apply below_alloc | apply pw_below_drewN | apply below_drew1) | exact HB.out)) hb); clear HB; have HB := n0_; clear n0_; (try clear hb); (try clear hb2); (try clear hk); (try clear hi)))
       go_ret
       exact ⟨by first | rfl | (simp [errW_none, errW_some] <;> rfl) | (simp [*, errW_none, errW_some] <;> rfl), by repeat (first | (with_reducible first | exact HB.out | apply below_alloc | apply pw_below_drewN | apply below_drew1) | exact HB.out)⟩
     ·rw [if_neg c4] at H
      exact absurd H (by simp)
    ·rw [if_neg c3] at H
     have c3b0 : decide (x3_1 < (l0.length : Int)) = false := decide_eq_false c3
     clear c3
     obtain rfl := Option.some.inj H
     go_wp2
     go_ret
     exact ⟨by first | rfl | (simp [errW_none, errW_some] <;> rfl) | (simp [*, errW_none, errW_some] <;> rfl), by repeat (first | (with_reducible first | exact HB.out | apply below_alloc | apply pw_below_drewN | apply below_drew1) | exact HB.out)⟩

end Go.Proofs.YtghlbdemlmbijaaGreatDoor.Q

namespace Go.Proofs.YtghlbdemlmbijaaGreatDoor.Q
open Go.RowKit Go.Proofs.YtghlbdemlmbijaaGreatDoorW.PrintWords Go.Proofs.YtghlbdemlmbijaaGreatDoorW.PrintLast Go.Proofs.YtghlbdemlmbijaaGreatDoorW.PrintMore

set_option linter.unusedVariables false
set_option linter.unusedSimpArgs false

/-! ### barscanref14_Format: function 15 -/
def barscanref14_Format.l0 : Nat → List (S23) → ByteArray → Int → Option (ByteArray × Int)
 | 0, _, _, _ => none
 | k + 1, x0, x5, x6 => if x6 < (x0.length : Int) then (if x5.size + 1 ≤ 9223372036854775807 then (if 0 ≤ x6 then (if (x5 ++ (⟨#[40]⟩ : ByteArray)).size + ((rd_T23 x0 x6).f0).size ≤ 9223372036854775807 then (if ((x5 ++ (⟨#[40]⟩ : ByteArray)) ++ ((rd_T23 x0 x6).f0)).size + 1 ≤ 9223372036854775807 then (if (((x5 ++ (⟨#[40]⟩ : ByteArray)) ++ ((rd_T23 x0 x6).f0)) ++ (⟨#[41]⟩ : ByteArray)).size + ((rd_T23 x0 x6).f1).size ≤ 9223372036854775807 then (if (((((x5 ++ (⟨#[40]⟩ : ByteArray)) ++ ((rd_T23 x0 x6).f0)) ++ (⟨#[41]⟩ : ByteArray)) ++ ((rd_T23 x0 x6).f1)).size : Int) > 4096 then (some ((⟨#[]⟩ : ByteArray), 4)) else (barscanref14_Format.l0 k x0 ((((x5 ++ (⟨#[40]⟩ : ByteArray)) ++ ((rd_T23 x0 x6).f0)) ++ (⟨#[41]⟩ : ByteArray)) ++ ((rd_T23 x0 x6).f1)) (wrap64 (x6 + 1)))) else (none)) else (none)) else (none)) else (none)) else (none)) else (some (x5, 0))
def barscanref14_Format.f (k : Nat) (l0 : List (S23)) : Option (ByteArray × Int) := (barscanref14_all.f k l0).bind fun t272 => (if t272 = 0 then (barscanref14_Format.l0 k l0 (⟨#[]⟩ : ByteArray) 0) else (some ((⟨#[]⟩ : ByteArray), t272)))
theorem barscanref14_Format.mono_l : ∀ k, (∀ y0 y1 y2, LeO (barscanref14_Format.l0 k y0 y1 y2) (barscanref14_Format.l0 (k + 1) y0 y1 y2))
 | 0 => fun _ _ _ r h => by simp [barscanref14_Format.l0] at h
 | k + 1 => by
  have ih0 := barscanref14_Format.mono_l k
  ·intro y0 y1 y2
   unfold barscanref14_Format.l0
   repeat' first
   | (with_reducible exact ih0 _ _ _)
   | (with_reducible exact barscanref14_all.mono _ _)
   | (with_reducible exact LeO.refl _)
   | (with_reducible exact LeO.none _)
   | (with_reducible refine LeO.ite ?_ ?_)
   | (with_reducible refine LeO.bind ?_ (fun _ => ?_))
   | exact ih0 _ _ _
   | exact barscanref14_all.mono _ _
   | exact LeO.none _
   | refine LeO.ite ?_ ?_
   | refine LeO.bind ?_ (fun _ => ?_)
theorem barscanref14_Format.mono : ∀ a0 k, LeO (barscanref14_Format.f k a0) (barscanref14_Format.f (k + 1) a0) := by
 intro a0 k
 have ih0 := barscanref14_Format.mono_l k
 unfold barscanref14_Format.f
 repeat' first
   | (with_reducible exact ih0 _ _ _)
   | (with_reducible exact barscanref14_all.mono _ _)
   | (with_reducible exact LeO.refl _)
   | (with_reducible exact LeO.none _)
   | (with_reducible refine LeO.ite ?_ ?_)
   | (with_reducible refine LeO.bind ?_ (fun _ => ?_))
   | exact ih0 _ _ _
   | exact barscanref14_all.mono _ _
   | exact LeO.none _
   | refine LeO.ite ?_ ?_
   | refine LeO.bind ?_ (fun _ => ?_)
set_option maxHeartbeats 8000000 in
set_option maxRecDepth 100000 in
theorem barscanref14_Format.calls (k : Nat) (A0 : Option Addr) (c0 : Nat) (l0 : List (S23)) (r1 : ByteArray) (r2 : Int) (w : World) (hr0 : Kd.C k23 w A0 l0.length l0) (hc0 : l0.length ≤ c0) (h : barscanref14_Format.f k l0 = some (r1, r2)) :
  Calls Tryz.prog 15 #[.slice A0 l0.length c0] w fun e w' => e = .returned (.tuple #[.string r1, .int .i64 r2]) ∧ Below w.heap.size w w' := by
 have HR0 := Aside0.mk hr0
 have HC0 := Aside0.mk hc0
 clear hr0 hc0
 have HB := Aside0.mk (Below.refl w.heap.size w)
 have H : ((barscanref14_all.f k l0).bind fun t272 => (if t272 = 0 then (barscanref14_Format.l0 k l0 (⟨#[]⟩ : ByteArray) 0) else (some ((⟨#[]⟩ : ByteArray), t272)))) = some (r1, r2) := h
 clear h
 replace H := Option.bind_eq_some_iff.mp H
 obtain ⟨t272, A20, H⟩ := H
 replace H : (if t272 = 0 then (barscanref14_Format.l0 k l0 (⟨#[]⟩ : ByteArray) 0) else (some ((⟨#[]⟩ : ByteArray), t272))) = some (r1, r2) := H
 have A2 := Aside0.mk A20
 clear A20
 by_cases c3 : t272 = 0
 ·rw [if_pos c3] at H
  have c3b0 : (t272 == 0) = true := beq_iff_eq.mpr c3
  have c3b1 : (t272 != 0) = false := bne_eq_false_iff_eq.mpr c3
  clear c3
  have H' := Aside0.mk H
  clear H
  go_enter Tryz.func15, Tryz.ntmps15
  go_wp2_with (first | (go_at_call 35; (with_reducible refine (barscanref14_all.calls k _ _ l0 t272 _ ?side1 ?side2 A2.out).mono ?_); (case side1 => repeat (first | exact HR0.out | (with_reducible refine Kd.C_alloc ?_ _) | (with_reducible refine Kd.C_drewN ?_ _) | (with_reducible refine Kd.C_drew ?_))); (case side2 => exact HC0.out); rintro e w4 ⟨rfl, hb⟩; have n0_ := Aside0.mk (below_step (by repeat (first | (with_reducible first | exact HB.out | apply below_alloc | apply pw_below_drewN | apply below_drew1) | exact HB.out)) hb); clear HB; have HB := n0_; clear n0_; (try clear hb); (try clear hb2); (try clear hk); (try clear hi)))
  repeat (go_quiet (first | (go_at_call 35; (with_reducible refine (barscanref14_all.calls k _ _ l0 t272 _ ?side1 ?side2 A2.out).mono ?_); (case side1 => repeat (first | exact HR0.out | (with_reducible refine Kd.C_alloc ?_ _) | (with_reducible refine Kd.C_drewN ?_ _) | (with_reducible refine Kd.C_drew ?_))); (case side2 => exact HC0.out); rintro e w4 ⟨rfl, hb⟩; have n0_ := Aside0.mk (below_step (by repeat (first | (with_reducible first | exact HB.out | apply below_alloc | apply pw_below_drewN | apply below_drew1) | exact HB.out)) hb); clear HB; have HB := n0_; clear n0_; (try clear hb); (try clear hb2); (try clear hk); (try clear hi))); try go_wp2_with (first | (go_at_call 35; (with_reducible refine (barscanref14_all.calls k _ _ l0 t272 _ ?side1 ?side2 A2.out).mono ?_); (case side1 => repeat (first | exact HR0.out | (with_reducible refine Kd.C_alloc ?_ _) | (with_reducible refine Kd.C_drewN ?_ _) | (with_reducible refine Kd.C_drew ?_))); (case side2 => exact HC0.out); rintro e w4 ⟨rfl, hb⟩; have n0_ := Aside0.mk (below_step (by repeat (first | (with_reducible first | exact HB.out | apply below_alloc | apply pw_below_drewN | apply below_drew1) | exact HB.out)) hb); clear HB; have HB := n0_; clear n0_; (try clear hb); (try clear hb2); (try clear hk); (try clear hi))))
  go_loopg [5, 6] k (fun kq v5 v6 w' => ∃ (x5_1 : ByteArray) (x6_1 : Int), v5 = .string x5_1 ∧ v6 = .int .i64 x6_1 ∧ Aside0 (barscanref14_Format.l0 kq l0 x5_1 x6_1 = some (r1, r2)) ∧ Aside0 (kq ≤ k) ∧ Aside0 (Below w.heap.size w w'))
  case atStart => exact ⟨((⟨#[]⟩ : ByteArray)), (0), (by first | rfl | (simp; done) | (simp [*]; done)), (by first | rfl | (simp; done) | (simp [*]; done)), H', ⟨Nat.le_refl _⟩, ⟨by repeat (first | (with_reducible first | exact HB.out | apply below_alloc | apply pw_below_drewN | apply below_drew1) | exact HB.out)⟩⟩
  case round =>
   clear H'
   obtain ⟨x5_1, x6_1, rfl, rfl, HA, HK1, HB⟩ := hrel
   cases gk with
   | zero => exact absurd HA.out (by simp [barscanref14_Format.l0])
   | succ k1 =>
    have H := HA.out
    clear HA
    simp only [barscanref14_Format.l0] at H
    by_cases c5 : x6_1 < (l0.length : Int)
    ·rw [if_pos c5] at H
     have c5b0 : decide (x6_1 < (l0.length : Int)) = true := decide_eq_true c5
     clear c5
     by_cases c6 : x5_1.size + 1 ≤ 9223372036854775807
     ·rw [if_pos c6] at H
      have c6b0 := eq_true c6
      (try (have h_ := of_eq_true c6b0; simp only [ByteArray.size_append, ByteArray.size_extract, Nat.min_self, Int.toNat_natCast, Nat.sub_zero, Int.natCast_add, size_lit, List.length_cons, List.length_nil, Nat.zero_add, Nat.reduceAdd, Int.natCast_one, Int.cast_ofNat_Int] at h_; have c6b0s := eq_true h_; clear h_))
      have c6b1 : decide (x5_1.size + 1 ≤ 9223372036854775807) = true := decide_eq_true c6
      try have c6b2 : (9223372036854775807 < x5_1.size + 1) = False := eq_false (Nat.not_lt.2 c6)
      by_cases c7 : 0 ≤ x6_1
      ·rw [if_pos c7] at H
       have c7b0 : decide (0 ≤ x6_1) = true := decide_eq_true c7
       clear c7
       by_cases c8 : (x5_1 ++ (⟨#[40]⟩ : ByteArray)).size + ((rd_T23 l0 x6_1).f0).size ≤ 9223372036854775807
       ·rw [if_pos c8] at H
        have c8b0 := eq_true c8
        (try (have h_ := of_eq_true c8b0; simp only [ByteArray.size_append, ByteArray.size_extract, Nat.min_self, Int.toNat_natCast, Nat.sub_zero, Int.natCast_add, size_lit, List.length_cons, List.length_nil, Nat.zero_add, Nat.reduceAdd, Int.natCast_one, Int.cast_ofNat_Int] at h_; have c8b0s := eq_true h_; clear h_))
        have c8b1 : decide ((x5_1 ++ (⟨#[40]⟩ : ByteArray)).size + ((rd_T23 l0 x6_1).f0).size ≤ 9223372036854775807) = true := decide_eq_true c8
        (try (have c8b1s := c8b1; simp only [ByteArray.size_append, ByteArray.size_extract, Nat.min_self, Int.toNat_natCast, Nat.sub_zero, Int.natCast_add, size_lit, List.length_cons, List.length_nil, Nat.zero_add, Nat.reduceAdd, Int.natCast_one, Int.cast_ofNat_Int] at c8b1s))
        (try (have h_ := of_decide_eq_true c8b1; simp only [ByteArray.size_append, ByteArray.size_extract, Nat.min_self, Int.toNat_natCast, Nat.sub_zero, Int.natCast_add, size_lit, List.length_cons, List.length_nil, Nat.zero_add, Nat.reduceAdd, Int.natCast_one, Int.cast_ofNat_Int] at h_; have c8b1t := eq_true h_; clear h_))
        try have c8b2 : (9223372036854775807 < (x5_1 ++ (⟨#[40]⟩ : ByteArray)).size + ((rd_T23 l0 x6_1).f0).size) = False := eq_false (Nat.not_lt.2 c8)
        (try (have h_ := of_eq_false c8b2; simp only [ByteArray.size_append, ByteArray.size_extract, Nat.min_self, Int.toNat_natCast, Nat.sub_zero, Int.natCast_add, size_lit, List.length_cons, List.length_nil, Nat.zero_add, Nat.reduceAdd, Int.natCast_one, Int.cast_ofNat_Int] at h_; have c8b2s := eq_false h_; clear h_))
        by_cases c9 : ((x5_1 ++ (⟨#[40]⟩ : ByteArray)) ++ ((rd_T23 l0 x6_1).f0)).size + 1 ≤ 9223372036854775807
        ·rw [if_pos c9] at H
         have c9b0 := eq_true c9
         (try (have h_ := of_eq_true c9b0; simp only [ByteArray.size_append, ByteArray.size_extract, Nat.min_self, Int.toNat_natCast, Nat.sub_zero, Int.natCast_add, size_lit, List.length_cons, List.length_nil, Nat.zero_add, Nat.reduceAdd, Int.natCast_one, Int.cast_ofNat_Int] at h_; have c9b0s := eq_true h_; clear h_))
         have c9b1 : decide (((x5_1 ++ (⟨#[40]⟩ : ByteArray)) ++ ((rd_T23 l0 x6_1).f0)).size + 1 ≤ 9223372036854775807) = true := decide_eq_true c9
         (try (have c9b1s := c9b1; simp only [ByteArray.size_append, ByteArray.size_extract, Nat.min_self, Int.toNat_natCast, Nat.sub_zero, Int.natCast_add, size_lit, List.length_cons, List.length_nil, Nat.zero_add, Nat.reduceAdd, Int.natCast_one, Int.cast_ofNat_Int] at c9b1s))
         (try (have h_ := of_decide_eq_true c9b1; simp only [ByteArray.size_append, ByteArray.size_extract, Nat.min_self, Int.toNat_natCast, Nat.sub_zero, Int.natCast_add, size_lit, List.length_cons, List.length_nil, Nat.zero_add, Nat.reduceAdd, Int.natCast_one, Int.cast_ofNat_Int] at h_; have c9b1t := eq_true h_; clear h_))
         try have c9b2 : (9223372036854775807 < ((x5_1 ++ (⟨#[40]⟩ : ByteArray)) ++ ((rd_T23 l0 x6_1).f0)).size + 1) = False := eq_false (Nat.not_lt.2 c9)
         (try (have h_ := of_eq_false c9b2; simp only [ByteArray.size_append, ByteArray.size_extract, Nat.min_self, Int.toNat_natCast, Nat.sub_zero, Int.natCast_add, size_lit, List.length_cons, List.length_nil, Nat.zero_add, Nat.reduceAdd, Int.natCast_one, Int.cast_ofNat_Int] at h_; have c9b2s := eq_false h_; clear h_))
         by_cases c10 : (((x5_1 ++ (⟨#[40]⟩ : ByteArray)) ++ ((rd_T23 l0 x6_1).f0)) ++ (⟨#[41]⟩ : ByteArray)).size + ((rd_T23 l0 x6_1).f1).size ≤ 9223372036854775807
         ·rw [if_pos c10] at H
          have c10b0 := eq_true c10
          (try (have h_ := of_eq_true c10b0; simp only [ByteArray.size_append, ByteArray.size_extract, Nat.min_self, Int.toNat_natCast, Nat.sub_zero, Int.natCast_add, size_lit, List.length_cons, List.length_nil, Nat.zero_add, Nat.reduceAdd, Int.natCast_one, Int.cast_ofNat_Int] at h_; have c10b0s := eq_true h_; clear h_))
          have c10b1 : decide ((((x5_1 ++ (⟨#[40]⟩ : ByteArray)) ++ ((rd_T23 l0 x6_1).f0)) ++ (⟨#[41]⟩ : ByteArray)).size + ((rd_T23 l0 x6_1).f1).size ≤ 9223372036854775807) = true := decide_eq_true c10
          (try (have c10b1s := c10b1; simp only [ByteArray.size_append, ByteArray.size_extract, Nat.min_self, Int.toNat_natCast, Nat.sub_zero, Int.natCast_add, size_lit, List.length_cons, List.length_nil, Nat.zero_add, Nat.reduceAdd, Int.natCast_one, Int.cast_ofNat_Int] at c10b1s))
          (try (have h_ := of_decide_eq_true c10b1; simp only [ByteArray.size_append, ByteArray.size_extract, Nat.min_self, Int.toNat_natCast, Nat.sub_zero, Int.natCast_add, size_lit, List.length_cons, List.length_nil, Nat.zero_add, Nat.reduceAdd, Int.natCast_one, Int.cast_ofNat_Int] at h_; have c10b1t := eq_true h_; clear h_))
          try have c10b2 : (9223372036854775807 < (((x5_1 ++ (⟨#[40]⟩ : ByteArray)) ++ ((rd_T23 l0 x6_1).f0)) ++ (⟨#[41]⟩ : ByteArray)).size + ((rd_T23 l0 x6_1).f1).size) = False := eq_false (Nat.not_lt.2 c10)
          (try (have h_ := of_eq_false c10b2; simp only [ByteArray.size_append, ByteArray.size_extract, Nat.min_self, Int.toNat_natCast, Nat.sub_zero, Int.natCast_add, size_lit, List.length_cons, List.length_nil, Nat.zero_add, Nat.reduceAdd, Int.natCast_one, Int.cast_ofNat_Int] at h_; have c10b2s := eq_false h_; clear h_))
          by_cases c11 : (((((x5_1 ++ (⟨#[40]⟩ : ByteArray)) ++ ((rd_T23 l0 x6_1).f0)) ++ (⟨#[41]⟩ : ByteArray)) ++ ((rd_T23 l0 x6_1).f1)).size : Int) > 4096
          ·rw [if_pos c11] at H
           have c11b0 : decide (4096 < (((((x5_1 ++ (⟨#[40]⟩ : ByteArray)) ++ ((rd_T23 l0 x6_1).f0)) ++ (⟨#[41]⟩ : ByteArray)) ++ ((rd_T23 l0 x6_1).f1)).size : Int)) = true := decide_eq_true c11
           (try (have c11b0s := c11b0; simp only [ByteArray.size_append, ByteArray.size_extract, Nat.min_self, Int.toNat_natCast, Nat.sub_zero, Int.natCast_add, size_lit, List.length_cons, List.length_nil, Nat.zero_add, Nat.reduceAdd, Int.natCast_one, Int.cast_ofNat_Int] at c11b0s))
           (try (have h_ := of_decide_eq_true c11b0; simp only [ByteArray.size_append, ByteArray.size_extract, Nat.min_self, Int.toNat_natCast, Nat.sub_zero, Int.natCast_add, size_lit, List.length_cons, List.length_nil, Nat.zero_add, Nat.reduceAdd, Int.natCast_one, Int.cast_ofNat_Int] at h_; have c11b0t := eq_true h_; clear h_))
           have c11b1 : decide (4096 < ((((x5_1 ++ (⟨#[40]⟩ : ByteArray)) ++ ((rd_T23 l0 x6_1).f0)) ++ (⟨#[41]⟩ : ByteArray)) ++ ((rd_T23 l0 x6_1).f1)).size) = true := decide_eq_true (by omega)
           (try (have c11b1s := c11b1; simp only [ByteArray.size_append, ByteArray.size_extract, Nat.min_self, Int.toNat_natCast, Nat.sub_zero, Int.natCast_add, size_lit, List.length_cons, List.length_nil, Nat.zero_add, Nat.reduceAdd, Int.natCast_one, Int.cast_ofNat_Int] at c11b1s))
           (try (have h_ := of_decide_eq_true c11b1; simp only [ByteArray.size_append, ByteArray.size_extract, Nat.min_self, Int.toNat_natCast, Nat.sub_zero, Int.natCast_add, size_lit, List.length_cons, List.length_nil, Nat.zero_add, Nat.reduceAdd, Int.natCast_one, Int.cast_ofNat_Int] at h_; have c11b1t := eq_true h_; clear h_))
           clear c11
           simp only [Option.some.injEq, Prod.mk.injEq] at H
           obtain ⟨rfl, rfl⟩ := H
           have p273 : 0 ≤ (x6_1 : Int) := of_decide_eq_true (by first | (with_reducible assumption) | assumption)
           have q273 : x6_1 < (l0.length : Int) := of_decide_eq_true (by first | (with_reducible assumption) | assumption)
           obtain ⟨ad273, e273, hx273_0, hx273_1⟩ := at_T23 HR0.out x6_1 p273 q273
           cases e273
           replace hx273_0 := (HB.out.cell (World.block_lt_of_cell? w _ hx273_0)).trans hx273_0
           replace hx273_1 := (HB.out.cell (World.block_lt_of_cell? w _ hx273_1)).trans hx273_1
           replace p273 := eq_true p273
           replace q273 := eq_true q273
           (try (have h_ := of_eq_true q273; simp only [ByteArray.size_append, ByteArray.size_extract, Nat.min_self, Int.toNat_natCast, Nat.sub_zero, Int.natCast_add, size_lit, List.length_cons, List.length_nil, Nat.zero_add, Nat.reduceAdd, Int.natCast_one, Int.cast_ofNat_Int] at h_; have q273s := eq_true h_; clear h_))
           have p274 : 0 ≤ (x6_1 : Int) := of_decide_eq_true (by first | (with_reducible assumption) | assumption)
           have q274 : x6_1 < (l0.length : Int) := of_decide_eq_true (by first | (with_reducible assumption) | assumption)
           obtain ⟨ad274, e274, hx274_0, hx274_1⟩ := at_T23 HR0.out x6_1 p274 q274
           obtain rfl : ad273 = ad274 := (by injection e274)
           replace hx274_0 := (HB.out.cell (World.block_lt_of_cell? w _ hx274_0)).trans hx274_0
           replace hx274_1 := (HB.out.cell (World.block_lt_of_cell? w _ hx274_1)).trans hx274_1
           replace p274 := eq_true p274
           replace q274 := eq_true q274
           (try (have h_ := of_eq_true q274; simp only [ByteArray.size_append, ByteArray.size_extract, Nat.min_self, Int.toNat_natCast, Nat.sub_zero, Int.natCast_add, size_lit, List.length_cons, List.length_nil, Nat.zero_add, Nat.reduceAdd, Int.natCast_one, Int.cast_ofNat_Int] at h_; have q274s := eq_true h_; clear h_))
           go_wp2
           repeat (go_quiet (fail); try go_wp2)
           go_ret2
           exact ⟨by first | rfl | (simp [errW_none, errW_some] <;> rfl) | (simp [*, errW_none, errW_some] <;> rfl), by repeat (first | (with_reducible first | exact HB.out | apply below_alloc | apply pw_below_drewN | apply below_drew1) | exact HB.out)⟩
          ·rw [if_neg c11] at H
           have c11b0 : decide (4096 < (((((x5_1 ++ (⟨#[40]⟩ : ByteArray)) ++ ((rd_T23 l0 x6_1).f0)) ++ (⟨#[41]⟩ : ByteArray)) ++ ((rd_T23 l0 x6_1).f1)).size : Int)) = false := decide_eq_false c11
           (try (have c11b0s := c11b0; simp only [ByteArray.size_append, ByteArray.size_extract, Nat.min_self, Int.toNat_natCast, Nat.sub_zero, Int.natCast_add, size_lit, List.length_cons, List.length_nil, Nat.zero_add, Nat.reduceAdd, Int.natCast_one, Int.cast_ofNat_Int] at c11b0s))
           have c11b1 : decide (4096 < ((((x5_1 ++ (⟨#[40]⟩ : ByteArray)) ++ ((rd_T23 l0 x6_1).f0)) ++ (⟨#[41]⟩ : ByteArray)) ++ ((rd_T23 l0 x6_1).f1)).size) = false := decide_eq_false (by omega)
           (try (have c11b1s := c11b1; simp only [ByteArray.size_append, ByteArray.size_extract, Nat.min_self, Int.toNat_natCast, Nat.sub_zero, Int.natCast_add, size_lit, List.length_cons, List.length_nil, Nat.zero_add, Nat.reduceAdd, Int.natCast_one, Int.cast_ofNat_Int] at c11b1s))
           clear c11
           have H' := Aside0.mk H
           clear H
           have p273 : 0 ≤ (x6_1 : Int) := of_decide_eq_true (by first | (with_reducible assumption) | assumption)
           have q273 : x6_1 < (l0.length : Int) := of_decide_eq_true (by first | (with_reducible assumption) | assumption)
           obtain ⟨ad273, e273, hx273_0, hx273_1⟩ := at_T23 HR0.out x6_1 p273 q273
           cases e273
           replace hx273_0 := (HB.out.cell (World.block_lt_of_cell? w _ hx273_0)).trans hx273_0
           replace hx273_1 := (HB.out.cell (World.block_lt_of_cell? w _ hx273_1)).trans hx273_1
           replace p273 := eq_true p273
           replace q273 := eq_true q273
           (try (have h_ := of_eq_true q273; simp only [ByteArray.size_append, ByteArray.size_extract, Nat.min_self, Int.toNat_natCast, Nat.sub_zero, Int.natCast_add, size_lit, List.length_cons, List.length_nil, Nat.zero_add, Nat.reduceAdd, Int.natCast_one, Int.cast_ofNat_Int] at h_; have q273s := eq_true h_; clear h_))
           have p274 : 0 ≤ (x6_1 : Int) := of_decide_eq_true (by first | (with_reducible assumption) | assumption)
           have q274 : x6_1 < (l0.length : Int) := of_decide_eq_true (by first | (with_reducible assumption) | assumption)
           obtain ⟨ad274, e274, hx274_0, hx274_1⟩ := at_T23 HR0.out x6_1 p274 q274
           obtain rfl : ad273 = ad274 := (by injection e274)
           replace hx274_0 := (HB.out.cell (World.block_lt_of_cell? w _ hx274_0)).trans hx274_0
           replace hx274_1 := (HB.out.cell (World.block_lt_of_cell? w _ hx274_1)).trans hx274_1
           replace p274 := eq_true p274
           replace q274 := eq_true q274
           (try (have h_ := of_eq_true q274; simp only [ByteArray.size_append, ByteArray.size_extract, Nat.min_self, Int.toNat_natCast, Nat.sub_zero, Int.natCast_add, size_lit, List.length_cons, List.length_nil, Nat.zero_add, Nat.reduceAdd, Int.natCast_one, Int.cast_ofNat_Int] at h_; have q274s := eq_true h_; clear h_))
           go_wp2
           repeat (go_quiet (fail); try go_wp2)
           go_roundg k1
           case measure => have := HK1.out; omega
           case rel => exact ⟨((((x5_1 ++ (⟨#[40]⟩ : ByteArray)) ++ ((rd_T23 l0 x6_1).f0)) ++ (⟨#[41]⟩ : ByteArray)) ++ ((rd_T23 l0 x6_1).f1)), (wrap64 (x6_1 + 1)), (by first | rfl | (simp; done) | (simp [*]; done)), (by first | rfl | (simp; done) | (simp [*]; done)), H', ⟨by have := HK1.out; omega⟩, ⟨by repeat (first | (with_reducible first | exact HB.out | apply below_alloc | apply pw_below_drewN | apply below_drew1) | exact HB.out)⟩⟩
         ·rw [if_neg c10] at H
          exact absurd H (by simp)
        ·rw [if_neg c9] at H
         exact absurd H (by simp)
       ·rw [if_neg c8] at H
        exact absurd H (by simp)
      ·rw [if_neg c7] at H
       exact absurd H (by simp)
     ·rw [if_neg c6] at H
      exact absurd H (by simp)
    ·rw [if_neg c5] at H
     have c5b0 : decide (x6_1 < (l0.length : Int)) = false := decide_eq_false c5
     clear c5
     simp only [Option.some.injEq, Prod.mk.injEq] at H
     obtain ⟨rfl, rfl⟩ := H
     go_wp2
     repeat (go_quiet (fail); try go_wp2)
     go_ret2
     exact ⟨by first | rfl | (simp [errW_none, errW_some] <;> rfl) | (simp [*, errW_none, errW_some] <;> rfl), by repeat (first | (with_reducible first | exact HB.out | apply below_alloc | apply pw_below_drewN | apply below_drew1) | exact HB.out)⟩
 ·rw [if_neg c3] at H
  have c3b0 : (t272 == 0) = false := beq_eq_false_iff_ne.mpr c3
  have c3b1 : (t272 != 0) = true := bne_iff_ne.mpr c3
  simp only [Option.some.injEq, Prod.mk.injEq] at H
  obtain ⟨rfl, rfl⟩ := H
  go_enter Tryz.func15, Tryz.ntmps15
  go_wp2_with (first | (go_at_call 35; (with_reducible refine (barscanref14_all.calls k _ _ l0 t272 _ ?side1 ?side2 A2.out).mono ?_); (case side1 => repeat (first | exact HR0.out | (with_reducible refine Kd.C_alloc ?_ _) | (with_reducible refine Kd.C_drewN ?_ _) | (with_reducible refine Kd.C_drew ?_))); (case side2 => exact HC0.out); rintro e w12 ⟨rfl, hb⟩; have n0_ := Aside0.mk (below_step (by repeat (first | (with_reducible first | exact HB.out | apply below_alloc | apply pw_below_drewN | apply below_drew1) | exact HB.out)) hb); clear HB; have HB := n0_; clear n0_; (try clear hb); (try clear hb2); (try clear hk); (try clear hi)))
  repeat (go_quiet (first | (go_at_call 35; (with_reducible refine (barscanref14_all.calls k _ _ l0 t272 _ ?side1 ?side2 A2.out).mono ?_); (case side1 => repeat (first | exact HR0.out | (with_reducible refine Kd.C_alloc ?_ _) | (with_reducible refine Kd.C_drewN ?_ _) | (with_reducible refine Kd.C_drew ?_))); (case side2 => exact HC0.out); rintro e w12 ⟨rfl, hb⟩; have n0_ := Aside0.mk (below_step (by repeat (first | (with_reducible first | exact HB.out | apply below_alloc | apply pw_below_drewN | apply below_drew1) | exact HB.out)) hb); clear HB; have HB := n0_; clear n0_; (try clear hb); (try clear hb2); (try clear hk); (try clear hi))); try go_wp2_with (first | (go_at_call 35; (with_reducible refine (barscanref14_all.calls k _ _ l0 t272 _ ?side1 ?side2 A2.out).mono ?_); (case side1 => repeat (first | exact HR0.out | (with_reducible refine Kd.C_alloc ?_ _) | (with_reducible refine Kd.C_drewN ?_ _) | (with_reducible refine Kd.C_drew ?_))); (case side2 => exact HC0.out); rintro e w12 ⟨rfl, hb⟩; have n0_ := Aside0.mk (below_step (by repeat (first | (with_reducible first | exact HB.out | apply below_alloc | apply pw_below_drewN | apply below_drew1) | exact HB.out)) hb); clear HB; have HB := n0_; clear n0_; (try clear hb); (try clear hb2); (try clear hk); (try clear hi))))
  go_ret2
  exact ⟨by first | rfl | (simp [errW_none, errW_some] <;> rfl) | (simp [*, errW_none, errW_some] <;> rfl), by repeat (first | (with_reducible first | exact HB.out | apply below_alloc | apply pw_below_drewN | apply below_drew1) | exact HB.out)⟩

end Go.Proofs.YtghlbdemlmbijaaGreatDoor.Q

namespace Go.Proofs.YtghlbdemlmbijaaGreatDoor.Q
open Go.RowKit Go.Proofs.YtghlbdemlmbijaaGreatDoorW.PrintWords Go.Proofs.YtghlbdemlmbijaaGreatDoorW.PrintLast Go.Proofs.YtghlbdemlmbijaaGreatDoorW.PrintMore

set_option linter.unusedVariables false
set_option linter.unusedSimpArgs false

/-! ### barscanref14_Chars: function 18 -/
mutual
def barscanref14_Chars.l0 : Nat → List (S23) → List Int → Int → Option (List Int × Int)
 | 0, _, _, _ => none
 | k + 1, x0, x5, x6 => if x6 < (x0.length : Int) then (if 0 ≤ x6 then (if ((rd_T23 x0 x6).f0).size + ((rd_T23 x0 x6).f1).size ≤ 9223372036854775807 then (barscanref14_Chars.l1 k x0 x5 x6 (((rd_T23 x0 x6).f0) ++ ((rd_T23 x0 x6).f1)) 0) else (none)) else (none)) else (some (x5, 0))
def barscanref14_Chars.l1 : Nat → List (S23) → List Int → Int → ByteArray → Int → Option (List Int × Int)
 | 0, _, _, _, _, _ => none
 | k + 1, x0, x5, x6, x7, x8 => if x8 < (x7.size : Int) then (if 0 ≤ x8 then (if x5.length < 17592186044416 then (barscanref14_Chars.l1 k x0 (x5 ++ [wrap64 (bt x7 x8)]) x6 x7 (wrap64 (x8 + 1))) else (none)) else (none)) else (if 0 ≤ x6 then (if x6 < (x0.length : Int) then ((barscanref14_Fixed.f k ((rd_T23 x0 x6).f0)).bind fun bt299 => (if bt299.1 = 0 then (barscanref14_Chars.j2 k x0 x5 x6 (decide (x6 < (wrap64 ((x0.length : Int) - 1))))) else (barscanref14_Chars.j2 k x0 x5 x6 false))) else (none)) else (none))
def barscanref14_Chars.j2 : Nat → List (S23) → List Int → Int → Bool → Option (List Int × Int)
 | 0, _, _, _, _ => none
 | k + 1, x0, x5, x6, x66 => if x66 = true then (if x5.length < 17592186044416 then ((some (x5 ++ [256] : List Int)).bind fun y302 => (if (y302.length : Int) > 4096 then (some (([] : List Int), 4)) else (barscanref14_Chars.l0 k x0 y302 (wrap64 (x6 + 1))))) else (none)) else (if (x5.length : Int) > 4096 then (some (([] : List Int), 4)) else (barscanref14_Chars.l0 k x0 x5 (wrap64 (x6 + 1))))
end
def barscanref14_Chars.f (k : Nat) (l0 : List (S23)) : Option (List Int × Int) := (barscanref14_all.f k l0).bind fun t289 => (if t289 = 0 then (barscanref14_Chars.l0 k l0 (([256] : List Int)) 0) else (some (([] : List Int), t289)))
theorem barscanref14_Chars.mono_l : ∀ k, (∀ y0 y1 y2, LeO (barscanref14_Chars.l0 k y0 y1 y2) (barscanref14_Chars.l0 (k + 1) y0 y1 y2)) ∧ (∀ y0 y1 y2 y3 y4, LeO (barscanref14_Chars.l1 k y0 y1 y2 y3 y4) (barscanref14_Chars.l1 (k + 1) y0 y1 y2 y3 y4)) ∧ (∀ y0 y1 y2 y3, LeO (barscanref14_Chars.j2 k y0 y1 y2 y3) (barscanref14_Chars.j2 (k + 1) y0 y1 y2 y3))
 | 0 => ⟨fun _ _ _ r h => by simp [barscanref14_Chars.l0] at h, fun _ _ _ _ _ r h => by simp [barscanref14_Chars.l1] at h, fun _ _ _ _ r h => by simp [barscanref14_Chars.j2] at h⟩
 | k + 1 => by
  obtain ⟨ih0, ih1, ih2⟩ := barscanref14_Chars.mono_l k
  refine ⟨?_, ?_, ?_⟩
  ·intro y0 y1 y2
   unfold barscanref14_Chars.l0
   repeat' first
   | (with_reducible exact ih0 _ _ _)
   | (with_reducible exact ih1 _ _ _ _ _)
   | (with_reducible exact ih2 _ _ _ _)
   | (with_reducible exact barscanref14_Fixed.mono _ _)
   | (with_reducible exact barscanref14_all.mono _ _)
   | (with_reducible exact LeO.refl _)
   | (with_reducible exact LeO.none _)
   | (with_reducible refine LeO.ite ?_ ?_)
   | (with_reducible refine LeO.bind ?_ (fun _ => ?_))
   | exact ih0 _ _ _
   | exact ih1 _ _ _ _ _
   | exact ih2 _ _ _ _
   | exact barscanref14_Fixed.mono _ _
   | exact barscanref14_all.mono _ _
   | exact LeO.none _
   | refine LeO.ite ?_ ?_
   | refine LeO.bind ?_ (fun _ => ?_)
  ·intro y0 y1 y2 y3 y4
   unfold barscanref14_Chars.l1
   repeat' first
   | (with_reducible exact ih0 _ _ _)
   | (with_reducible exact ih1 _ _ _ _ _)
   | (with_reducible exact ih2 _ _ _ _)
   | (with_reducible exact barscanref14_Fixed.mono _ _)
   | (with_reducible exact barscanref14_all.mono _ _)
   | (with_reducible exact LeO.refl _)
   | (with_reducible exact LeO.none _)
   | (with_reducible refine LeO.ite ?_ ?_)
   | (with_reducible refine LeO.bind ?_ (fun _ => ?_))
   | exact ih0 _ _ _
   | exact ih1 _ _ _ _ _
   | exact ih2 _ _ _ _
   | exact barscanref14_Fixed.mono _ _
   | exact barscanref14_all.mono _ _
   | exact LeO.none _
   | refine LeO.ite ?_ ?_
   | refine LeO.bind ?_ (fun _ => ?_)
  ·intro y0 y1 y2 y3
   unfold barscanref14_Chars.j2
   repeat' first
   | (with_reducible exact ih0 _ _ _)
   | (with_reducible exact ih1 _ _ _ _ _)
   | (with_reducible exact ih2 _ _ _ _)
   | (with_reducible exact barscanref14_Fixed.mono _ _)
   | (with_reducible exact barscanref14_all.mono _ _)
   | (with_reducible exact LeO.refl _)
   | (with_reducible exact LeO.none _)
   | (with_reducible refine LeO.ite ?_ ?_)
   | (with_reducible refine LeO.bind ?_ (fun _ => ?_))
   | exact ih0 _ _ _
   | exact ih1 _ _ _ _ _
   | exact ih2 _ _ _ _
   | exact barscanref14_Fixed.mono _ _
   | exact barscanref14_all.mono _ _
   | exact LeO.none _
   | refine LeO.ite ?_ ?_
   | refine LeO.bind ?_ (fun _ => ?_)
theorem barscanref14_Chars.mono : ∀ a0 k, LeO (barscanref14_Chars.f k a0) (barscanref14_Chars.f (k + 1) a0) := by
 intro a0 k
 obtain ⟨ih0, ih1, ih2⟩ := barscanref14_Chars.mono_l k
 unfold barscanref14_Chars.f
 repeat' first
   | (with_reducible exact ih0 _ _ _)
   | (with_reducible exact ih1 _ _ _ _ _)
   | (with_reducible exact ih2 _ _ _ _)
   | (with_reducible exact barscanref14_Fixed.mono _ _)
   | (with_reducible exact barscanref14_all.mono _ _)
   | (with_reducible exact LeO.refl _)
   | (with_reducible exact LeO.none _)
   | (with_reducible refine LeO.ite ?_ ?_)
   | (with_reducible refine LeO.bind ?_ (fun _ => ?_))
   | exact ih0 _ _ _
   | exact ih1 _ _ _ _ _
   | exact ih2 _ _ _ _
   | exact barscanref14_Fixed.mono _ _
   | exact barscanref14_all.mono _ _
   | exact LeO.none _
   | refine LeO.ite ?_ ?_
   | refine LeO.bind ?_ (fun _ => ?_)
set_option maxHeartbeats 8000000 in
set_option maxRecDepth 100000 in
theorem barscanref14_Chars.calls (k : Nat) (A0 : Option Addr) (c0 : Nat) (l0 : List (S23)) (r1 : List Int) (r2 : Int) (w : World) (hr0 : Kd.C k23 w A0 l0.length l0) (hc0 : l0.length ≤ c0) (h : barscanref14_Chars.f k l0 = some (r1, r2)) :
  Calls Tryz.prog 18 #[.slice A0 l0.length c0] w fun e w' => ∃ v0_ : Value, e = .returned (.tuple #[v0_, .int .i64 r2]) ∧ Kd.R (Kd.int .i64) 3 w' w.heap.size (fun _ => True) v0_ r1 ∧ Below w.heap.size w w' := by
 have HR0 := Aside0.mk hr0
 have HC0 := Aside0.mk hc0
 clear hr0 hc0
 have HB := Aside0.mk (Below.refl w.heap.size w)
 have H : ((barscanref14_all.f k l0).bind fun t289 => (if t289 = 0 then (barscanref14_Chars.l0 k l0 (([256] : List Int)) 0) else (some (([] : List Int), t289)))) = some (r1, r2) := h
 clear h
 replace H := Option.bind_eq_some_iff.mp H
 obtain ⟨t289, A20, H⟩ := H
 replace H : (if t289 = 0 then (barscanref14_Chars.l0 k l0 (([256] : List Int)) 0) else (some (([] : List Int), t289))) = some (r1, r2) := H
 have A2 := Aside0.mk A20
 clear A20
 by_cases c3 : t289 = 0
 ·rw [if_pos c3] at H
  have c3b0 : (t289 == 0) = true := beq_iff_eq.mpr c3
  have c3b1 : (t289 != 0) = false := bne_eq_false_iff_eq.mpr c3
  clear c3
  obtain ⟨y290, hy290⟩ : ∃ y_ : List Int, y_ = (([256] : List Int)) := ⟨_, rfl⟩
  replace H : (barscanref14_Chars.l0 k l0 y290 0) = some (r1, r2) := by first | (rw [hy290]; with_reducible exact H) | (have H2_ := (Option.bind_some _ _).symm.trans H; rw [hy290]; with_reducible exact H2_) | (have H2_ := (Option.bind_some _ _).symm.trans H; with_reducible exact H2_) | with_reducible exact H | (rw [hy290]; exact H) | exact H
  have Ny290 := Aside0.mk hy290
  clear hy290
  have H' := Aside0.mk H
  clear H
  go_enter Tryz.func18, Tryz.ntmps18
  go_wp2_with (first | (go_at_call 35; (with_reducible refine (barscanref14_all.calls k _ _ l0 t289 _ ?side1 ?side2 A2.out).mono ?_); (case side1 => repeat (first | exact HR0.out | (with_reducible refine Kd.C_alloc ?_ _) | (with_reducible refine Kd.C_drewN ?_ _) | (with_reducible refine Kd.C_drew ?_))); (case side2 => exact HC0.out); rintro e w4 ⟨rfl, hb⟩; have n0_ := Aside0.mk (below_step (by repeat (first | (with_reducible first | exact HB.out | apply below_alloc | apply pw_below_drewN | apply below_drew1) | exact HB.out)) hb); clear HB; have HB := n0_; clear n0_; (try clear hb); (try clear hb2); (try clear hk); (try clear hi)) | ((with_reducible refine gate_dst (N := 17) rfl ?_); (try (refine gate_guard (by rfl) ?_; dsimp only)); refine Kd.R_lit (Kd.int .i64) _ 3 ?hg (N := 17) ?hd (xs := ([256] : List Int)) (inner := [.int .i64 256]) (ok := fun _ => True) (okp := fun _ => True) ?hr ?hp (fun _ hk => hk) trivial (Below.refl _ _) (Nat.le_refl _) (by simp) ?_; (case hd => rfl); (case hg => rfl); (case hr => first | (go_simp; done) | (go_simp; rfl)); (case hp => exact (Reps.one (show Kd.M (Kd.int .i64) _ _ _ 256 [.int .i64 256] from rfl) (Reps.none _ _))); intro v291 w5 ho6 hb hg_ hnew_; clear hg_ hnew_; (first | rw [← Ny290.out] at ho6 | (simp only [Int.reduceToNat] at ho6; rw [← Ny290.out] at ho6)); have n0_ := Aside0.mk (Kd.R_lower ho6 (below_size (by repeat (first | (with_reducible first | exact HB.out | apply below_alloc | apply pw_below_drewN | apply below_drew1) | exact HB.out)))); have n1_ := Aside0.mk (below_step (by repeat (first | (with_reducible first | exact HB.out | apply below_alloc | apply pw_below_drewN | apply below_drew1) | exact HB.out)) hb); clear HB; have HO292 := n0_; have HB := n1_; clear n0_ n1_; clear hb ho6))
  repeat (go_quiet (first | (go_at_call 35; (with_reducible refine (barscanref14_all.calls k _ _ l0 t289 _ ?side1 ?side2 A2.out).mono ?_); (case side1 => repeat (first | exact HR0.out | (with_reducible refine Kd.C_alloc ?_ _) | (with_reducible refine Kd.C_drewN ?_ _) | (with_reducible refine Kd.C_drew ?_))); (case side2 => exact HC0.out); rintro e w4 ⟨rfl, hb⟩; have n0_ := Aside0.mk (below_step (by repeat (first | (with_reducible first | exact HB.out | apply below_alloc | apply pw_below_drewN | apply below_drew1) | exact HB.out)) hb); clear HB; have HB := n0_; clear n0_; (try clear hb); (try clear hb2); (try clear hk); (try clear hi)) | ((with_reducible refine gate_dst (N := 17) rfl ?_); (try (refine gate_guard (by rfl) ?_; dsimp only)); refine Kd.R_lit (Kd.int .i64) _ 3 ?hg (N := 17) ?hd (xs := ([256] : List Int)) (inner := [.int .i64 256]) (ok := fun _ => True) (okp := fun _ => True) ?hr ?hp (fun _ hk => hk) trivial (Below.refl _ _) (Nat.le_refl _) (by simp) ?_; (case hd => rfl); (case hg => rfl); (case hr => first | (go_simp; done) | (go_simp; rfl)); (case hp => exact (Reps.one (show Kd.M (Kd.int .i64) _ _ _ 256 [.int .i64 256] from rfl) (Reps.none _ _))); intro v291 w5 ho6 hb hg_ hnew_; clear hg_ hnew_; (first | rw [← Ny290.out] at ho6 | (simp only [Int.reduceToNat] at ho6; rw [← Ny290.out] at ho6)); have n0_ := Aside0.mk (Kd.R_lower ho6 (below_size (by repeat (first | (with_reducible first | exact HB.out | apply below_alloc | apply pw_below_drewN | apply below_drew1) | exact HB.out)))); have n1_ := Aside0.mk (below_step (by repeat (first | (with_reducible first | exact HB.out | apply below_alloc | apply pw_below_drewN | apply below_drew1) | exact HB.out)) hb); clear HB; have HO292 := n0_; have HB := n1_; clear n0_ n1_; clear hb ho6)); try go_wp2_with (first | (go_at_call 35; (with_reducible refine (barscanref14_all.calls k _ _ l0 t289 _ ?side1 ?side2 A2.out).mono ?_); (case side1 => repeat (first | exact HR0.out | (with_reducible refine Kd.C_alloc ?_ _) | (with_reducible refine Kd.C_drewN ?_ _) | (with_reducible refine Kd.C_drew ?_))); (case side2 => exact HC0.out); rintro e w4 ⟨rfl, hb⟩; have n0_ := Aside0.mk (below_step (by repeat (first | (with_reducible first | exact HB.out | apply below_alloc | apply pw_below_drewN | apply below_drew1) | exact HB.out)) hb); clear HB; have HB := n0_; clear n0_; (try clear hb); (try clear hb2); (try clear hk); (try clear hi)) | ((with_reducible refine gate_dst (N := 17) rfl ?_); (try (refine gate_guard (by rfl) ?_; dsimp only)); refine Kd.R_lit (Kd.int .i64) _ 3 ?hg (N := 17) ?hd (xs := ([256] : List Int)) (inner := [.int .i64 256]) (ok := fun _ => True) (okp := fun _ => True) ?hr ?hp (fun _ hk => hk) trivial (Below.refl _ _) (Nat.le_refl _) (by simp) ?_; (case hd => rfl); (case hg => rfl); (case hr => first | (go_simp; done) | (go_simp; rfl)); (case hp => exact (Reps.one (show Kd.M (Kd.int .i64) _ _ _ 256 [.int .i64 256] from rfl) (Reps.none _ _))); intro v291 w5 ho6 hb hg_ hnew_; clear hg_ hnew_; (first | rw [← Ny290.out] at ho6 | (simp only [Int.reduceToNat] at ho6; rw [← Ny290.out] at ho6)); have n0_ := Aside0.mk (Kd.R_lower ho6 (below_size (by repeat (first | (with_reducible first | exact HB.out | apply below_alloc | apply pw_below_drewN | apply below_drew1) | exact HB.out)))); have n1_ := Aside0.mk (below_step (by repeat (first | (with_reducible first | exact HB.out | apply below_alloc | apply pw_below_drewN | apply below_drew1) | exact HB.out)) hb); clear HB; have HO292 := n0_; have HB := n1_; clear n0_ n1_; clear hb ho6)))
  go_loopg [5, 6] k (fun kq v5 v6 w' => ∃ (x5_1 : List Int) (x6_1 : Int), v6 = .int .i64 x6_1 ∧ Aside0 (barscanref14_Chars.l0 kq l0 x5_1 x6_1 = some (r1, r2)) ∧ Aside0 (kq ≤ k) ∧ Aside0 (Kd.R (Kd.int .i64) 3 w' w.heap.size (fun _ => True) v5 x5_1) ∧ Aside0 (Below w.heap.size w w'))
  case atStart => exact ⟨(y290), (0), (by first | rfl | (simp; done) | (simp [*]; done)), H', ⟨Nat.le_refl _⟩, ⟨by (with_reducible repeat (first | apply Kd.R_alloc | apply Kd.R_drewN | apply Kd.R_drew)); exact HO292.out⟩, ⟨by repeat (first | (with_reducible first | exact HB.out | apply below_alloc | apply pw_below_drewN | apply below_drew1) | exact HB.out)⟩⟩
  case round =>
   clear H'
   obtain ⟨x5_1, x6_1, rfl, HA, HK1, HO_5, HB⟩ := hrel
   cases gk with
   | zero => exact absurd HA.out (by simp [barscanref14_Chars.l0])
   | succ k1 =>
    have H := HA.out
    clear HA
    simp only [barscanref14_Chars.l0] at H
    by_cases c7 : x6_1 < (l0.length : Int)
    ·rw [if_pos c7] at H
     have c7b0 : decide (x6_1 < (l0.length : Int)) = true := decide_eq_true c7
     clear c7
     by_cases c8 : 0 ≤ x6_1
     ·rw [if_pos c8] at H
      have c8b0 : decide (0 ≤ x6_1) = true := decide_eq_true c8
      clear c8
      by_cases c9 : ((rd_T23 l0 x6_1).f0).size + ((rd_T23 l0 x6_1).f1).size ≤ 9223372036854775807
      ·rw [if_pos c9] at H
       have c9b0 := eq_true c9
       (try (have h_ := of_eq_true c9b0; simp only [ByteArray.size_append, ByteArray.size_extract, Nat.min_self, Int.toNat_natCast, Nat.sub_zero, Int.natCast_add, size_lit, List.length_cons, List.length_nil, Nat.zero_add, Nat.reduceAdd, Int.natCast_one, Int.cast_ofNat_Int] at h_; have c9b0s := eq_true h_; clear h_))
       have c9b1 : decide (((rd_T23 l0 x6_1).f0).size + ((rd_T23 l0 x6_1).f1).size ≤ 9223372036854775807) = true := decide_eq_true c9
       try have c9b2 : (9223372036854775807 < ((rd_T23 l0 x6_1).f0).size + ((rd_T23 l0 x6_1).f1).size) = False := eq_false (Nat.not_lt.2 c9)
       have H' := Aside0.mk H
       clear H
       have p293 : 0 ≤ (x6_1 : Int) := of_decide_eq_true (by first | (with_reducible assumption) | assumption)
       have q293 : x6_1 < (l0.length : Int) := of_decide_eq_true (by first | (with_reducible assumption) | assumption)
       obtain ⟨ad293, e293, hx293_0, hx293_1⟩ := at_T23 HR0.out x6_1 p293 q293
       cases e293
       replace hx293_0 := (HB.out.cell (World.block_lt_of_cell? w _ hx293_0)).trans hx293_0
       replace hx293_1 := (HB.out.cell (World.block_lt_of_cell? w _ hx293_1)).trans hx293_1
       replace p293 := eq_true p293
       replace q293 := eq_true q293
       (try (have h_ := of_eq_true q293; simp only [ByteArray.size_append, ByteArray.size_extract, Nat.min_self, Int.toNat_natCast, Nat.sub_zero, Int.natCast_add, size_lit, List.length_cons, List.length_nil, Nat.zero_add, Nat.reduceAdd, Int.natCast_one, Int.cast_ofNat_Int] at h_; have q293s := eq_true h_; clear h_))
       have p294 : 0 ≤ (x6_1 : Int) := of_decide_eq_true (by first | (with_reducible assumption) | assumption)
       have q294 : x6_1 < (l0.length : Int) := of_decide_eq_true (by first | (with_reducible assumption) | assumption)
       obtain ⟨ad294, e294, hx294_0, hx294_1⟩ := at_T23 HR0.out x6_1 p294 q294
       obtain rfl : ad293 = ad294 := (by injection e294)
       replace hx294_0 := (HB.out.cell (World.block_lt_of_cell? w _ hx294_0)).trans hx294_0
       replace hx294_1 := (HB.out.cell (World.block_lt_of_cell? w _ hx294_1)).trans hx294_1
       replace p294 := eq_true p294
       replace q294 := eq_true q294
       (try (have h_ := of_eq_true q294; simp only [ByteArray.size_append, ByteArray.size_extract, Nat.min_self, Int.toNat_natCast, Nat.sub_zero, Int.natCast_add, size_lit, List.length_cons, List.length_nil, Nat.zero_add, Nat.reduceAdd, Int.natCast_one, Int.cast_ofNat_Int] at h_; have q294s := eq_true h_; clear h_))
       go_wp2
       repeat (go_quiet (fail); try go_wp2)
       go_loopg [5, 8] k1 (fun kq v5 v8 w' => ∃ (x5_2 : List Int) (x8_2 : Int), v8 = .int .i64 x8_2 ∧ Aside0 (barscanref14_Chars.l1 kq l0 x5_2 x6_1 (((rd_T23 l0 x6_1).f0) ++ ((rd_T23 l0 x6_1).f1)) x8_2 = some (r1, r2)) ∧ Aside0 (kq ≤ k1) ∧ Aside0 (Kd.R (Kd.int .i64) 3 w' w.heap.size (fun _ => True) v5 x5_2) ∧ Aside0 (Below w.heap.size w w'))
       case atStart => exact ⟨(x5_1), (0), (by first | rfl | (simp; done) | (simp [*]; done)), H', ⟨Nat.le_refl _⟩, ⟨by (with_reducible repeat (first | apply Kd.R_alloc | apply Kd.R_drewN | apply Kd.R_drew)); exact HO_5.out⟩, ⟨by repeat (first | (with_reducible first | exact HB.out | apply below_alloc | apply pw_below_drewN | apply below_drew1) | exact HB.out)⟩⟩
       case round =>
        clear H'
        obtain ⟨x5_2, x8_2, rfl, HA, HK2, HO_5, HB⟩ := hrel
        cases gk with
        | zero => exact absurd HA.out (by simp [barscanref14_Chars.l1])
        | succ k2 =>
         have H := HA.out
         clear HA
         simp only [barscanref14_Chars.l1] at H
         by_cases c10 : x8_2 < ((((rd_T23 l0 x6_1).f0) ++ ((rd_T23 l0 x6_1).f1)).size : Int)
         ·rw [if_pos c10] at H
          have c10b0 : decide (x8_2 < ((((rd_T23 l0 x6_1).f0) ++ ((rd_T23 l0 x6_1).f1)).size : Int)) = true := decide_eq_true c10
          (try (have c10b0s := c10b0; simp only [ByteArray.size_append, ByteArray.size_extract, Nat.min_self, Int.toNat_natCast, Nat.sub_zero, Int.natCast_add, size_lit, List.length_cons, List.length_nil, Nat.zero_add, Nat.reduceAdd, Int.natCast_one, Int.cast_ofNat_Int] at c10b0s))
          (try (have h_ := of_decide_eq_true c10b0; simp only [ByteArray.size_append, ByteArray.size_extract, Nat.min_self, Int.toNat_natCast, Nat.sub_zero, Int.natCast_add, size_lit, List.length_cons, List.length_nil, Nat.zero_add, Nat.reduceAdd, Int.natCast_one, Int.cast_ofNat_Int] at h_; have c10b0t := eq_true h_; clear h_))
          clear c10
          by_cases c11 : 0 ≤ x8_2
          ·rw [if_pos c11] at H
           have c11b0 : decide (0 ≤ x8_2) = true := decide_eq_true c11
           clear c11
           by_cases c13 : x5_2.length < 17592186044416
           ·rw [if_pos c13] at H
            have LMc13 := Aside0.mk c13
            clear c13
            obtain ⟨y295, hy295⟩ : ∃ y_ : List Int, y_ = (x5_2 ++ [wrap64 (bt (((rd_T23 l0 x6_1).f0) ++ ((rd_T23 l0 x6_1).f1)) x8_2)]) := ⟨_, rfl⟩
            replace H : (barscanref14_Chars.l1 k2 l0 y295 x6_1 (((rd_T23 l0 x6_1).f0) ++ ((rd_T23 l0 x6_1).f1)) (wrap64 (x8_2 + 1))) = some (r1, r2) := by first | (rw [hy295]; with_reducible exact H) | (have H2_ := (Option.bind_some _ _).symm.trans H; rw [hy295]; with_reducible exact H2_) | (have H2_ := (Option.bind_some _ _).symm.trans H; with_reducible exact H2_) | with_reducible exact H | (rw [hy295]; exact H) | exact H
            have Ny295 := Aside0.mk hy295
            clear hy295
            have H' := Aside0.mk H
            clear H
            have p12 : 0 ≤ (x8_2 : Int) := of_decide_eq_true (by first | (with_reducible assumption) | assumption)
            have q12 : x8_2 < ((((rd_T23 l0 x6_1).f0) ++ ((rd_T23 l0 x6_1).f1)).size : Int) := of_decide_eq_true (by first | (with_reducible assumption) | assumption)
            (try (have q12s := q12; simp only [ByteArray.size_append, ByteArray.size_extract, Nat.min_self, Int.toNat_natCast, Nat.sub_zero, Int.natCast_add, size_lit, List.length_cons, List.length_nil, Nat.zero_add, Nat.reduceAdd, Int.natCast_one, Int.cast_ofNat_Int] at q12s))
            have hx12 := bt_at (((rd_T23 l0 x6_1).f0) ++ ((rd_T23 l0 x6_1).f1)) x8_2
            replace p12 := eq_true p12
            replace q12 := eq_true q12
            (try (have h_ := of_eq_true q12; simp only [ByteArray.size_append, ByteArray.size_extract, Nat.min_self, Int.toNat_natCast, Nat.sub_zero, Int.natCast_add, size_lit, List.length_cons, List.length_nil, Nat.zero_add, Nat.reduceAdd, Int.natCast_one, Int.cast_ofNat_Int] at h_; have q12s := eq_true h_; clear h_))
            go_wp2_with (first | ((with_reducible refine gate_builtin (b := .append) (xs := #[.tmp 41, .tmp 46]) rfl ?_); (try (refine gate_guard (by rfl) ?_; dsimp only)); at_builtin; refine Kd.R_append (Kd.int .i64) (w0 := w) w.heap.size rfl (.tmp 41) (.tmp 46) 37 3 (.int .i64 0) 8 rfl Tryz.underlying37 info3 rfl (by decide) (by omega) u5 x5_2 (wrap64 (bt (((rd_T23 l0 x6_1).f0) ++ ((rd_T23 l0 x6_1).f1)) x8_2)) [.int .i64 (wrap64 (bt (((rd_T23 l0 x6_1).f0) ++ ((rd_T23 l0 x6_1).f1)) x8_2))] (fun _ => True) (fun _ => False) rfl rfl ?aP (fun _ hk => hk.elim) ?aF ?aO ?aB ?aS ?aL ?_; (case aP => exact rfl); (case aB => exact (by repeat (first | (with_reducible first | exact HB.out | apply below_alloc | apply pw_below_drewN | apply below_drew1) | exact HB.out))); (case aF => exact (fun _ _ => trivial)); (case aO => exact (by (with_reducible repeat (first | apply Kd.R_alloc | apply Kd.R_drewN | apply Kd.R_drew)); exact HO_5.out)); (case aS => exact (below_size (by repeat (first | (with_reducible first | exact HB.out | apply below_alloc | apply pw_below_drewN | apply below_drew1) | exact HB.out)))); (case aL => have := LMc13.out; omega); intro v296 w14 ho hb hg hat; rw [← Ny295.out] at ho; have n0_ := Aside0.mk (hb); have n1_ := Aside0.mk (ho); clear HB; clear HO_5; have HB := n0_; have HO297 := n1_; clear n0_ n1_; clear ho hb hg hat))
            repeat (go_quiet (first | ((with_reducible refine gate_builtin (b := .append) (xs := #[.tmp 41, .tmp 46]) rfl ?_); (try (refine gate_guard (by rfl) ?_; dsimp only)); at_builtin; refine Kd.R_append (Kd.int .i64) (w0 := w) w.heap.size rfl (.tmp 41) (.tmp 46) 37 3 (.int .i64 0) 8 rfl Tryz.underlying37 info3 rfl (by decide) (by omega) u5 x5_2 (wrap64 (bt (((rd_T23 l0 x6_1).f0) ++ ((rd_T23 l0 x6_1).f1)) x8_2)) [.int .i64 (wrap64 (bt (((rd_T23 l0 x6_1).f0) ++ ((rd_T23 l0 x6_1).f1)) x8_2))] (fun _ => True) (fun _ => False) rfl rfl ?aP (fun _ hk => hk.elim) ?aF ?aO ?aB ?aS ?aL ?_; (case aP => exact rfl); (case aB => exact (by repeat (first | (with_reducible first | exact HB.out | apply below_alloc | apply pw_below_drewN | apply below_drew1) | exact HB.out))); (case aF => exact (fun _ _ => trivial)); (case aO => exact (by (with_reducible repeat (first | apply Kd.R_alloc | apply Kd.R_drewN | apply Kd.R_drew)); exact HO_5.out)); (case aS => exact (below_size (by repeat (first | (with_reducible first | exact HB.out | apply below_alloc | apply pw_below_drewN | apply below_drew1) | exact HB.out)))); (case aL => have := LMc13.out; omega); intro v296 w14 ho hb hg hat; rw [← Ny295.out] at ho; have n0_ := Aside0.mk (hb); have n1_ := Aside0.mk (ho); clear HB; clear HO_5; have HB := n0_; have HO297 := n1_; clear n0_ n1_; clear ho hb hg hat)); try go_wp2_with (first | ((with_reducible refine gate_builtin (b := .append) (xs := #[.tmp 41, .tmp 46]) rfl ?_); (try (refine gate_guard (by rfl) ?_; dsimp only)); at_builtin; refine Kd.R_append (Kd.int .i64) (w0 := w) w.heap.size rfl (.tmp 41) (.tmp 46) 37 3 (.int .i64 0) 8 rfl Tryz.underlying37 info3 rfl (by decide) (by omega) u5 x5_2 (wrap64 (bt (((rd_T23 l0 x6_1).f0) ++ ((rd_T23 l0 x6_1).f1)) x8_2)) [.int .i64 (wrap64 (bt (((rd_T23 l0 x6_1).f0) ++ ((rd_T23 l0 x6_1).f1)) x8_2))] (fun _ => True) (fun _ => False) rfl rfl ?aP (fun _ hk => hk.elim) ?aF ?aO ?aB ?aS ?aL ?_; (case aP => exact rfl); (case aB => exact (by repeat (first | (with_reducible first | exact HB.out | apply below_alloc | apply pw_below_drewN | apply below_drew1) | exact HB.out))); (case aF => exact (fun _ _ => trivial)); (case aO => exact (by (with_reducible repeat (first | apply Kd.R_alloc | apply Kd.R_drewN | apply Kd.R_drew)); exact HO_5.out)); (case aS => exact (below_size (by repeat (first | (with_reducible first | exact HB.out | apply below_alloc | apply pw_below_drewN | apply below_drew1) | exact HB.out)))); (case aL => have := LMc13.out; omega); intro v296 w14 ho hb hg hat; rw [← Ny295.out] at ho; have n0_ := Aside0.mk (hb); have n1_ := Aside0.mk (ho); clear HB; clear HO_5; have HB := n0_; have HO297 := n1_; clear n0_ n1_; clear ho hb hg hat)))
            go_roundg k2
            case measure => have := HK1.out; have := HK2.out; omega
            case rel => exact ⟨(y295), (wrap64 (x8_2 + 1)), (by first | rfl | (simp; done) | (simp [*]; done)), H', ⟨by have := HK1.out; have := HK2.out; omega⟩, ⟨by (with_reducible repeat (first | apply Kd.R_alloc | apply Kd.R_drewN | apply Kd.R_drew)); exact HO297.out⟩, ⟨by repeat (first | (with_reducible first | exact HB.out | apply below_alloc | apply pw_below_drewN | apply below_drew1) | exact HB.out)⟩⟩
           ·rw [if_neg c13] at H
            exact absurd H (by simp)
          ·rw [if_neg c11] at H
           exact absurd H (by simp)
         ·rw [if_neg c10] at H
          have c10b0 : decide (x8_2 < ((((rd_T23 l0 x6_1).f0) ++ ((rd_T23 l0 x6_1).f1)).size : Int)) = false := decide_eq_false c10
          (try (have c10b0s := c10b0; simp only [ByteArray.size_append, ByteArray.size_extract, Nat.min_self, Int.toNat_natCast, Nat.sub_zero, Int.natCast_add, size_lit, List.length_cons, List.length_nil, Nat.zero_add, Nat.reduceAdd, Int.natCast_one, Int.cast_ofNat_Int] at c10b0s))
          clear c10
          by_cases c15 : 0 ≤ x6_1
          ·rw [if_pos c15] at H
           have c15b0 : decide (0 ≤ x6_1) = true := decide_eq_true c15
           clear c15
           by_cases c16 : x6_1 < (l0.length : Int)
           ·rw [if_pos c16] at H
            have c16b0 : decide (x6_1 < (l0.length : Int)) = true := decide_eq_true c16
            clear c16
            replace H := Option.bind_eq_some_iff.mp H
            obtain ⟨⟨t299, t300, t301⟩, A170, H⟩ := H
            replace H : (if t299 = 0 then (barscanref14_Chars.j2 k2 l0 x5_2 x6_1 (decide (x6_1 < (wrap64 ((l0.length : Int) - 1))))) else (barscanref14_Chars.j2 k2 l0 x5_2 x6_1 false)) = some (r1, r2) := H
            have A17 := Aside0.mk A170
            clear A170
            have HC18 := Aside0.mk H
            clear H
            have p298 : 0 ≤ (x6_1 : Int) := of_decide_eq_true (by first | (with_reducible assumption) | assumption)
            have q298 : x6_1 < (l0.length : Int) := of_decide_eq_true (by first | (with_reducible assumption) | assumption)
            obtain ⟨ad298, e298, hx298_0, hx298_1⟩ := at_T23 HR0.out x6_1 p298 q298
            obtain rfl : ad293 = ad298 := (by injection e298)
            replace hx298_0 := (HB.out.cell (World.block_lt_of_cell? w _ hx298_0)).trans hx298_0
            replace hx298_1 := (HB.out.cell (World.block_lt_of_cell? w _ hx298_1)).trans hx298_1
            replace p298 := eq_true p298
            replace q298 := eq_true q298
            (try (have h_ := of_eq_true q298; simp only [ByteArray.size_append, ByteArray.size_extract, Nat.min_self, Int.toNat_natCast, Nat.sub_zero, Int.natCast_add, size_lit, List.length_cons, List.length_nil, Nat.zero_add, Nat.reduceAdd, Int.natCast_one, Int.cast_ofNat_Int] at h_; have q298s := eq_true h_; clear h_))
            go_upto_region 14 with (first | (go_at_call 8; (with_reducible refine (barscanref14_Fixed.calls k2 ((rd_T23 l0 x6_1).f0) t299 t300 t301 _ A17.out).mono ?_); rintro e w' ⟨rfl, ⟨nd, rfl⟩⟩; (try first | exact ⟨rfl, _, World.drewN_drewN _ _ _⟩ | exact ⟨rfl, _, Eq.trans (World.drewN_drewN _ _ _) (congrArg (World.drewN _) (Nat.add_assoc _ _ _))⟩)))
            repeat (go_quiet (first | (go_at_call 8; (with_reducible refine (barscanref14_Fixed.calls k2 ((rd_T23 l0 x6_1).f0) t299 t300 t301 _ A17.out).mono ?_); rintro e w' ⟨rfl, ⟨nd, rfl⟩⟩; (try first | exact ⟨rfl, _, World.drewN_drewN _ _ _⟩ | exact ⟨rfl, _, Eq.trans (World.drewN_drewN _ _ _) (congrArg (World.drewN _) (Nat.add_assoc _ _ _))⟩))); go_upto_region 14 with (first | (go_at_call 8; (with_reducible refine (barscanref14_Fixed.calls k2 ((rd_T23 l0 x6_1).f0) t299 t300 t301 _ A17.out).mono ?_); rintro e w' ⟨rfl, ⟨nd, rfl⟩⟩; (try first | exact ⟨rfl, _, World.drewN_drewN _ _ _⟩ | exact ⟨rfl, _, Eq.trans (World.drewN_drewN _ _ _) (congrArg (World.drewN _) (Nat.add_assoc _ _ _))⟩))))
            (try simp only [Act.put, List.setIfInBounds_toArray, List.set_cons_zero, List.set_cons_succ])
            go_cut [66] (fun v66 wc => ∃ (kq : Nat) (x66_17 : Bool), v66 = .bool x66_17 ∧ Aside0 (barscanref14_Chars.j2 kq l0 x5_2 x6_1 x66_17 = some (r1, r2)) ∧ Aside0 (kq ≤ k2) ∧ Aside0 (Kd.R (Kd.int .i64) 3 wc w.heap.size (fun _ => True) u5 x5_2) ∧ Aside0 (Below w.heap.size w wc))
            case first =>
             have H := HC18.out
             clear HC18
             by_cases c19 : t299 = 0
             ·rw [if_pos c19] at H
              have c19b0 : (t299 == 0) = true := beq_iff_eq.mpr c19
              have c19b1 : (t299 != 0) = false := bne_eq_false_iff_eq.mpr c19
              clear c19
              (first | rw [c19b0] | (simp only [i64_w]; rw [c19b0]) | skip)
              have H' := Aside0.mk H
              clear H
              go_wp2
              repeat (go_quiet (fail); try go_wp2)
              go_meet
              case rel => exact ⟨_, (decide (x6_1 < (wrap64 ((l0.length : Int) - 1)))), (by first | rfl | (simp; done) | (simp [*]; done)), H', ⟨by have := HK1.out; have := HK2.out; first | omega | exact Nat.le_refl _⟩, ⟨by (with_reducible repeat (first | apply Kd.R_alloc | apply Kd.R_drewN | apply Kd.R_drew)); exact HO_5.out⟩, ⟨by repeat (first | (with_reducible first | exact HB.out | apply below_alloc | apply pw_below_drewN | apply below_drew1) | exact HB.out)⟩⟩
             ·rw [if_neg c19] at H
              have c19b0 : (t299 == 0) = false := beq_eq_false_iff_ne.mpr c19
              have c19b1 : (t299 != 0) = true := bne_iff_ne.mpr c19
              (first | rw [c19b0] | (simp only [i64_w]; rw [c19b0]) | skip)
              have H' := Aside0.mk H
              clear H
              go_wp2
              repeat (go_quiet (fail); try go_wp2)
              go_meet
              case rel => exact ⟨_, (false), (by first | rfl | (simp; done) | (simp [*]; done)), H', ⟨by have := HK1.out; have := HK2.out; first | omega | exact Nat.le_refl _⟩, ⟨by (with_reducible repeat (first | apply Kd.R_alloc | apply Kd.R_drewN | apply Kd.R_drew)); exact HO_5.out⟩, ⟨by repeat (first | (with_reducible first | exact HB.out | apply below_alloc | apply pw_below_drewN | apply below_drew1) | exact HB.out)⟩⟩
            case rest =>
             clear HC18
             obtain ⟨kq, x66_17, rfl, HA, HJ17, HO_5, HB⟩ := hcut
             cases kq with
             | zero => exact absurd HA.out (by simp [barscanref14_Chars.j2])
             | succ kj17 =>
              have H := HA.out
              clear HA
              simp only [barscanref14_Chars.j2] at H
              by_cases c20 : x66_17 = true
              ·subst c20
               have H1 : (if x5_2.length < 17592186044416 then ((some (x5_2 ++ [256] : List Int)).bind fun y302 => (if (y302.length : Int) > 4096 then (some (([] : List Int), 4)) else (barscanref14_Chars.l0 kj17 l0 y302 (wrap64 (x6_1 + 1))))) else (none)) = some (r1, r2) := by rw [if_pos rfl] at H; exact H
               clear H
               have H := H1
               clear H1
               by_cases c21 : x5_2.length < 17592186044416
               ·rw [if_pos c21] at H
                have LMc21 := Aside0.mk c21
                clear c21
                obtain ⟨y302, hy302⟩ : ∃ y_ : List Int, y_ = (x5_2 ++ [256]) := ⟨_, rfl⟩
                replace H : (if (y302.length : Int) > 4096 then (some (([] : List Int), 4)) else (barscanref14_Chars.l0 kj17 l0 y302 (wrap64 (x6_1 + 1)))) = some (r1, r2) := by first | (rw [hy302]; with_reducible exact H) | (have H2_ := (Option.bind_some _ _).symm.trans H; rw [hy302]; with_reducible exact H2_) | (have H2_ := (Option.bind_some _ _).symm.trans H; with_reducible exact H2_) | with_reducible exact H | (rw [hy302]; exact H) | exact H
                have Ny302 := Aside0.mk hy302
                clear hy302
                by_cases c22 : (y302.length : Int) > 4096
                ·rw [if_pos c22] at H
                 have c22b0 : decide (4096 < (y302.length : Int)) = true := decide_eq_true c22
                 have c22b1 : decide (4096 < y302.length) = true := decide_eq_true (by omega)
                 clear c22
                 simp only [Option.some.injEq, Prod.mk.injEq] at H
                 obtain ⟨rfl, rfl⟩ := H
                 go_wp2_with (first | ((with_reducible refine gate_builtin (b := .append) (xs := #[.tmp 67, .tmp 68]) rfl ?_); (try (refine gate_guard (by rfl) ?_; dsimp only)); at_builtin; refine Kd.R_append (Kd.int .i64) (w0 := w) w.heap.size rfl (.tmp 67) (.tmp 68) 37 3 (.int .i64 0) 8 rfl Tryz.underlying37 info3 rfl (by decide) (by omega) u5 x5_2 256 [.int .i64 256] (fun _ => True) (fun _ => False) rfl rfl ?aP (fun _ hk => hk.elim) ?aF ?aO ?aB ?aS ?aL ?_; (case aP => exact rfl); (case aB => exact (by repeat (first | (with_reducible first | exact HB.out | apply below_alloc | apply pw_below_drewN | apply below_drew1) | exact HB.out))); (case aF => exact (fun _ _ => trivial)); (case aO => exact (by (with_reducible repeat (first | apply Kd.R_alloc | apply Kd.R_drewN | apply Kd.R_drew)); exact HO_5.out)); (case aS => exact (below_size (by repeat (first | (with_reducible first | exact HB.out | apply below_alloc | apply pw_below_drewN | apply below_drew1) | exact HB.out)))); (case aL => have := LMc21.out; omega); intro v303 w23 ho hb hg hat; rw [← Ny302.out] at ho; have n0_ := Aside0.mk (hb); have n1_ := Aside0.mk (ho); clear HB; clear HO_5; have HB := n0_; have HO304 := n1_; clear n0_ n1_; clear ho hb hg hat; obtain ⟨Ao24, co24, eo24⟩ := Kd.R_slice HO304.out; subst eo24))
                 repeat (go_quiet (first | ((with_reducible refine gate_builtin (b := .append) (xs := #[.tmp 67, .tmp 68]) rfl ?_); (try (refine gate_guard (by rfl) ?_; dsimp only)); at_builtin; refine Kd.R_append (Kd.int .i64) (w0 := w) w.heap.size rfl (.tmp 67) (.tmp 68) 37 3 (.int .i64 0) 8 rfl Tryz.underlying37 info3 rfl (by decide) (by omega) u5 x5_2 256 [.int .i64 256] (fun _ => True) (fun _ => False) rfl rfl ?aP (fun _ hk => hk.elim) ?aF ?aO ?aB ?aS ?aL ?_; (case aP => exact rfl); (case aB => exact (by repeat (first | (with_reducible first | exact HB.out | apply below_alloc | apply pw_below_drewN | apply below_drew1) | exact HB.out))); (case aF => exact (fun _ _ => trivial)); (case aO => exact (by (with_reducible repeat (first | apply Kd.R_alloc | apply Kd.R_drewN | apply Kd.R_drew)); exact HO_5.out)); (case aS => exact (below_size (by repeat (first | (with_reducible first | exact HB.out | apply below_alloc | apply pw_below_drewN | apply below_drew1) | exact HB.out)))); (case aL => have := LMc21.out; omega); intro v303 w23 ho hb hg hat; rw [← Ny302.out] at ho; have n0_ := Aside0.mk (hb); have n1_ := Aside0.mk (ho); clear HB; clear HO_5; have HB := n0_; have HO304 := n1_; clear n0_ n1_; clear ho hb hg hat; obtain ⟨Ao24, co24, eo24⟩ := Kd.R_slice HO304.out; subst eo24)); try go_wp2_with (first | ((with_reducible refine gate_builtin (b := .append) (xs := #[.tmp 67, .tmp 68]) rfl ?_); (try (refine gate_guard (by rfl) ?_; dsimp only)); at_builtin; refine Kd.R_append (Kd.int .i64) (w0 := w) w.heap.size rfl (.tmp 67) (.tmp 68) 37 3 (.int .i64 0) 8 rfl Tryz.underlying37 info3 rfl (by decide) (by omega) u5 x5_2 256 [.int .i64 256] (fun _ => True) (fun _ => False) rfl rfl ?aP (fun _ hk => hk.elim) ?aF ?aO ?aB ?aS ?aL ?_; (case aP => exact rfl); (case aB => exact (by repeat (first | (with_reducible first | exact HB.out | apply below_alloc | apply pw_below_drewN | apply below_drew1) | exact HB.out))); (case aF => exact (fun _ _ => trivial)); (case aO => exact (by (with_reducible repeat (first | apply Kd.R_alloc | apply Kd.R_drewN | apply Kd.R_drew)); exact HO_5.out)); (case aS => exact (below_size (by repeat (first | (with_reducible first | exact HB.out | apply below_alloc | apply pw_below_drewN | apply below_drew1) | exact HB.out)))); (case aL => have := LMc21.out; omega); intro v303 w23 ho hb hg hat; rw [← Ny302.out] at ho; have n0_ := Aside0.mk (hb); have n1_ := Aside0.mk (ho); clear HB; clear HO_5; have HB := n0_; have HO304 := n1_; clear n0_ n1_; clear ho hb hg hat; obtain ⟨Ao24, co24, eo24⟩ := Kd.R_slice HO304.out; subst eo24)))
                 go_ret2
                 exact ⟨_, by first | rfl | (simp [errW_none, errW_some] <;> rfl) | (simp [*, errW_none, errW_some] <;> rfl), by first | exact Kd.R_nil _ _ _ _ _ | exact Kd.N_nil _ _ _ _ _ | exact Kd.V_nil _ _ _ _ _ | exact Kd.Q_nil _ _ _ _ _ | exact Kd.S_nil _ _ _ _ _, by repeat (first | (with_reducible first | exact HB.out | apply below_alloc | apply pw_below_drewN | apply below_drew1) | exact HB.out)⟩
                ·rw [if_neg c22] at H
                 have c22b0 : decide (4096 < (y302.length : Int)) = false := decide_eq_false c22
                 have c22b1 : decide (4096 < y302.length) = false := decide_eq_false (by omega)
                 clear c22
                 have H' := Aside0.mk H
                 clear H
                 go_wp2_with (first | ((with_reducible refine gate_builtin (b := .append) (xs := #[.tmp 67, .tmp 68]) rfl ?_); (try (refine gate_guard (by rfl) ?_; dsimp only)); at_builtin; refine Kd.R_append (Kd.int .i64) (w0 := w) w.heap.size rfl (.tmp 67) (.tmp 68) 37 3 (.int .i64 0) 8 rfl Tryz.underlying37 info3 rfl (by decide) (by omega) u5 x5_2 256 [.int .i64 256] (fun _ => True) (fun _ => False) rfl rfl ?aP (fun _ hk => hk.elim) ?aF ?aO ?aB ?aS ?aL ?_; (case aP => exact rfl); (case aB => exact (by repeat (first | (with_reducible first | exact HB.out | apply below_alloc | apply pw_below_drewN | apply below_drew1) | exact HB.out))); (case aF => exact (fun _ _ => trivial)); (case aO => exact (by (with_reducible repeat (first | apply Kd.R_alloc | apply Kd.R_drewN | apply Kd.R_drew)); exact HO_5.out)); (case aS => exact (below_size (by repeat (first | (with_reducible first | exact HB.out | apply below_alloc | apply pw_below_drewN | apply below_drew1) | exact HB.out)))); (case aL => have := LMc21.out; omega); intro v303 w25 ho hb hg hat; rw [← Ny302.out] at ho; have n0_ := Aside0.mk (hb); have n1_ := Aside0.mk (ho); clear HB; clear HO_5; have HB := n0_; have HO304 := n1_; clear n0_ n1_; clear ho hb hg hat; obtain ⟨Ao26, co26, eo26⟩ := Kd.R_slice HO304.out; subst eo26))
                 repeat (go_quiet (first | ((with_reducible refine gate_builtin (b := .append) (xs := #[.tmp 67, .tmp 68]) rfl ?_); (try (refine gate_guard (by rfl) ?_; dsimp only)); at_builtin; refine Kd.R_append (Kd.int .i64) (w0 := w) w.heap.size rfl (.tmp 67) (.tmp 68) 37 3 (.int .i64 0) 8 rfl Tryz.underlying37 info3 rfl (by decide) (by omega) u5 x5_2 256 [.int .i64 256] (fun _ => True) (fun _ => False) rfl rfl ?aP (fun _ hk => hk.elim) ?aF ?aO ?aB ?aS ?aL ?_; (case aP => exact rfl); (case aB => exact (by repeat (first | (with_reducible first | exact HB.out | apply below_alloc | apply pw_below_drewN | apply below_drew1) | exact HB.out))); (case aF => exact (fun _ _ => trivial)); (case aO => exact (by (with_reducible repeat (first | apply Kd.R_alloc | apply Kd.R_drewN | apply Kd.R_drew)); exact HO_5.out)); (case aS => exact (below_size (by repeat (first | (with_reducible first | exact HB.out | apply below_alloc | apply pw_below_drewN | apply below_drew1) | exact HB.out)))); (case aL => have := LMc21.out; omega); intro v303 w25 ho hb hg hat; rw [← Ny302.out] at ho; have n0_ := Aside0.mk (hb); have n1_ := Aside0.mk (ho); clear HB; clear HO_5; have HB := n0_; have HO304 := n1_; clear n0_ n1_; clear ho hb hg hat; obtain ⟨Ao26, co26, eo26⟩ := Kd.R_slice HO304.out; subst eo26)); try go_wp2_with (first | ((with_reducible refine gate_builtin (b := .append) (xs := #[.tmp 67, .tmp 68]) rfl ?_); (try (refine gate_guard (by rfl) ?_; dsimp only)); at_builtin; refine Kd.R_append (Kd.int .i64) (w0 := w) w.heap.size rfl (.tmp 67) (.tmp 68) 37 3 (.int .i64 0) 8 rfl Tryz.underlying37 info3 rfl (by decide) (by omega) u5 x5_2 256 [.int .i64 256] (fun _ => True) (fun _ => False) rfl rfl ?aP (fun _ hk => hk.elim) ?aF ?aO ?aB ?aS ?aL ?_; (case aP => exact rfl); (case aB => exact (by repeat (first | (with_reducible first | exact HB.out | apply below_alloc | apply pw_below_drewN | apply below_drew1) | exact HB.out))); (case aF => exact (fun _ _ => trivial)); (case aO => exact (by (with_reducible repeat (first | apply Kd.R_alloc | apply Kd.R_drewN | apply Kd.R_drew)); exact HO_5.out)); (case aS => exact (below_size (by repeat (first | (with_reducible first | exact HB.out | apply below_alloc | apply pw_below_drewN | apply below_drew1) | exact HB.out)))); (case aL => have := LMc21.out; omega); intro v303 w25 ho hb hg hat; rw [← Ny302.out] at ho; have n0_ := Aside0.mk (hb); have n1_ := Aside0.mk (ho); clear HB; clear HO_5; have HB := n0_; have HO304 := n1_; clear n0_ n1_; clear ho hb hg hat; obtain ⟨Ao26, co26, eo26⟩ := Kd.R_slice HO304.out; subst eo26)))
                 go_roundg kj17
                 case measure => have := HK1.out; have := HK2.out; have := HJ17.out; omega
                 case rel => exact ⟨(y302), (wrap64 (x6_1 + 1)), (by first | rfl | (simp; done) | (simp [*]; done)), H', ⟨by have := HK1.out; have := HK2.out; have := HJ17.out; omega⟩, ⟨by (with_reducible repeat (first | apply Kd.R_alloc | apply Kd.R_drewN | apply Kd.R_drew)); exact HO304.out⟩, ⟨by repeat (first | (with_reducible first | exact HB.out | apply below_alloc | apply pw_below_drewN | apply below_drew1) | exact HB.out)⟩⟩
               ·rw [if_neg c21] at H
                exact absurd H (by simp)
              ·replace c20 := Bool.eq_false_iff.mpr c20
               subst c20
               have H1 : (if (x5_2.length : Int) > 4096 then (some (([] : List Int), 4)) else (barscanref14_Chars.l0 kj17 l0 x5_2 (wrap64 (x6_1 + 1)))) = some (r1, r2) := by rw [if_neg (show ¬ (false = true) by decide)] at H; exact H
               clear H
               have H := H1
               clear H1
               by_cases c27 : (x5_2.length : Int) > 4096
               ·rw [if_pos c27] at H
                have c27b0 : decide (4096 < (x5_2.length : Int)) = true := decide_eq_true c27
                have c27b1 : decide (4096 < x5_2.length) = true := decide_eq_true (by omega)
                clear c27
                simp only [Option.some.injEq, Prod.mk.injEq] at H
                obtain ⟨rfl, rfl⟩ := H
                obtain ⟨Ao28, co28, eo28⟩ := Kd.R_slice HO_5.out
                subst eo28
                go_wp2
                repeat (go_quiet (fail); try go_wp2)
                go_ret2
                exact ⟨_, by first | rfl | (simp [errW_none, errW_some] <;> rfl) | (simp [*, errW_none, errW_some] <;> rfl), by first | exact Kd.R_nil _ _ _ _ _ | exact Kd.N_nil _ _ _ _ _ | exact Kd.V_nil _ _ _ _ _ | exact Kd.Q_nil _ _ _ _ _ | exact Kd.S_nil _ _ _ _ _, by repeat (first | (with_reducible first | exact HB.out | apply below_alloc | apply pw_below_drewN | apply below_drew1) | exact HB.out)⟩
               ·rw [if_neg c27] at H
                have c27b0 : decide (4096 < (x5_2.length : Int)) = false := decide_eq_false c27
                have c27b1 : decide (4096 < x5_2.length) = false := decide_eq_false (by omega)
                clear c27
                have H' := Aside0.mk H
                clear H
                obtain ⟨Ao29, co29, eo29⟩ := Kd.R_slice HO_5.out
                subst eo29
                go_wp2
                repeat (go_quiet (fail); try go_wp2)
                go_roundg kj17
                case measure => have := HK1.out; have := HK2.out; have := HJ17.out; omega
                case rel => exact ⟨(x5_2), (wrap64 (x6_1 + 1)), (by first | rfl | (simp; done) | (simp [*]; done)), H', ⟨by have := HK1.out; have := HK2.out; have := HJ17.out; omega⟩, ⟨by (with_reducible repeat (first | apply Kd.R_alloc | apply Kd.R_drewN | apply Kd.R_drew)); exact HO_5.out⟩, ⟨by repeat (first | (with_reducible first | exact HB.out | apply below_alloc | apply pw_below_drewN | apply below_drew1) | exact HB.out)⟩⟩
           ·rw [if_neg c16] at H
            exact absurd H (by simp)
          ·rw [if_neg c15] at H
           exact absurd H (by simp)
      ·rw [if_neg c9] at H
       exact absurd H (by simp)
     ·rw [if_neg c8] at H
      exact absurd H (by simp)
    ·rw [if_neg c7] at H
     have c7b0 : decide (x6_1 < (l0.length : Int)) = false := decide_eq_false c7
     clear c7
     simp only [Option.some.injEq, Prod.mk.injEq] at H
     obtain ⟨rfl, rfl⟩ := H
     go_wp2
     repeat (go_quiet (fail); try go_wp2)
     go_ret2
     exact ⟨_, by first | rfl | (simp [errW_none, errW_some] <;> rfl) | (simp [*, errW_none, errW_some] <;> rfl), by (with_reducible repeat (first | apply Kd.R_alloc | apply Kd.R_drewN | apply Kd.R_drew)); exact HO_5.out, by repeat (first | (with_reducible first | exact HB.out | apply below_alloc | apply pw_below_drewN | apply below_drew1) | exact HB.out)⟩
 ·rw [if_neg c3] at H
  have c3b0 : (t289 == 0) = false := beq_eq_false_iff_ne.mpr c3
  have c3b1 : (t289 != 0) = true := bne_iff_ne.mpr c3
  simp only [Option.some.injEq, Prod.mk.injEq] at H
  obtain ⟨rfl, rfl⟩ := H
  go_enter Tryz.func18, Tryz.ntmps18
  go_wp2_with (first | (go_at_call 35; (with_reducible refine (barscanref14_all.calls k _ _ l0 t289 _ ?side1 ?side2 A2.out).mono ?_); (case side1 => repeat (first | exact HR0.out | (with_reducible refine Kd.C_alloc ?_ _) | (with_reducible refine Kd.C_drewN ?_ _) | (with_reducible refine Kd.C_drew ?_))); (case side2 => exact HC0.out); rintro e w30 ⟨rfl, hb⟩; have n0_ := Aside0.mk (below_step (by repeat (first | (with_reducible first | exact HB.out | apply below_alloc | apply pw_below_drewN | apply below_drew1) | exact HB.out)) hb); clear HB; have HB := n0_; clear n0_; (try clear hb); (try clear hb2); (try clear hk); (try clear hi)))
  repeat (go_quiet (first | (go_at_call 35; (with_reducible refine (barscanref14_all.calls k _ _ l0 t289 _ ?side1 ?side2 A2.out).mono ?_); (case side1 => repeat (first | exact HR0.out | (with_reducible refine Kd.C_alloc ?_ _) | (with_reducible refine Kd.C_drewN ?_ _) | (with_reducible refine Kd.C_drew ?_))); (case side2 => exact HC0.out); rintro e w30 ⟨rfl, hb⟩; have n0_ := Aside0.mk (below_step (by repeat (first | (with_reducible first | exact HB.out | apply below_alloc | apply pw_below_drewN | apply below_drew1) | exact HB.out)) hb); clear HB; have HB := n0_; clear n0_; (try clear hb); (try clear hb2); (try clear hk); (try clear hi))); try go_wp2_with (first | (go_at_call 35; (with_reducible refine (barscanref14_all.calls k _ _ l0 t289 _ ?side1 ?side2 A2.out).mono ?_); (case side1 => repeat (first | exact HR0.out | (with_reducible refine Kd.C_alloc ?_ _) | (with_reducible refine Kd.C_drewN ?_ _) | (with_reducible refine Kd.C_drew ?_))); (case side2 => exact HC0.out); rintro e w30 ⟨rfl, hb⟩; have n0_ := Aside0.mk (below_step (by repeat (first | (with_reducible first | exact HB.out | apply below_alloc | apply pw_below_drewN | apply below_drew1) | exact HB.out)) hb); clear HB; have HB := n0_; clear n0_; (try clear hb); (try clear hb2); (try clear hk); (try clear hi))))
  go_ret2
  exact ⟨_, by first | rfl | (simp [errW_none, errW_some] <;> rfl) | (simp [*, errW_none, errW_some] <;> rfl), by first | exact Kd.R_nil _ _ _ _ _ | exact Kd.N_nil _ _ _ _ _ | exact Kd.V_nil _ _ _ _ _ | exact Kd.Q_nil _ _ _ _ _ | exact Kd.S_nil _ _ _ _ _, by repeat (first | (with_reducible first | exact HB.out | apply below_alloc | apply pw_below_drewN | apply below_drew1) | exact HB.out)⟩

end Go.Proofs.YtghlbdemlmbijaaGreatDoor.Q

namespace Go.Proofs.YtghlbdemlmbijaaGreatDoor.Q
open Go.RowKit Go.Proofs.YtghlbdemlmbijaaGreatDoorW.PrintWords Go.Proofs.YtghlbdemlmbijaaGreatDoorW.PrintLast Go.Proofs.YtghlbdemlmbijaaGreatDoorW.PrintMore

set_option linter.unusedVariables false
set_option linter.unusedSimpArgs false

/-! ### barscanref14_Equal: function 37 -/
def barscanref14_Equal.l0 : Nat → List Int → List Int → Int → Option (Bool)
 | 0, _, _, _ => none
 | k + 1, x0, x1, x5 => if x5 < (x0.length : Int) then (if 0 ≤ x5 then (if x5 < (x1.length : Int) then (if (rd x0 x5) = (rd x1 x5) then (barscanref14_Equal.l0 k x0 x1 (wrap64 (x5 + 1))) else (some false)) else (none)) else (none)) else (some true)
def barscanref14_Equal.f (k : Nat) (l0 : List Int) (l1 : List Int) : Option (Bool) := if (l0.length : Int) = (l1.length : Int) then (barscanref14_Equal.l0 k l0 l1 0) else (some false)
theorem barscanref14_Equal.mono_l : ∀ k, (∀ y0 y1 y2, LeO (barscanref14_Equal.l0 k y0 y1 y2) (barscanref14_Equal.l0 (k + 1) y0 y1 y2))
 | 0 => fun _ _ _ r h => by simp [barscanref14_Equal.l0] at h
 | k + 1 => by
  have ih0 := barscanref14_Equal.mono_l k
  ·intro y0 y1 y2
   unfold barscanref14_Equal.l0
   repeat' first
   | (with_reducible exact ih0 _ _ _)
   | (with_reducible exact LeO.refl _)
   | (with_reducible exact LeO.none _)
   | (with_reducible refine LeO.ite ?_ ?_)
   | (with_reducible refine LeO.bind ?_ (fun _ => ?_))
   | exact ih0 _ _ _
   | exact LeO.none _
   | refine LeO.ite ?_ ?_
   | refine LeO.bind ?_ (fun _ => ?_)
theorem barscanref14_Equal.mono : ∀ a0 a1 k, LeO (barscanref14_Equal.f k a0 a1) (barscanref14_Equal.f (k + 1) a0 a1) := by
 intro a0 a1 k
 have ih0 := barscanref14_Equal.mono_l k
 unfold barscanref14_Equal.f
 repeat' first
   | (with_reducible exact ih0 _ _ _)
   | (with_reducible exact LeO.refl _)
   | (with_reducible exact LeO.none _)
   | (with_reducible refine LeO.ite ?_ ?_)
   | (with_reducible refine LeO.bind ?_ (fun _ => ?_))
   | exact ih0 _ _ _
   | exact LeO.none _
   | refine LeO.ite ?_ ?_
   | refine LeO.bind ?_ (fun _ => ?_)
set_option maxHeartbeats 8000000 in
set_option maxRecDepth 100000 in
theorem barscanref14_Equal.calls (k : Nat) (A0 : Option Addr) (c0 : Nat) (l0 : List Int) (A1 : Option Addr) (c1 : Nat) (l1 : List Int) (r : Bool) (w : World) (hr0 : Kd.C (Kd.int .i64) w A0 l0.length l0) (hc0 : l0.length ≤ c0) (hr1 : Kd.C (Kd.int .i64) w A1 l1.length l1) (hc1 : l1.length ≤ c1) (h : barscanref14_Equal.f k l0 l1 = some r) :
  Calls Tryz.prog 37 #[.slice A0 l0.length c0, .slice A1 l1.length c1] w fun e w' => e = .returned (.bool r) ∧ Drawn0 w w' := by
 have HR0 := Aside0.mk hr0
 have HC0 := Aside0.mk hc0
 clear hr0 hc0
 have HR1 := Aside0.mk hr1
 have HC1 := Aside0.mk hc1
 clear hr1 hc1
 have H : (if (l0.length : Int) = (l1.length : Int) then (barscanref14_Equal.l0 k l0 l1 0) else (some false)) = some r := h
 clear h
 by_cases c3 : (l0.length : Int) = (l1.length : Int)
 ·rw [if_pos c3] at H
  have c3b0 : ((l0.length : Int) == (l1.length : Int)) = true := beq_iff_eq.mpr c3
  have c3b1 : ((l0.length : Int) != (l1.length : Int)) = false := bne_eq_false_iff_eq.mpr c3
  have c3b2 : (l0.length == l1.length) = true := by first | simpa using c3 | (simp at c3 ⊢; omega)
  clear c3
  have H' := Aside0.mk H
  clear H
  go_enter Tryz.func37, Tryz.ntmps37
  go_wp2
  repeat (go_quiet (fail); try go_wp2)
  go_loopg [5] k (fun kq v5 w' => ∃ (x5_1 : Int), v5 = .int .i64 x5_1 ∧ Aside0 (barscanref14_Equal.l0 kq l0 l1 x5_1 = some r) ∧ Aside0 (kq ≤ k) ∧ Drawn0 w w')
  case atStart => exact ⟨(0), (by first | rfl | (simp; done) | (simp [*]; done)), H', ⟨Nat.le_refl _⟩, by repeat (first | exact Drawn0.refl _ | apply Drawn0.step)⟩
  case round =>
   clear H'
   obtain ⟨x5_1, rfl, HA, HK1, ⟨m1, rfl⟩⟩ := hrel
   cases gk with
   | zero => exact absurd HA.out (by simp [barscanref14_Equal.l0])
   | succ k1 =>
    have H := HA.out
    clear HA
    simp only [barscanref14_Equal.l0] at H
    by_cases c4 : x5_1 < (l0.length : Int)
    ·rw [if_pos c4] at H
     have c4b0 : decide (x5_1 < (l0.length : Int)) = true := decide_eq_true c4
     clear c4
     by_cases c5 : 0 ≤ x5_1
     ·rw [if_pos c5] at H
      have c5b0 : decide (0 ≤ x5_1) = true := decide_eq_true c5
      clear c5
      by_cases c6 : x5_1 < (l1.length : Int)
      ·rw [if_pos c6] at H
       have c6b0 : decide (x5_1 < (l1.length : Int)) = true := decide_eq_true c6
       clear c6
       by_cases c7 : (rd l0 x5_1) = (rd l1 x5_1)
       ·rw [if_pos c7] at H
        have c7b0 : ((rd l0 x5_1) == (rd l1 x5_1)) = true := beq_iff_eq.mpr c7
        have c7b1 : ((rd l0 x5_1) != (rd l1 x5_1)) = false := bne_eq_false_iff_eq.mpr c7
        clear c7
        have H' := Aside0.mk H
        clear H
        have p305 : 0 ≤ (x5_1 : Int) := of_decide_eq_true (by first | (with_reducible assumption) | assumption)
        have q305 : x5_1 < (l0.length : Int) := of_decide_eq_true (by first | (with_reducible assumption) | assumption)
        obtain ⟨ad305, e305, hx305_0⟩ := Kd.at_int HR0.out x5_1 p305 q305
        cases e305
        replace p305 := eq_true p305
        replace q305 := eq_true q305
        have p306 : 0 ≤ (x5_1 : Int) := of_decide_eq_true (by first | (with_reducible assumption) | assumption)
        have q306 : x5_1 < (l1.length : Int) := of_decide_eq_true (by first | (with_reducible assumption) | assumption)
        obtain ⟨ad306, e306, hx306_0⟩ := Kd.at_int HR1.out x5_1 p306 q306
        cases e306
        replace p306 := eq_true p306
        replace q306 := eq_true q306
        go_wp2
        repeat (go_quiet (fail); try go_wp2)
        go_roundg k1
        case measure => have := HK1.out; omega
        case rel => exact ⟨(wrap64 (x5_1 + 1)), (by first | rfl | (simp; done) | (simp [*]; done)), H', ⟨by have := HK1.out; omega⟩, by repeat (first | exact Drawn0.refl _ | apply Drawn0.step)⟩
       ·rw [if_neg c7] at H
        have c7b0 : ((rd l0 x5_1) == (rd l1 x5_1)) = false := beq_eq_false_iff_ne.mpr c7
        have c7b1 : ((rd l0 x5_1) != (rd l1 x5_1)) = true := bne_iff_ne.mpr c7
        obtain rfl := Option.some.inj H
        have p305 : 0 ≤ (x5_1 : Int) := of_decide_eq_true (by first | (with_reducible assumption) | assumption)
        have q305 : x5_1 < (l0.length : Int) := of_decide_eq_true (by first | (with_reducible assumption) | assumption)
        obtain ⟨ad305, e305, hx305_0⟩ := Kd.at_int HR0.out x5_1 p305 q305
        cases e305
        replace p305 := eq_true p305
        replace q305 := eq_true q305
        have p306 : 0 ≤ (x5_1 : Int) := of_decide_eq_true (by first | (with_reducible assumption) | assumption)
        have q306 : x5_1 < (l1.length : Int) := of_decide_eq_true (by first | (with_reducible assumption) | assumption)
        obtain ⟨ad306, e306, hx306_0⟩ := Kd.at_int HR1.out x5_1 p306 q306
        cases e306
        replace p306 := eq_true p306
        replace q306 := eq_true q306
        go_wp2
        repeat (go_quiet (fail); try go_wp2)
        go_ret
        exact ⟨by first | rfl | (simp; done) | (simp [*]; done), by repeat (first | exact Drawn0.refl _ | apply Drawn0.step)⟩
      ·rw [if_neg c6] at H
       exact absurd H (by simp)
     ·rw [if_neg c5] at H
      exact absurd H (by simp)
    ·rw [if_neg c4] at H
     have c4b0 : decide (x5_1 < (l0.length : Int)) = false := decide_eq_false c4
     clear c4
     obtain rfl := Option.some.inj H
     go_wp2
     repeat (go_quiet (fail); try go_wp2)
     go_ret
     exact ⟨by first | rfl | (simp; done) | (simp [*]; done), by repeat (first | exact Drawn0.refl _ | apply Drawn0.step)⟩
 ·rw [if_neg c3] at H
  have c3b0 : ((l0.length : Int) == (l1.length : Int)) = false := beq_eq_false_iff_ne.mpr c3
  have c3b1 : ((l0.length : Int) != (l1.length : Int)) = true := bne_iff_ne.mpr c3
  have c3b2 : (l0.length == l1.length) = false := by first | simpa using c3 | (simp at c3 ⊢; omega)
  obtain rfl := Option.some.inj H
  go_enter Tryz.func37, Tryz.ntmps37
  go_wp2
  repeat (go_quiet (fail); try go_wp2)
  go_ret
  exact ⟨by first | rfl | (simp; done) | (simp [*]; done), by repeat (first | exact Drawn0.refl _ | apply Drawn0.step)⟩

end Go.Proofs.YtghlbdemlmbijaaGreatDoor.Q

/- Lists of elements: all verified, written as text, written as characters: both sides are one function. -/
namespace Go.Proofs.YtghlbdemlmbijaaGreatDoor.Q
open Go.RowKit Go.Proofs.YtghlbdemlmbijaaGreatDoorW.PrintWords Go.Proofs.YtghlbdemlmbijaaGreatDoorW.PrintLast Go.Proofs.YtghlbdemlmbijaaGreatDoorW.PrintMore
set_option linter.unusedVariables false
set_option linter.unusedSimpArgs false
abbrev El := S23
/-- Every text of the list is short enough for the model. -/
def SzL (l : List El) : Prop := l.length < 1099511627776 ∧ ∀ i : Nat, (rd_T23 l i).f0.size < 1073741824 ∧ (rd_T23 l i).f1.size < 1073741824
theorem ver_ev (a d : ByteArray) (ha : a.size < 1073741824) (hs : d.size < 1073741824) : Ev (fun k => gs1_Verify.f k a d) (verS a d) := ⟨d.size + 21, fun k hk => ver_at a d (by omega) (by omega) k (by omega)⟩
theorem rver_ev (a d : ByteArray) (ha : a.size < 1073741824) (hs : d.size < 1073741824) : Ev (fun k => barscanref14_Verify.f k a d) (verS a d) := ⟨a.size + d.size + d.size + 101, fun k hk => ref_ver_at a d (by omega) (by omega) k (by omega)⟩
def allR (l : List El) : Nat → Nat → Int
  | 0, _ => 0
  | n + 1, i => if verS (rd_T23 l i).f0 (rd_T23 l i).f1 = 0 then allR l n (i + 1) else verS (rd_T23 l i).f0 (rd_T23 l i).f1
def allS (l : List El) : Int := if l.length = 0 then 5 else allR l l.length 0
theorem gall_l (l : List El) (hz : SzL l) (n : Nat) : ∀ i : Nat, i + n = l.length → Ev (fun k => gs1_verifyAll.l0 k l (l.length : Int) i) (allR l n i) := by
  induction n with
  | zero =>
    intro i h
    refine Ev.succ ?_
    simp only [gs1_verifyAll.l0]
    exact Ev.neg (by omega) (Ev.const rfl)
  | succ n ih =>
    intro i h
    have hz1 := hz.1
    have hz2 := hz.2 i
    refine Ev.succ ?_
    simp only [gs1_verifyAll.l0]
    refine Ev.pos (by omega) (Ev.pos (by omega) (Ev.pos (by omega) (Ev.bind (ver_ev _ _ hz2.1 hz2.2) ?_)))
    show Ev _ (if verS (rd_T23 l i).f0 (rd_T23 l i).f1 = 0 then allR l n (i + 1) else verS (rd_T23 l i).f0 (rd_T23 l i).f1)
    by_cases hv : verS (rd_T23 l i).f0 (rd_T23 l i).f1 = 0
    · rw [if_pos hv]
      refine Ev.pos hv ?_
      rw [wrap_up i (by omega)]
      exact ih (i + 1) (by omega)
    · rw [if_neg hv]
      exact Ev.neg hv (Ev.const rfl)
theorem gall_ev (l : List El) (hz : SzL l) : Ev (fun k => gs1_verifyAll.f k l) (allS l) := by
  unfold gs1_verifyAll.f allS
  by_cases h : l.length = 0
  · rw [if_pos h]
    exact Ev.pos (by omega) (Ev.const rfl)
  · rw [if_neg h]
    exact Ev.neg (by omega) (gall_l l hz l.length 0 (by omega))
theorem rall_l (l : List El) (hz : SzL l) (n : Nat) : ∀ i : Nat, i + n = l.length → Ev (fun k => barscanref14_all.l0 k l i) (allR l n i) := by
  induction n with
  | zero =>
    intro i h
    refine Ev.succ ?_
    simp only [barscanref14_all.l0]
    exact Ev.neg (by omega) (Ev.const rfl)
  | succ n ih =>
    intro i h
    have hz1 := hz.1
    have hz2 := hz.2 i
    refine Ev.succ ?_
    simp only [barscanref14_all.l0]
    refine Ev.pos (by omega) (Ev.pos (by omega) (Ev.bind (rver_ev _ _ hz2.1 hz2.2) ?_))
    show Ev _ (if verS (rd_T23 l i).f0 (rd_T23 l i).f1 = 0 then allR l n (i + 1) else verS (rd_T23 l i).f0 (rd_T23 l i).f1)
    by_cases hv : verS (rd_T23 l i).f0 (rd_T23 l i).f1 = 0
    · rw [if_pos hv]
      refine Ev.pos hv ?_
      rw [wrap_up i (by omega)]
      exact ih (i + 1) (by omega)
    · rw [if_neg hv]
      exact Ev.neg hv (Ev.const rfl)
theorem rall_ev (l : List El) (hz : SzL l) : Ev (fun k => barscanref14_all.f k l) (allS l) := by
  unfold barscanref14_all.f allS
  by_cases h : l.length = 0
  · rw [if_pos h]
    exact Ev.pos (by omega) (Ev.const rfl)
  · rw [if_neg h]
    exact Ev.neg (by omega) (rall_l l hz l.length 0 (by omega))
/-! ### Characters -/
def fixE (x : El) : Int := (conv (tableS (bs x.f0))).1
theorem fixE_fixedS (x : El) : fixE x = (fixedS (bs x.f0)).1 := by
  unfold fixE fixedS
  have h := tableS_form (bs x.f0)
  simp only [List.mem_cons, List.not_mem_nil, or_false] at h
  rcases h with h | h | h | h | h | h | h | h | h | h | h | h | h <;> rw [h] <;> rfl
def chR (l : List El) : Nat → Nat → List Int → List Int × Int
  | 0, _, out => (out, 0)
  | n + 1, i, out => if ((step l out i (fixE (rd_T23 l i))).length : Int) > 4096 then ([], 4) else chR l n (i + 1) (step l out i (fixE (rd_T23 l i)))
def chS (l : List El) : List Int × Int := if allS l = 0 then chR l l.length 0 [256] else ([], allS l)
theorem gch_l (l : List El) (hz : SzL l) (n : Nat) : ∀ (i : Nat) (out : List Int), i + n = l.length → out.length ≤ 4096 → Ev (fun k => gs1_Chars.l0 k l out i) (chR l n i out) := by
  induction n with
  | zero =>
    intro i out h ho
    refine Ev.succ ?_
    simp only [gs1_Chars.l0]
    exact Ev.neg (by omega) (Ev.const rfl)
  | succ n ih =>
    intro i out h ho
    have hz1 := hz.1
    have hz2 := hz.2 i
    refine Ev.succ ?_
    simp only [gs1_Chars.l0]
    refine Ev.pos (by omega) (Ev.pos ⟨by omega, by omega, by omega, by omega⟩ (Ev.bind (Ev.const (form_at _ (by omega))) ?_))
    show Ev _ (if ((step l out i (fixE (rd_T23 l i))).length : Int) > 4096 then ([], 4) else chR l n (i + 1) (step l out i (fixE (rd_T23 l i))))
    by_cases hv : ((step l out i (fixE (rd_T23 l i))).length : Int) > 4096
    · rw [if_pos hv]
      exact Ev.pos hv (Ev.const rfl)
    · rw [if_neg hv]
      refine Ev.neg hv ?_
      rw [wrap_up i (by omega)]
      exact ih (i + 1) (step l out i (fixE (rd_T23 l i))) (by omega) (by omega)
theorem gch_ev (l : List El) (hz : SzL l) : Ev (fun k => gs1_Chars.f k l) (chS l) := by
  unfold gs1_Chars.f chS
  refine Ev.bind (gall_ev l hz) ?_
  by_cases h : allS l = 0
  · rw [if_pos h]
    exact Ev.pos h (gch_l l hz l.length 0 [256] (by omega) (by simp))
  · rw [if_neg h]
    exact Ev.neg h (Ev.const rfl)
theorem rch_in (l : List El) (out : List Int) (i : Int) (s : ByteArray) (hs : s.size < 4294967296) (ho : out.length ≤ 4096) (r : List Int × Int)
    (hc : Ev (fun k => (if 0 ≤ i then (if i < (l.length : Int) then ((barscanref14_Fixed.f k ((rd_T23 l i).f0)).bind fun bt299 => (if bt299.1 = 0 then (barscanref14_Chars.j2 k l (out ++ ints s) i (decide (i < (wrap64 ((l.length : Int) - 1))))) else (barscanref14_Chars.j2 k l (out ++ ints s) i false))) else (none)) else (none))) r) (n : Nat) :
    ∀ j : Nat, j + n = s.size → Ev (fun k => barscanref14_Chars.l1 k l (out ++ (ints s).take j) i s j) r := by
  induction n with
  | zero =>
    intro j h
    refine Ev.succ ?_
    simp only [barscanref14_Chars.l1]
    refine Ev.neg (by omega) ?_
    rw [List.take_of_length_le (by rw [ints_len]; omega)]
    exact hc
  | succ n ih =>
    intro j h
    refine Ev.succ ?_
    simp only [barscanref14_Chars.l1]
    have hlt : j < (bs s).length := by rw [bs_len]; omega
    refine Ev.pos (by omega) (Ev.pos (by omega) (Ev.pos (by simp only [List.length_append, List.length_take, ints_len]; omega) ?_))
    have e : (out ++ (ints s).take j) ++ [wrap64 (bt s (j : Int))] = out ++ (ints s).take (j + 1) := by
      rw [ints_take s j (by omega), List.append_assoc, bt_nat s j hlt, wrap_id _ (by omega) (by have := (bs s)[j].toNat_lt; omega)]
      rw [List.getD_eq_getElem?_getD, List.getElem?_eq_getElem hlt]
      rfl
    rw [e, wrap_up j (by omega)]
    exact ih (j + 1) (by omega)
theorem rch_l (l : List El) (hz : SzL l) (n : Nat) : ∀ (i : Nat) (out : List Int), i + n = l.length → out.length ≤ 4096 → Ev (fun k => barscanref14_Chars.l0 k l out i) (chR l n i out) := by
  induction n with
  | zero =>
    intro i out h ho
    refine Ev.succ ?_
    simp only [barscanref14_Chars.l0]
    exact Ev.neg (by omega) (Ev.const rfl)
  | succ n ih =>
    intro i out h ho
    have hz1 := hz.1
    have hz2 := hz.2 i
    have hz3 : (rd_T23 l i).f0.size < 1073741824 ∧ (rd_T23 l i).f1.size < 1073741824 := hz2
    refine Ev.succ ?_
    simp only [barscanref14_Chars.l0]
    refine Ev.pos (by omega) (Ev.pos (by omega) (Ev.pos (by omega) ?_))
    have main : Ev (fun k => barscanref14_Chars.l1 k l (out ++ (ints ((rd_T23 l i).f0 ++ (rd_T23 l i).f1)).take 0) i ((rd_T23 l i).f0 ++ (rd_T23 l i).f1) ((0 : Nat) : Int)) (chR l (n + 1) i out) := by
      refine rch_in l out i _ (by simp only [ByteArray.size_append]; omega) ho _ ?_ ((rd_T23 l i).f0 ++ (rd_T23 l i).f1).size 0 (by omega)
      refine Ev.pos (by omega) (Ev.pos (by omega) (Ev.bind ⟨(rd_T23 l i).f0.size + 20, fun k hk => ref_fixed_ev _ (by omega) k hk⟩ ?_))
      rw [← fixE_fixedS]
      have hlen : (out ++ ints ((rd_T23 l i).f0 ++ (rd_T23 l i).f1)).length < 17592186044416 := by simp only [List.length_append, ints_len, ByteArray.size_append]; omega
      have hst : step l out i (fixE (rd_T23 l i)) = if fixE (rd_T23 l i) = 0 ∧ (i : Int) < wrap64 ((l.length : Int) - 1) then (out ++ ints ((rd_T23 l i).f0 ++ (rd_T23 l i).f1)) ++ [256] else out ++ ints ((rd_T23 l i).f0 ++ (rd_T23 l i).f1) := rfl
      have fin : ∀ x : Bool, (x = true ↔ fixE (rd_T23 l i) = 0 ∧ (i : Int) < wrap64 ((l.length : Int) - 1)) → Ev (fun k => barscanref14_Chars.j2 k l (out ++ ints ((rd_T23 l i).f0 ++ (rd_T23 l i).f1)) i x) (chR l (n + 1) i out) := by
        intro x hx
        show Ev _ (if ((step l out i (fixE (rd_T23 l i))).length : Int) > 4096 then ([], 4) else chR l n (i + 1) (step l out i (fixE (rd_T23 l i))))
        refine Ev.succ ?_
        simp only [barscanref14_Chars.j2]
        cases x with
        | true =>
          rw [if_pos (hx.1 rfl)] at hst
          rw [hst]
          refine Ev.pos rfl (Ev.pos hlen ?_)
          simp only [Option.bind_some]
          by_cases hv : (((out ++ ints ((rd_T23 l i).f0 ++ (rd_T23 l i).f1)) ++ [256]).length : Int) > 4096
          · rw [if_pos hv]
            exact Ev.pos hv (Ev.const rfl)
          · rw [if_neg hv]
            refine Ev.neg hv ?_
            rw [wrap_up i (by omega)]
            exact ih (i + 1) _ (by omega) (by omega)
        | false =>
          rw [if_neg (fun h => by have := hx.2 h; cases this)] at hst
          rw [hst]
          refine Ev.neg (by simp) ?_
          by_cases hv : ((out ++ ints ((rd_T23 l i).f0 ++ (rd_T23 l i).f1)).length : Int) > 4096
          · rw [if_pos hv]
            exact Ev.pos hv (Ev.const rfl)
          · rw [if_neg hv]
            refine Ev.neg hv ?_
            rw [wrap_up i (by omega)]
            exact ih (i + 1) _ (by omega) (by omega)
      by_cases h0 : fixE (rd_T23 l i) = 0
      · exact Ev.pos h0 (fin _ ⟨fun h => ⟨h0, of_decide_eq_true h⟩, fun h => decide_eq_true h.2⟩)
      · exact Ev.neg h0 (fin _ (Iff.intro (fun h => absurd h (by simp)) (fun h => absurd h.1 h0)))
    simpa using main
theorem rch_ev (l : List El) (hz : SzL l) : Ev (fun k => barscanref14_Chars.f k l) (chS l) := by
  unfold barscanref14_Chars.f chS
  refine Ev.bind (rall_ev l hz) ?_
  by_cases h : allS l = 0
  · rw [if_pos h]
    exact Ev.pos h (rch_l l hz l.length 0 [256] (by omega) (by simp))
  · rw [if_neg h]
    exact Ev.neg h (Ev.const rfl)
theorem equal_l (l : List Int) (hl : l.length < 4611686018427387904) (n : Nat) : ∀ i : Nat, i + n = l.length → Ev (fun k => barscanref14_Equal.l0 k l l i) true := by
  induction n with
  | zero =>
    intro i h
    refine Ev.succ ?_
    simp only [barscanref14_Equal.l0]
    exact Ev.neg (by omega) (Ev.const rfl)
  | succ n ih =>
    intro i h
    refine Ev.succ ?_
    simp only [barscanref14_Equal.l0]
    refine Ev.pos (by omega) (Ev.pos (by omega) (Ev.pos (by omega) (Ev.pos trivial ?_)))
    rw [wrap_up i (by omega)]
    exact ih (i + 1) (by omega)
theorem equal_ev (l : List Int) (hl : l.length < 4611686018427387904) : Ev (fun k => barscanref14_Equal.f k l l) true := by
  unfold barscanref14_Equal.f
  exact Ev.pos rfl (equal_l l hl l.length 0 (by omega))
theorem same_l (l : List El) (hl : l.length < 4611686018427387904) (n : Nat) : ∀ i : Nat, i + n = l.length → Ev (fun k => barscanref14_Same.l0 k l l i) true := by
  induction n with
  | zero =>
    intro i h
    refine Ev.succ ?_
    simp only [barscanref14_Same.l0]
    exact Ev.neg (by omega) (Ev.const rfl)
  | succ n ih =>
    intro i h
    refine Ev.succ ?_
    simp only [barscanref14_Same.l0]
    refine Ev.pos (by omega) (Ev.pos (by omega) (Ev.pos (by omega) (Ev.neg (by simp) ?_)))
    rw [wrap_up i (by omega)]
    exact ih (i + 1) (by omega)
theorem same_ev (l : List El) (hl : l.length < 4611686018427387904) : Ev (fun k => barscanref14_Same.f k l l) true := by
  unfold barscanref14_Same.f
  exact Ev.pos rfl (same_l l hl l.length 0 (by omega))
theorem chR_len (l : List El) (n : Nat) : ∀ (i : Nat) (out : List Int), out.length ≤ 4096 → (chR l n i out).1.length ≤ 4096 := by
  induction n with
  | zero => intro i out h; exact h
  | succ n ih =>
    intro i out h
    simp only [chR]
    split
    · simp
    · exact ih _ _ (by omega)
theorem chS_len (l : List El) : (chS l).1.length ≤ 4096 := by
  unfold chS
  split
  · exact chR_len l _ _ _ (by simp)
  · simp
/-! ### Text -/
def fmR (l : List El) : Nat → Nat → ByteArray → ByteArray
  | 0, _, out => out
  | n + 1, i, out => fmR l n (i + 1) (out ++ piece (rd_T23 l i))
def fmS (l : List El) : ByteArray × Int := if allS l = 0 then (if ((fmR l l.length 0 ⟨#[]⟩).size : Int) > 4096 then (⟨#[]⟩, 4) else (fmR l l.length 0 ⟨#[]⟩, 0)) else (⟨#[]⟩, allS l)
theorem fmR_grow (l : List El) (n : Nat) : ∀ (i : Nat) (out : ByteArray), out.size ≤ (fmR l n i out).size := by
  induction n with
  | zero => intro i out; exact Nat.le_refl _
  | succ n ih =>
    intro i out
    have := ih (i + 1) (out ++ piece (rd_T23 l i))
    simp only [fmR]
    simp only [ByteArray.size_append] at this
    omega
theorem gfm_l (l : List El) (hz : SzL l) (n : Nat) : ∀ (i : Nat) (out : ByteArray), i + n = l.length → (fmR l n i out).size < 140737488355328 → Ev (fun k => gs1_Format.l0 k l out i) (fmR l n i out) := by
  induction n with
  | zero =>
    intro i out h ho
    refine Ev.succ ?_
    simp only [gs1_Format.l0]
    exact Ev.neg (by omega) (Ev.const rfl)
  | succ n ih =>
    intro i out h ho
    have hz1 := hz.1
    have hz2 := hz.2 i
    have hp : (piece (rd_T23 l i)).size = 2 + (rd_T23 l i).f0.size + (rd_T23 l i).f1.size := by
      unfold piece
      simp only [ByteArray.size_append]
      show 1 + _ + 1 + _ = _
      omega
    refine Ev.succ ?_
    simp only [gs1_Format.l0]
    have hg := fmR_grow l n (i + 1) (out ++ piece (rd_T23 l i))
    have ho2 : (fmR l n (i + 1) (out ++ piece (rd_T23 l i))).size < 140737488355328 := ho
    refine Ev.pos (by omega) (Ev.pos ⟨by omega, by omega, by omega, Nat.le_of_lt (Nat.lt_of_le_of_lt hg ho2)⟩ ?_)
    rw [wrap_up i (by omega)]
    exact ih (i + 1) _ (by omega) ho2
theorem gfm_ev (l : List El) (hz : SzL l) (hl : (fmR l l.length 0 ⟨#[]⟩).size < 140737488355328) : Ev (fun k => gs1_Format.f k l) (fmS l) := by
  unfold gs1_Format.f fmS
  refine Ev.bind (gall_ev l hz) ?_
  by_cases h : allS l = 0
  · rw [if_pos h]
    refine Ev.pos h (Ev.bind (gfm_l l hz l.length 0 ⟨#[]⟩ (by omega) hl) ?_)
    split
    · rename_i hv; exact Ev.const rfl
    · rename_i hv; exact Ev.const rfl
  · rw [if_neg h]
    exact Ev.neg h (Ev.const rfl)
end Go.Proofs.YtghlbdemlmbijaaGreatDoor.Q

/- An argument that is a list of elements, opened. -/
namespace Go.Proofs.YtghlbdemlmbijaaGreatDoor.Els
open Go.ChangeShapes Go.WideShapes Go.Deep Go.RowKit
set_option linter.unusedVariables false
theorem laidOut : laidOutB Tryz.prog = true := by kernel_rfl
section
variable {H : Type} {enc : TypeId × Value → H} {P : Program} {w : World} {base : Nat} {spare : Nat → Bool} {held : Bool}
theorem open_slice_fields {t e : TypeId} {fs : Array Field} {fuel : Nat} {cs : List Value} {x : DataW H × List MemPlace} (ht : P.underlying t = some (.slice e)) (he : P.underlying e = some (.struct fs))
    (hone : oneCellFields P fs = true) (hC : P.cellsOf e = fs.size) (h : DataW.trod enc P w base spare held fuel t cs = some x) :
    (cs = [.slice none 0 0] ∧ x = (.nil, [])) ∨
    ∃ (a : Addr) (len cap m : Nat) (D : Nat → DataW H) (Pl : Nat → List MemPlace), cs = [.slice (some a) len cap] ∧ base ≤ a.block ∧ len ≤ cap ∧ cap ≤ maxLen ∧ m = (if spare a.block then cap else len) ∧
      x = (.slice ((List.range len).map D) ((List.range (m - len)).map fun j => D (len + j)), MemPlace.row a (m * fs.size) ++ (List.range m).flatMap Pl) ∧
      ∀ i, i < m → ∃ (ys : List (DataW H × List MemPlace)) (n : Nat), D i = .agg (ys.map (·.1)) ∧ Pl i = ys.flatMap (·.2) ∧ ys.length = fs.size ∧
        ∀ (j : Nat) (f : Field), fs[j]? = some f → ∃ (v : Value) (y : DataW H × List MemPlace), w.cell? (a.add (i * fs.size + j)) = some v ∧ ys[j]? = some y ∧ DataW.trod enc P w base spare held n f.type [v] = some y := by
  rcases open_slice ht h with h0 | ⟨a, len, cap, m, n, D, Pl, hcs, hb, hl, hm, hmm, hx, hi⟩
  · exact .inl h0
  · refine .inr ⟨a, len, cap, m, D, Pl, hcs, hb, hl, hm, hmm, by rw [hC] at hx; exact hx, fun i him => ?_⟩
    obtain ⟨cs', hc, ht'⟩ := hi i him
    rw [hC] at hc
    obtain ⟨ys, n', hn', hy, hlen, hyl, hf⟩ := DataW.trod_struct he ht'
    obtain ⟨_, hcl, hat⟩ := World.cells?_some hc
    simp only [Prod.mk.injEq] at hy
    refine ⟨ys, n', hy.1, hy.2, hyl, fun j f hj => ?_⟩
    obtain ⟨ho, hk⟩ := hone_of hone j f hj
    have hjl : j < fs.size := (Array.getElem?_eq_some_iff.1 hj).1
    have hcell := hat j hjl
    have hv : cs'[j]? = some (cs'[j]'(by omega)) := List.getElem?_eq_getElem (by omega)
    have h1 := hf j f hj
    rw [ho, hk] at h1
    have hone' : (cs'.drop j).take 1 = [cs'[j]'(by omega)] := by
      rw [List.drop_eq_getElem_cons (by omega)]
      rfl
    rw [hone'] at h1
    have hys : ys[j]? = some (ys[j]'(by omega)) := List.getElem?_eq_getElem (by omega)
    refine ⟨_, _, ?_, hys, h1.trans hys⟩
    rw [← Go.Deep.add_add, hcell, hv]
end
/-- What the list weighs, each text by its bytes. -/
def weight (l : List Q.El) : Nat := (l.map fun x => x.f0.size + x.f1.size + 3).sum
section
variable {H : Type} {enc : TypeId × Value → H} {w : World} {base : Nat} {spare : Nat → Bool} {held : Bool}
theorem open_els {fuel : Nat} {v : Value} {x : DataW H × List MemPlace} (h : DataW.trod enc Tryz.prog w base spare held fuel 30 [v] = some x) :
    ∃ (A : Option Addr) (l : List Q.El) (c : Nat), v = .slice A l.length c ∧ l.length ≤ c ∧ Go.Proofs.YtghlbdemlmbijaaGreatDoorW.PrintWords.Kd.C Q.k23 w A l.length l ∧ weight l ≤ Rows.uptoBulk x.1 := by
  rcases open_slice_fields Tryz.underlying30 Tryz.underlying23 (by kernel_rfl) (by kernel_rfl) h with ⟨hcs, rfl⟩ | ⟨a, len, cap, m, D, Pl, hcs, _, hl, hm, hmm, rfl, hi⟩
  · obtain rfl : v = .slice none 0 0 := by simpa using hcs
    exact ⟨none, [], 0, rfl, Nat.le_refl _, ⟨rfl, by simp, fun h => absurd h (Nat.lt_irrefl 0)⟩, by simp [weight, Rows.uptoBulk]⟩
  · obtain rfl : v = .slice (some a) len cap := by simpa using hcs
    have hE : ∀ i, i < m → ∃ e : Q.El, w.cell? (a.add (i * 2)) = some (.string e.f0) ∧ w.cell? (a.add (i * 2 + 1)) = some (.string e.f1) ∧ D i = .agg [.lit (.string e.f0.data.toList), .lit (.string e.f1.data.toList)] := by
      intro i him
      obtain ⟨ys, n, hD, _, hlen, hf⟩ := hi i him
      obtain ⟨v0, y0, hc0, hy0, ht0⟩ := hf 0 _ rfl
      obtain ⟨v1, y1, hc1, hy1, ht1⟩ := hf 1 _ rfl
      obtain ⟨s0, e0, rfl, _⟩ := DataW.trod_string Tryz.underlying9 ht0
      obtain ⟨s1, e1, rfl, _⟩ := DataW.trod_string Tryz.underlying9 ht1
      obtain rfl : v0 = .string s0 := by simpa using e0
      obtain rfl : v1 = .string s1 := by simpa using e1
      have hlen2 : ys.length = 2 := hlen
      refine ⟨⟨s0, s1⟩, hc0, hc1, ?_⟩
      rw [hD]
      match ys, hlen2, hy0, hy1 with
      | [a0, a1], _, hy0, hy1 =>
        obtain rfl : a0 = _ := Option.some.inj hy0
        obtain rfl : a1 = _ := Option.some.inj hy1
        rfl
    have hlm : len ≤ m := by rw [hmm]; split <;> omega
    let g : Nat → Q.El := fun i => if h : i < m then (hE i h).choose else Q.z23
    have hg : ∀ i, i < m → w.cell? (a.add (i * 2)) = some (.string (g i).f0) ∧ w.cell? (a.add (i * 2 + 1)) = some (.string (g i).f1) ∧ D i = .agg [.lit (.string (g i).f0.data.toList), .lit (.string (g i).f1.data.toList)] := by
      intro i h
      have e : g i = (hE i h).choose := dif_pos h
      rw [e]
      exact (hE i h).choose_spec
    have hlen : ((List.range len).map g).length = len := by simp
    refine ⟨some a, (List.range len).map g, cap, by rw [hlen], by rw [hlen]; exact hl, ⟨rfl, by rw [hlen]; exact Nat.le_trans hl hm, fun _ => ⟨a, rfl, fun j p hp => ⟨[.string p.f0, .string p.f1], rfl, Q.k23_mk w p, ?_⟩⟩⟩, ?_⟩
    · have hj : j < len := by have := (List.getElem?_eq_some_iff.1 hp).1; rw [hlen] at this; exact this
      have hpe : p = g j := by
        have h2 : ((List.range len).map g)[j]? = some (g j) := by simp [hj]
        rw [h2] at hp
        exact (Option.some.inj hp).symm
      subst hpe
      have h3 := hg j (by omega)
      intro i u hu
      match i, hu with
      | 0, hu => obtain rfl := Option.some.inj hu; exact h3.1
      | 1, hu => obtain rfl := Option.some.inj hu; exact h3.2.1
    · have hw : ∀ L : List Nat, (∀ i ∈ L, i < m) → weight (L.map g) ≤ Rows.uptoBulkAll (L.map D) := by
        intro L
        induction L with
        | nil => intro _; exact Nat.le_refl _
        | cons i L ih =>
          intro hL
          have h1 := ih fun k hk => hL k (by simp [hk])
          have h2 := (hg i (hL i (by simp))).2.2
          simp only [List.map_cons, Rows.uptoBulkAll, h2, Rows.uptoBulk, Array.length_toList, weight, List.sum_cons] at h1 ⊢
          have e0 : (g i).f0.data.size = (g i).f0.size := rfl
          have e1 : (g i).f1.data.size = (g i).f1.size := rfl
          omega
      have h4 := hw (List.range len) fun i hi => by have := List.mem_range.1 hi; omega
      simp only [Rows.uptoBulk]
      omega
end
/-- What a list's weight gives the walks. -/
theorem weight_at (l : List Q.El) : ∀ i : Nat, (Q.rd_T23 l i).f0.size + (Q.rd_T23 l i).f1.size ≤ weight l := by
  induction l with
  | nil => intro i; exact Nat.le_refl 0
  | cons x l ih =>
    intro i
    simp only [weight, List.map_cons, List.sum_cons] at ih ⊢
    match i with
    | 0 => simp only [Q.rd_T23, Int.toNat_natCast, List.getD_cons_zero]; omega
    | i + 1 => have := ih i; simp only [Q.rd_T23, Int.toNat_natCast, List.getD_cons_succ] at this ⊢; omega
theorem weight_len (l : List Q.El) : 3 * l.length ≤ weight l := by
  induction l with
  | nil => simp [weight]
  | cons x l ih => simp only [weight, List.map_cons, List.sum_cons, List.length_cons] at ih ⊢; omega
theorem szl (l : List Q.El) (h : weight l ≤ 1048576) : Q.SzL l := by
  have h1 := weight_len l
  exact ⟨by omega, fun i => by have := weight_at l i; omega⟩
end Go.Proofs.YtghlbdemlmbijaaGreatDoor.Els
