/- Joined by a program of this work (pack.py) out of the texts Ph5, Ph6, Pu1, Pu2, Pu3, Qbarscanlaw14Gs1RoundTrip, Qbarscanlaw14equal, Qbarscanlaw14Gs1Canonical of this seat, in build order. -/
import Derived.Test.YtghlbdemlmbijaaDoorPD8
/- Texts: Format of the reference; Parse of both. -/

namespace Go.Proofs.YtghlbdemlmbijaaDoor.Q
open Go.RowKit Go.Proofs.YtghlbdemlmbijaaDoorW.PrintWords Go.Proofs.YtghlbdemlmbijaaDoorW.PrintLast Go.Proofs.YtghlbdemlmbijaaDoorW.PrintMore
set_option linter.unusedVariables false
set_option linter.unusedSimpArgs false
theorem add_piece (x : ByteArray) (e : El) : (((x ++ (⟨#[40]⟩ : ByteArray)) ++ e.f0) ++ (⟨#[41]⟩ : ByteArray)) ++ e.f1 = x ++ piece e := by
  apply bs_inj
  unfold piece
  simp only [bs_append, List.append_assoc]
/-! ### Parse -/
abbrev mk (l : List UInt8) : ByteArray := ⟨l.toArray⟩
theorem mk_bs (s : ByteArray) : mk (bs s) = s := Lib.mk_data s
def upto' (c : UInt8) (l : List UInt8) : List UInt8 := l.takeWhile (fun x => x != c)
def from' (c : UInt8) (l : List UInt8) : List UInt8 := l.dropWhile (fun x => x != c)
theorem upto_from (c : UInt8) (l : List UInt8) : upto' c l ++ from' c l = l := List.takeWhile_append_dropWhile
theorem upto_take (c : UInt8) (l : List UInt8) : upto' c l = l.take (upto' c l).length := by
  have h : (upto' c l ++ from' c l).take (upto' c l).length = upto' c l := by simp
  rw [upto_from] at h
  exact h.symm
theorem from_drop (c : UInt8) (l : List UInt8) : from' c l = l.drop (upto' c l).length := by
  have h : (upto' c l ++ from' c l).drop (upto' c l).length = from' c l := by simp
  rw [upto_from] at h
  exact h.symm
theorem from_head {c d : UInt8} {l t : List UInt8} (h : from' c l = d :: t) : d = c := by
  unfold from' at h
  induction l with
  | nil => cases h
  | cons a l ih =>
    by_cases ha : a = c
    · subst ha
      rw [List.dropWhile_cons_of_neg (by simp)] at h
      injection h with h1 _
      exact h1.symm
    · rw [List.dropWhile_cons_of_pos (by simpa using ha)] at h
      exact ih h
theorem index_upto (c : UInt8) (l : List UInt8) : (from' c l = [] → Lib.indexByte l c = -1) ∧ (from' c l ≠ [] → Lib.indexByte l c = ((upto' c l).length : Int)) := by
  unfold from' upto'
  induction l with
  | nil => exact ⟨fun _ => rfl, fun h => absurd rfl h⟩
  | cons a l ih =>
    by_cases ha : a = c
    · subst ha
      rw [List.dropWhile_cons_of_neg (by simp), List.takeWhile_cons_of_neg (by simp)]
      exact ⟨fun h => absurd h (by simp), fun _ => by simp [Lib.indexByte]⟩
    · rw [List.dropWhile_cons_of_pos (by simpa using ha), List.takeWhile_cons_of_pos (by simpa using ha)]
      have h1 : (a == c) = false := beq_eq_false_iff_ne.mpr ha
      simp only [Lib.indexByte, h1, Bool.false_eq_true, if_false]
      refine ⟨fun h => by simp [ih.1 h], fun h => ?_⟩
      rw [ih.2 h, if_neg (by simp)]
      simp
def parseR : Nat → List UInt8 → List El → List El × Int
  | 0, _, acc => (acc, 0)
  | n + 1, l, acc => if l = [] then (acc, 0) else match from' 41 l with
    | [] => ([], 9)
    | _ :: t => if l.head? = some 40 then (if verS (mk ((upto' 41 l).drop 1)) (mk (upto' 40 t)) = 0 then parseR n (from' 40 t) (acc ++ [⟨mk ((upto' 41 l).drop 1), mk (upto' 40 t)⟩]) else ([], verS (mk ((upto' 41 l).drop 1)) (mk (upto' 40 t)))) else ([], 9)
theorem from_len (c : UInt8) (l : List UInt8) : (from' c l).length ≤ l.length := by
  rw [from_drop]; simp
theorem upto_len (c : UInt8) (l : List UInt8) : (upto' c l).length ≤ l.length := by
  rw [upto_take]; simp; omega
theorem head_at {s : ByteArray} (h : 0 < s.size) : ((bt s 0) = 40 ↔ (bs s).head? = some 40) := by
  have hlt : 0 < (bs s).length := by rw [bs_len]; exact h
  rw [show (0 : Int) = ((0 : Nat) : Int) from rfl, bt_nat s 0 hlt, List.head?_eq_getElem?, List.getElem?_eq_getElem hlt, Option.some_inj]
  constructor
  · intro h2; exact UInt8.toNat_inj.1 (by show _ = 40; omega)
  · intro h2; rw [h2]; rfl
theorem gparse_l (n : Nat) : ∀ (s : ByteArray) (acc : List El), s.size < n → s.size ≤ 4096 → acc.length + s.size ≤ 4096 → Ev (fun k => gs1_Parse.l0 k s acc) (parseR n (bs s) acc) := by
  induction n with
  | zero => intro s acc h; omega
  | succ n ih =>
    intro s acc h hs ha
    have hl := bs_len s
    refine Ev.succ ?_
    simp only [gs1_Parse.l0, strings_IndexByte.f, Option.bind_some, bs_toList]
    unfold parseR
    by_cases h0 : bs s = []
    · rw [if_pos h0]
      exact Ev.pos h0 (Ev.const rfl)
    · rw [if_neg h0]
      have hpos : 0 < s.size := by rw [← hl]; exact List.length_pos_iff.2 h0
      refine Ev.neg h0 (Ev.pos (by omega) ?_)
      have hi := index_upto 41 (bs s)
      have h41 : ((41 : Int)).toNat.toUInt8 = 41 := rfl
      have h40 : ((40 : Int)).toNat.toUInt8 = 40 := rfl
      rw [h41]
      have bad : ∀ x : Int, Ev (fun k => gs1_Parse.j1 k s acc x true) (([], 9) : List El × Int) := by
        intro x
        refine Ev.succ ?_
        simp only [gs1_Parse.j1]
        exact Ev.pos trivial (Ev.const rfl)
      rcases hfr : from' 41 (bs s) with _ | ⟨c, r⟩
      · rw [hi.1 hfr]
        by_cases hh : bt s 0 = 40
        · exact Ev.pos hh (bad _)
        · exact Ev.neg hh (bad _)
      · have hne : from' 41 (bs s) ≠ [] := by rw [hfr]; simp
        rw [hi.2 hne]
        obtain ⟨o, ho⟩ : ∃ o : Nat, (upto' 41 (bs s)).length = o := ⟨_, rfl⟩
        rw [ho]
        have hc : c = 41 := from_head hfr
        have hsp := upto_from 41 (bs s)
        have hlen : o + (r.length + 1) = s.size := by
          have := congrArg List.length hsp
          rw [List.length_append, hfr, List.length_cons, ho, hl] at this
          exact this
        show Ev _ (if (bs s).head? = some 40 then _ else _)
        by_cases hh : bt s 0 = 40
        · refine Ev.pos hh ?_
          have hh2 := (head_at hpos).1 hh
          rw [if_pos hh2]
          have ho1 : 1 ≤ o := by
            rcases Nat.eq_zero_or_pos o with h3 | h3
            · exfalso
              have h4 : upto' 41 (bs s) = [] := List.length_eq_zero_iff.1 (by omega)
              rw [h4, List.nil_append, hfr, hc] at hsp
              rw [← hsp] at hh2
              cases hh2
            · exact h3
          have hdr : (bs s).drop (o + 1) = r := by
            have h3 := from_drop 41 (bs s)
            rw [hfr, ho] at h3
            rw [← List.drop_drop, ← h3]
            rfl
          have hR : bs (s.extract (o + 1) s.size) = r := by
            rw [bs_extract, hdr, List.take_of_length_le (by omega)]
          have hA : bs (s.extract 1 o) = (upto' 41 (bs s)).drop 1 := by
            rw [bs_extract, upto_take, ho, List.drop_take]
          have hRs : (s.extract (o + 1) s.size).size = r.length := by rw [← bs_len, hR]
          have hAs : (s.extract 1 o).size < 1073741824 := by rw [← bs_len, hA, List.length_drop, ho]; omega
          have eA : s.extract 1 o = mk ((upto' 41 (bs s)).drop 1) := by rw [← hA, mk_bs]
          refine Ev.succ ?_
          simp only [gs1_Parse.j1]
          rw [show (wrap64 ((o : Int) + 1)) = ((o + 1 : Nat) : Int) from wrap_up o (by omega)]
          simp only [Int.toNat_natCast]
          refine Ev.neg (by simp) (Ev.pos (by omega) (Ev.pos (by omega) (Ev.pos (by omega) (Ev.pos (by omega) ?_))))
          simp only [strings_IndexByte.f, Option.bind_some, h40, hR]
          have hi2 := index_upto 40 r
          rcases hf2 : from' 40 r with _ | ⟨c2, r2⟩
          · rw [hi2.1 hf2]
            have hup : upto' 40 r = r := by have := upto_from 40 r; rw [hf2, List.append_nil] at this; exact this
            have eD : s.extract (o + 1) s.size = mk r := by rw [← hR, mk_bs]
            rw [eA, eD, hup]
            rw [eA] at hAs
            refine Ev.neg (by omega) (Ev.bind (ver_ev _ _ hAs (by rw [← eD, hRs]; omega)) ?_)
            by_cases hv : verS (mk ((upto' 41 (bs s)).drop 1)) (mk r) = 0
            · rw [if_pos hv]
              refine Ev.pos hv (Ev.pos (by omega) ?_)
              exact ih ⟨#[]⟩ _ (by show 0 < n; omega) (by show 0 ≤ 4096; omega) (by rw [List.length_append]; show acc.length + 1 + 0 ≤ 4096; omega)
            · rw [if_neg hv]
              exact Ev.neg hv (Ev.const rfl)
          · have hne2 : from' 40 r ≠ [] := by rw [hf2]; simp
            rw [hi2.2 hne2]
            obtain ⟨o2, ho2⟩ : ∃ o2 : Nat, (upto' 40 r).length = o2 := ⟨_, rfl⟩
            rw [ho2]
            have hsp2 := congrArg List.length (upto_from 40 r)
            rw [List.length_append, hf2, List.length_cons, ho2] at hsp2
            simp only [Int.toNat_natCast]
            have hD : bs ((s.extract (o + 1) s.size).extract 0 o2) = upto' 40 r := by rw [bs_extract, hR, List.drop_zero, Nat.sub_zero, upto_take, ho2]
            have hX : bs ((s.extract (o + 1) s.size).extract o2 (s.extract (o + 1) s.size).size) = from' 40 r := by
              rw [bs_extract, hR, hRs, from_drop, ho2, List.take_of_length_le (by rw [List.length_drop]; omega)]
            have eD : (s.extract (o + 1) s.size).extract 0 o2 = mk (upto' 40 r) := by rw [← hD, mk_bs]
            have hXs : ((s.extract (o + 1) s.size).extract o2 (s.extract (o + 1) s.size).size).size = r2.length + 1 := by rw [← bs_len, hX, hf2]; rfl
            rw [← hf2, ← hX]
            rw [eA, eD]
            rw [eA] at hAs
            refine Ev.pos (by omega) (Ev.pos (by omega) (Ev.pos (by rw [hRs]; omega) (Ev.bind (ver_ev _ _ hAs (by rw [← bs_len, bs_mk, ho2]; omega)) ?_)))
            by_cases hv : verS (mk ((upto' 41 (bs s)).drop 1)) (mk (upto' 40 r)) = 0
            · rw [if_pos hv]
              refine Ev.pos hv (Ev.pos (by omega) ?_)
              exact ih _ _ (by rw [hXs]; omega) (by rw [hXs]; omega) (by rw [hXs, List.length_append]; show acc.length + 1 + _ ≤ 4096; omega)
            · rw [if_neg hv]
              exact Ev.neg hv (Ev.const rfl)
        · refine Ev.neg hh ?_
          rw [if_neg (fun h => hh ((head_at hpos).2 h))]
          exact bad _
theorem rhead_at {s : ByteArray} {at' : Nat} (h : at' < s.size) : ((bt s (at' : Int)) = 40 ↔ ((bs s).drop at').head? = some 40) := by
  have hlt : at' < (bs s).length := by rw [bs_len]; exact h
  rw [bt_nat s at' hlt, List.head?_drop, List.getElem?_eq_getElem hlt, Option.some_inj]
  constructor
  · intro h2; exact UInt8.toNat_inj.1 (by show _ = 40; omega)
  · intro h2; rw [h2]; rfl
def parS (s : ByteArray) : List El × Int := if (s.size : Int) > 4096 then ([], 4) else if bs s = [] then ([], 5) else parseR 5000 (bs s) []
theorem gparse_ev (s : ByteArray) : Ev (fun k => gs1_Parse.f k s) (parS s) := by
  unfold gs1_Parse.f parS
  rw [bs_toList]
  by_cases h : (s.size : Int) > 4096
  · rw [if_pos h]; exact Ev.pos h (Ev.const rfl)
  · rw [if_neg h]
    refine Ev.neg h ?_
    by_cases h2 : bs s = []
    · rw [if_pos h2]; exact Ev.pos h2 (Ev.const rfl)
    · rw [if_neg h2]
      exact Ev.neg h2 (gparse_l 5000 s [] (by omega) (by omega) (by show 0 + _ ≤ _; omega))
theorem parseR_len (n : Nat) : ∀ (l : List UInt8) (acc : List El), (parseR n l acc).1.length ≤ acc.length + n := by
  induction n with
  | zero => intro l acc; exact Nat.le_refl _
  | succ n ih =>
    intro l acc
    unfold parseR
    split
    · show acc.length ≤ _; omega
    · split
      · simp
      · split
        · split
          · have := ih (from' 40 ‹_›) (acc ++ [⟨mk ((upto' 41 l).drop 1), mk (upto' 40 ‹_›)⟩])
            rw [List.length_append] at this
            exact Nat.le_trans this (by show acc.length + 1 + n ≤ _; omega)
          · simp
        · simp
theorem parS_len (s : ByteArray) : (parS s).1.length ≤ 5000 := by
  unfold parS
  split
  · simp
  · split
    · simp
    · have := parseR_len 5000 (bs s) []
      simpa using this
end Go.Proofs.YtghlbdemlmbijaaDoor.Q

/- Characters read back: FromChars of both. -/

namespace Go.Proofs.YtghlbdemlmbijaaDoor.Q
open Go.RowKit Go.Proofs.YtghlbdemlmbijaaDoorW.PrintWords Go.Proofs.YtghlbdemlmbijaaDoorW.PrintLast Go.Proofs.YtghlbdemlmbijaaDoorW.PrintMore
set_option linter.unusedVariables false
set_option linter.unusedSimpArgs false
/-- The characters before the next FNC1. -/
def before (C : List Int) : List Int := C.takeWhile fun x => x != 256
def runS (C : List Int) : ByteArray := strOfNums ((before C).map fun x => x % 256)
theorem index_l (C : List Int) (hC : C.length < 4611686018427387904) (n : Nat) : ∀ i : Nat, i + n = C.length → Ev (fun k => slices_Index_int_int.l0 k C 256 (C.length : Int) i)
    (if (before (C.drop i)).length = (C.drop i).length then -1 else ((i + (before (C.drop i)).length : Nat) : Int)) := by
  induction n with
  | zero =>
    intro i h
    refine Ev.succ ?_
    simp only [slices_Index_int_int.l0]
    have e : C.drop i = [] := List.drop_of_length_le (by omega)
    rw [e, if_pos (by rfl)]
    exact Ev.neg (by omega) (Ev.const rfl)
  | succ n ih =>
    intro i h
    have hlt : i < C.length := by omega
    have hd : C.drop i = C[i] :: C.drop (i + 1) := List.drop_eq_getElem_cons hlt
    refine Ev.succ ?_
    simp only [slices_Index_int_int.l0]
    refine Ev.pos (by omega) (Ev.pos (by omega) (Ev.pos (by omega) ?_))
    rw [rd_nat C i hlt, hd]
    unfold before
    by_cases he : C[i] = 256
    · rw [List.takeWhile_cons_of_neg (by simpa using he)]
      refine Ev.pos he.symm ?_
      rw [if_neg (by simp only [List.length_nil, List.length_cons]; omega)]
      exact Ev.const (by simp)
    · rw [List.takeWhile_cons_of_pos (by simpa using he)]
      refine Ev.neg (fun h => he h.symm) ?_
      rw [wrap_up i (by omega)]
      have := ih (i + 1) (by omega)
      unfold before at this
      have e : (if (C[i] :: (C.drop (i + 1)).takeWhile fun x => x != 256).length = (C[i] :: C.drop (i + 1)).length then (-1 : Int) else ((i + (C[i] :: (C.drop (i + 1)).takeWhile fun x => x != 256).length : Nat) : Int)) =
          (if ((C.drop (i + 1)).takeWhile fun x => x != 256).length = (C.drop (i + 1)).length then (-1 : Int) else ((i + 1 + ((C.drop (i + 1)).takeWhile fun x => x != 256).length : Nat) : Int)) := by
        simp only [List.length_cons]
        by_cases h3 : ((C.drop (i + 1)).takeWhile fun x => x != 256).length = (C.drop (i + 1)).length
        · rw [if_pos h3, if_pos (by omega)]
        · rw [if_neg h3, if_neg (by omega)]
          omega
      rw [e]
      exact this
theorem fill_l (C : List Int) (hC : C.length < 4611686018427387904) (n : Nat) : ∀ i : Nat, i + n = C.length → Ev (fun k => gs1_run.l0 k ((C.take i).map (fun x => x % 256) ++ List.replicate n 0) C (C.length : Int) i) (strOfNums (C.map fun x => x % 256)) := by
  induction n with
  | zero =>
    intro i h
    refine Ev.succ ?_
    simp only [gs1_run.l0]
    refine Ev.neg (by omega) (Ev.const ?_)
    rw [List.take_of_length_le (by omega)]
    simp
  | succ n ih =>
    intro i h
    have hlt : i < C.length := by omega
    refine Ev.succ ?_
    simp only [gs1_run.l0]
    refine Ev.pos (by omega) (Ev.pos (by omega) (Ev.pos (by omega) (Ev.pos (by simp; omega) ?_)))
    have e : ((C.take i).map (fun x => x % 256) ++ List.replicate (n + 1) 0).set (i : Int).toNat ((rd C i) % 256) = (C.take (i + 1)).map (fun x => x % 256) ++ List.replicate n 0 := by
      have hl3 : ((C.take i).map fun x => x % 256).length = i := by rw [List.length_map, List.length_take]; omega
      rw [rd_nat C i hlt, Int.toNat_natCast, List.set_append, if_neg (by omega), List.take_succ_eq_append_getElem hlt, List.map_append, hl3, Nat.sub_self, List.replicate_succ, List.set_cons_zero, List.append_assoc]
      rfl
    rw [e, wrap_up i (by omega)]
    exact ih (i + 1) (by omega)
theorem before_take (C : List Int) : before C = C.take (before C).length := by
  have h := List.takeWhile_append_dropWhile (p := fun x : Int => x != 256) (l := C)
  have h2 : ((C.takeWhile fun x => x != 256) ++ (C.dropWhile fun x => x != 256)).take (C.takeWhile fun x => x != 256).length = C.takeWhile fun x => x != 256 := by rw [List.take_append_of_le_length (Nat.le_refl _), List.take_length]
  rw [h] at h2
  exact h2.symm
theorem before_le (C : List Int) : (before C).length ≤ C.length := by rw [before_take]; simp; omega
theorem run_ev (C : List Int) (hC : C.length ≤ 4096) : Ev (fun k => gs1_run.f k C) (runS C) := by
  unfold gs1_run.f
  have hi := index_l C (by omega) C.length 0 (by omega)
  rw [List.drop_zero, Nat.zero_add] at hi
  have fin : ∀ D : List Int, D.length ≤ 4096 → Ev (fun k => gs1_run.j0 k D) (strOfNums (D.map fun x => x % 256)) := by
    intro D hD
    refine Ev.succ ?_
    simp only [gs1_run.j0, Int.toNat_natCast]
    refine Ev.pos (by omega) (Ev.pos (by omega) ?_)
    have := fill_l D (by omega) D.length 0 (by omega)
    simpa using this
  have hle := before_le C
  unfold runS
  refine Ev.bind (F := fun k => slices_Index_int_int.f k C 256) hi ?_
  by_cases h : (before C).length = C.length
  · rw [if_pos h]
    refine Ev.neg (by omega) ?_
    have e : before C = C := by rw [before_take, h, List.take_length]
    rw [e]
    exact fin C hC
  · rw [if_neg h]
    refine Ev.pos (by omega) (Ev.pos (by omega) (Ev.pos (by omega) ?_))
    rw [Int.toNat_natCast, ← before_take]
    exact fin _ (by omega)
/-! ### The application identifier at the beginning -/
def okP (s : ByteArray) (n : Nat) : Bool := decide (n ≤ s.size) && decide ((tableS ((bs s).take n)).1 ≠ 0)
def preS (s : ByteArray) : Nat := if 2 ≤ s.size then (if okP s 2 then 2 else if 3 ≤ s.size then (if okP s 3 then 3 else if 4 ≤ s.size then (if okP s 4 then 4 else 0) else 0) else 0) else 0
theorem okP_form (s : ByteArray) (n : Nat) (hn : n ≤ 4) (h : n ≤ s.size) : gs1_formOf.f (s.extract 0 n) = some (conv (tableS ((bs s).take n))) ∧ ((conv (tableS ((bs s).take n))).2.2.2.2.2 = true ↔ okP s n = true) := by
  have e : bs (s.extract 0 n) = (bs s).take n := by rw [bs_extract, List.drop_zero, Nat.sub_zero]
  have hs : (s.extract 0 n).size < 4294967281 := by rw [← bs_len, e, List.length_take]; omega
  refine ⟨by rw [form_at _ hs, e], ?_⟩
  have hc := conv_ok (tableS ((bs s).take n)) (tableS_form _)
  rw [hc.1]
  unfold okP
  rw [decide_eq_true h, Bool.true_and, decide_eq_true_iff]
def preV (s : ByteArray) : ByteArray × Int × Int × Bool × Bool × Bool × Bool :=
  if preS s = 0 then (⟨#[]⟩, 0, 0, false, false, false, false)
  else (s.extract 0 (preS s), (conv (tableS ((bs s).take (preS s)))).1, (conv (tableS ((bs s).take (preS s)))).2.1, (conv (tableS ((bs s).take (preS s)))).2.2.1, (conv (tableS ((bs s).take (preS s)))).2.2.2.1, (conv (tableS ((bs s).take (preS s)))).2.2.2.2.1, true)
theorem prefix_at (s : ByteArray) (k : Nat) : gs1_prefix.f (k + 8) s = some (preV s) := by
  unfold gs1_prefix.f preV preS
  simp only [gs1_prefix.l0, gs1_prefix.j1, show wrap64 (2 + 1) = 3 by decide +kernel, show wrap64 (3 + 1) = 4 by decide +kernel, show wrap64 (4 + 1) = 5 by decide +kernel]
  by_cases h2 : 2 ≤ s.size
  · have f2 := okP_form s 2 (by decide) h2
    rw [if_pos (by decide), if_pos (decide_eq_true (by omega)), if_pos (by decide), if_pos (by omega)]
    simp only [show (2 : Int).toNat = 2 from rfl, f2.1, Option.bind_some, h2, if_true]
    by_cases g2 : okP s 2 = true
    · simp [f2.2.2 g2, g2]
    · have n2 : ¬ (conv (tableS ((bs s).take 2))).2.2.2.2.2 = true := fun h => g2 (f2.2.1 h)
      rw [if_neg n2, if_neg g2]
      by_cases h3 : 3 ≤ s.size
      · have f3 := okP_form s 3 (by decide) h3
        rw [if_pos (by decide), if_pos (decide_eq_true (by omega)), if_pos (by decide), if_pos (by omega)]
        simp only [show (3 : Int).toNat = 3 from rfl, f3.1, Option.bind_some, h3, if_true]
        by_cases g3 : okP s 3 = true
        · simp [f3.2.2 g3, g3]
        · have n3 : ¬ (conv (tableS ((bs s).take 3))).2.2.2.2.2 = true := fun h => g3 (f3.2.1 h)
          rw [if_neg n3, if_neg g3]
          by_cases h4 : 4 ≤ s.size
          · have f4 := okP_form s 4 (by decide) h4
            rw [if_pos (by decide), if_pos (decide_eq_true (by omega)), if_pos (by decide), if_pos (by omega)]
            simp only [show (4 : Int).toNat = 4 from rfl, f4.1, Option.bind_some, h4, if_true]
            by_cases g4 : okP s 4 = true
            · simp [f4.2.2 g4, g4]
            · have n4 : ¬ (conv (tableS ((bs s).take 4))).2.2.2.2.2 = true := fun h => g4 (f4.2.1 h)
              simp [n4, g4]
          · simp [h4, show ¬ (4 : Int) ≤ (s.size : Int) by omega]
      · simp [h3, show ¬ (3 : Int) ≤ (s.size : Int) by omega]
  · simp [h2, show ¬ (2 : Int) ≤ (s.size : Int) by omega]
def preA (s : ByteArray) : ByteArray := if preS s = 0 then ⟨#[]⟩ else s.extract 0 (preS s)
theorem preS_le (s : ByteArray) : preS s ≤ s.size ∧ preS s ≤ 4 ∧ (preS s ≠ 0 → 2 ≤ preS s ∧ (tableS ((bs s).take (preS s))).1 ≠ 0) := by
  have ok : ∀ n, okP s n = true → (tableS ((bs s).take n)).1 ≠ 0 := by
    intro n h
    unfold okP at h
    rw [Bool.and_eq_true, decide_eq_true_iff, decide_eq_true_iff] at h
    exact h.2
  unfold preS
  by_cases h2 : 2 ≤ s.size
  · rw [if_pos h2]
    by_cases g2 : okP s 2 = true
    · rw [if_pos g2]; exact ⟨h2, by omega, fun _ => ⟨by omega, ok 2 g2⟩⟩
    · rw [if_neg g2]
      by_cases h3 : 3 ≤ s.size
      · rw [if_pos h3]
        by_cases g3 : okP s 3 = true
        · rw [if_pos g3]; exact ⟨h3, by omega, fun _ => ⟨by omega, ok 3 g3⟩⟩
        · rw [if_neg g3]
          by_cases h4 : 4 ≤ s.size
          · rw [if_pos h4]
            by_cases g4 : okP s 4 = true
            · rw [if_pos g4]; exact ⟨h4, by omega, fun _ => ⟨by omega, ok 4 g4⟩⟩
            · rw [if_neg g4]; exact ⟨by omega, by omega, fun h => absurd rfl h⟩
          · rw [if_neg h4]; exact ⟨by omega, by omega, fun h => absurd rfl h⟩
      · rw [if_neg h3]; exact ⟨by omega, by omega, fun h => absurd rfl h⟩
  · rw [if_neg h2]; exact ⟨by omega, by omega, fun h => absurd rfl h⟩
/-! ### The elements -/
theorem nums_size (l : List Int) : (strOfNums l).size = l.length := by
  unfold strOfNums
  show (l.map _).toArray.size = _
  simp
theorem runS_size (C : List Int) : (runS C).size = (before C).length := by unfold runS; rw [nums_size, List.length_map]
def tbC (C : List Int) : Int × Int := tableS ((bs (runS C)).take (preS (runS C)))
def fxC (C : List Int) : Int := (conv (tbC C)).1
def dat0 (C : List Int) : ByteArray := (runS C).extract (preS (runS C)) (runS C).size
def dat (C : List Int) : ByteArray := if fxC C > 0 then (dat0 C).extract 0 (fxC C).toNat else dat0 C
def elC (C : List Int) : El := ⟨(runS C).extract 0 (preS (runS C)), dat C⟩
def restC (C : List Int) : List Int := C.drop (preS (runS C) + (dat C).size)
def fcR : Nat → List Int → List El → List El × Int
  | 0, _, acc => (acc, 0)
  | n + 1, C, acc => if C = [] then (acc, 0) else if rd C 0 = 256 then ([], 9) else if preS (runS C) = 0 then ([], 29) else if fxC C > 0 ∧ ((dat0 C).size : Int) < fxC C then ([], 10)
    else if verT (tbC C) (dat C) = 0 then (if fxC C = 0 ∧ restC C ≠ [] then (if (restC C).drop 1 = [] then ([], 9) else fcR n ((restC C).drop 1) (acc ++ [elC C])) else fcR n (restC C) (acc ++ [elC C])) else ([], verT (tbC C) (dat C))
theorem dat0_size (C : List Int) : (dat0 C).size = (runS C).size - preS (runS C) := by unfold dat0; simp
theorem dat_size (C : List Int) : (dat C).size ≤ (runS C).size - preS (runS C) := by
  unfold dat
  split
  · rw [ByteArray.size_extract, dat0_size]; omega
  · rw [dat0_size]; exact Nat.le_refl _
theorem gj3 {acc : List El} {D : List Int} {x : Bool} {ai d : ByteArray} {r : List El × Int} (hacc : acc.length < 4398046511104) (hx : x = true → D ≠ []) (a1 : x = true → D.drop 1 = [] → r = ([], 9))
    (a2 : x = true → D.drop 1 ≠ [] → Ev (fun k => gs1_FromChars.l0 k (acc ++ [⟨ai, d⟩]) (D.drop 1)) r) (a3 : x = false → Ev (fun k => gs1_FromChars.l0 k (acc ++ [⟨ai, d⟩]) D) r) : Ev (fun k => gs1_FromChars.j3 k acc D x ai d) r := by
  refine Ev.succ ?_
  simp only [gs1_FromChars.j3]
  cases x with
  | true =>
    have hl1 : 0 < D.length := List.length_pos_iff.2 (hx rfl)
    refine Ev.pos rfl (Ev.pos (by omega) ?_)
    simp only [Option.bind_some]
    by_cases h5 : D.drop 1 = []
    · rw [a1 rfl h5]
      exact Ev.pos (by rw [h5]; rfl) (Ev.const rfl)
    · exact Ev.neg (fun h => h5 (List.length_eq_zero_iff.1 (by omega))) (Ev.pos hacc (a2 rfl h5))
  | false => exact Ev.neg (by simp) (Ev.pos hacc (a3 rfl))
theorem gj2 {acc : List El} {C : List Int} {ai d : ByteArray} {fx most v : Int} {dig chk day : Bool} {r : List El × Int} (hver : Ev (fun k => gs1_form_verify.f k fx most dig chk day d) v) (hle : ai.size + d.size ≤ C.length) (hC : C.length ≤ 4096)
    (b1 : v ≠ 0 → r = ([], v)) (b2 : v = 0 → Ev (fun k => gs1_FromChars.j3 k acc (C.drop (ai.size + d.size)) (decide (fx = 0) && decide (C.drop (ai.size + d.size) ≠ [])) ai d) r) : Ev (fun k => gs1_FromChars.j2 k acc C ai fx most dig chk day ai d) r := by
  refine Ev.succ ?_
  simp only [gs1_FromChars.j2]
  refine Ev.bind hver ?_
  by_cases hv : v = 0
  · have hw : wrap64 ((ai.size : Int) + (d.size : Int)) = ((ai.size + d.size : Nat) : Int) := by rw [wrap_id _ (by omega) (by omega)]; omega
    rw [hw]
    refine Ev.pos hv (Ev.pos (by omega) (Ev.pos (by omega) ?_))
    simp only [Option.bind_some, Int.toNat_natCast]
    have b := b2 hv
    by_cases h6 : fx = 0
    · refine Ev.pos h6 ?_
      rw [decide_eq_true h6, Bool.true_and] at b
      have e : decide (((C.drop (ai.size + d.size)).length : Int) > 0) = decide (C.drop (ai.size + d.size) ≠ []) := by
        by_cases h7 : C.drop (ai.size + d.size) = []
        · rw [h7]; rfl
        · have := List.length_pos_iff.2 h7
          rw [decide_eq_true h7, decide_eq_true (by omega)]
      rw [e]
      exact b
    · refine Ev.neg h6 ?_
      rw [decide_eq_false h6, Bool.false_and] at b
      exact b
  · rw [b1 hv]
    exact Ev.neg hv (Ev.const rfl)
set_option maxHeartbeats 2000000 in
theorem gfc_l (n : Nat) : ∀ (C : List Int) (acc : List El), C.length < n → C.length ≤ 4096 → acc.length + C.length ≤ 4096 → Ev (fun k => gs1_FromChars.l0 k acc C) (fcR n C acc) := by
  induction n with
  | zero => intro C acc h; omega
  | succ n ih =>
    intro C acc h hC ha
    refine Ev.succ ?_
    simp only [gs1_FromChars.l0]
    unfold fcR
    by_cases h0 : C = []
    · rw [if_pos h0]
      subst h0
      exact Ev.neg (by simp) (Ev.const rfl)
    · rw [if_neg h0]
      have hpos : 0 < C.length := List.length_pos_iff.2 h0
      refine Ev.pos (by omega) (Ev.pos (by omega) ?_)
      by_cases h1 : rd C 0 = 256
      · rw [if_pos h1]
        exact Ev.pos h1 (Ev.const rfl)
      · rw [if_neg h1]
        refine Ev.neg h1 (Ev.bind (run_ev C hC) (Ev.bind (a := preV (runS C)) ⟨8, fun k hk => by obtain ⟨j, rfl⟩ : ∃ j, k = j + 8 := ⟨k - 8, by omega⟩; exact prefix_at _ j⟩ ?_))
        have hrs := runS_size C
        have hbl := before_le C
        have hp := preS_le (runS C)
        unfold preV
        by_cases h2 : preS (runS C) = 0
        · rw [if_pos h2, if_pos h2]
          exact Ev.neg (by simp) (Ev.const rfl)
        · rw [if_neg h2, if_neg h2]
          have hple := hp.1
          have hp2a := (hp.2.2 h2).1
          have htn : (tbC C).1 ≠ 0 := (hp.2.2 h2).2
          clear hp
          have has : ((runS C).extract 0 (preS (runS C))).size = preS (runS C) := by clear htn; rw [ByteArray.size_extract]; omega
          have hd0 := dat0_size C
          have hds := dat_size C
          have hrl : (restC C).length = C.length - (preS (runS C) + (dat C).size) := by clear htn; unfold restC; rw [List.length_drop]
          have hdb : (dat C).size < 4294967296 := by clear htn; omega
          have hver : Ev (fun k => gs1_form_verify.f k (conv (tbC C)).1 (conv (tbC C)).2.1 (conv (tbC C)).2.2.1 (conv (tbC C)).2.2.2.1 (conv (tbC C)).2.2.2.2.1 (dat C)) (verT (tbC C) (dat C)) := by
            have htf : tbC C ∈ [(2, 18), (2, 14), (3, 6), (1, 2), (4, 8), (5, 20), (5, 25), (5, 30), (5, 90), (2, 13), (4, 15), (1, 6), ((0 : Int), (0 : Int))] := tableS_form ((bs (runS C)).take (preS (runS C)))
            have hco := conv_ok (tbC C) htf
            exact ⟨(dat C).size + 21, fun k hk => (gver_at _ _ _ _ _ (dat C) hdb hco.2 k hk).trans (congrArg some (gver_verT (tbC C) htf htn (dat C)))⟩
          clear htn
          refine Ev.pos rfl (Ev.pos (by omega) (Ev.pos (by rw [has]; omega) ?_))
          simp only [has, Int.toNat_natCast]
          have fin : Ev (fun k => gs1_FromChars.j2 k acc C ((runS C).extract 0 (preS (runS C))) (conv (tbC C)).1 (conv (tbC C)).2.1 (conv (tbC C)).2.2.1 (conv (tbC C)).2.2.2.1 (conv (tbC C)).2.2.2.2.1 ((runS C).extract 0 (preS (runS C))) (dat C))
              (if verT (tbC C) (dat C) = 0 then (if fxC C = 0 ∧ restC C ≠ [] then (if (restC C).drop 1 = [] then ([], 9) else fcR n ((restC C).drop 1) (acc ++ [elC C])) else fcR n (restC C) (acc ++ [elC C])) else ([], verT (tbC C) (dat C))) := by
            refine gj2 hver (by rw [has]; omega) hC (fun hv => if_neg hv) (fun hv => ?_)
            rw [if_pos hv, has]
            have eR : C.drop (preS (runS C) + (dat C).size) = restC C := rfl
            rw [eR]
            have hl2 : ((restC C).drop 1).length ≤ (restC C).length := by rw [List.length_drop]; omega
            have hla : (acc ++ [elC C]).length = acc.length + 1 := by rw [List.length_append]; rfl
            by_cases hx : fxC C = 0 ∧ restC C ≠ []
            · rw [if_pos hx]
              refine gj3 (by omega) (fun _ => hx.2) (fun _ h5 => if_pos h5) (fun _ h5 => ?_) (fun h => ?_)
              · rw [if_neg h5]
                exact ih _ (acc ++ [elC C]) (by omega) (by omega) (by omega)
              · rw [decide_eq_true (show (conv (tbC C)).1 = 0 from hx.1), decide_eq_true hx.2] at h
                cases h
            · rw [if_neg hx]
              have no : (decide ((conv (tbC C)).1 = 0) && decide (restC C ≠ [])) = true → False := by
                intro h
                rw [Bool.and_eq_true, decide_eq_true_iff, decide_eq_true_iff] at h
                exact hx h
              refine gj3 (by omega) (fun h => (no h).elim) (fun h => (no h).elim) (fun h => (no h).elim) (fun _ => ?_)
              exact ih _ (acc ++ [elC C]) (by omega) (by omega) (by omega)
          have e0 : (runS C).extract (preS (runS C)) (runS C).size = dat0 C := rfl
          rw [e0]
          by_cases h3 : fxC C > 0
          · have hdd : dat C = (dat0 C).extract 0 (fxC C).toNat := by unfold dat; rw [if_pos h3]
            refine Ev.pos h3 ?_
            by_cases h4 : ((dat0 C).size : Int) < fxC C
            · rw [if_pos ⟨h3, h4⟩]
              exact Ev.pos h4 (Ev.const rfl)
            · rw [if_neg (fun h => h4 h.2)]
              refine Ev.neg h4 (Ev.pos (Int.le_of_lt h3) (Ev.pos (Int.not_lt.1 h4) ?_))
              rw [hdd] at fin ⊢
              exact fin
          · have hdd : dat C = dat0 C := by unfold dat; rw [if_neg h3]
            rw [if_neg (fun h => h3 h.1)]
            refine Ev.neg h3 ?_
            rw [hdd] at fin ⊢
            exact fin
theorem before_nil {D : List Int} (h : D ≠ []) : (before D = [] ↔ rd D 0 = 256) := by
  match D, h with
  | c :: r, _ =>
    have e : rd (c :: r) 0 = c := rfl
    rw [e]
    unfold before
    by_cases hc : c = 256
    · rw [List.takeWhile_cons_of_neg (by simpa using hc)]
      exact ⟨fun _ => hc, fun _ => rfl⟩
    · rw [List.takeWhile_cons_of_pos (by simpa using hc)]
      exact ⟨fun h => absurd h (by simp), fun h => absurd h hc⟩
def fcT (C : List Int) : List El × Int := if C.length = 0 then ([], 9) else if rd C 0 ≠ 256 then ([], 9) else if C.length = 1 then ([], 5) else fcR 5000 (C.drop 1) []
def fcS (C : List Int) : List El × Int := if (C.length : Int) > 4096 then ([], 4) else if C.any badChar = true then ([], 6) else fcT C
theorem gj0 (C : List Int) (hC : C.length ≤ 4096) : ∀ x : Bool, (x = true ↔ (C.length = 0 ∨ rd C 0 ≠ 256)) → Ev (fun k => gs1_FromChars.j0 k C x) (fcT C) := by
  intro x hx
  refine Ev.succ ?_
  simp only [gs1_FromChars.j0]
  unfold fcT
  cases x with
  | true =>
    have h := hx.1 rfl
    refine Ev.pos rfl (Ev.const ?_)
    by_cases h0 : C.length = 0
    · rw [if_pos h0]
    · rw [if_neg h0, if_pos (h.resolve_left h0)]
  | false =>
    have h0 : ¬ C.length = 0 := fun h => absurd (hx.2 (Or.inl h)) (by simp)
    have h1 : ¬ rd C 0 ≠ 256 := fun h => absurd (hx.2 (Or.inr h)) (by simp)
    rw [if_neg h0, if_neg h1]
    refine Ev.neg (by simp) ?_
    by_cases h2 : C.length = 1
    · rw [if_pos h2]
      exact Ev.pos (by omega) (Ev.const rfl)
    · rw [if_neg h2]
      have hd : (C.drop 1).length = C.length - 1 := List.length_drop
      exact Ev.neg (by omega) (Ev.pos (by omega) (gfc_l 5000 (C.drop 1) [] (by omega) (by omega) (by show 0 + _ ≤ 4096; omega)))
theorem gfc_ev (C : List Int) : Ev (fun k => gs1_FromChars.f k C) (fcS C) := by
  unfold gs1_FromChars.f fcS slices_ContainsFunc_int.f
  by_cases h : (C.length : Int) > 4096
  · rw [if_pos h]; exact Ev.pos h (Ev.const rfl)
  · rw [if_neg h]
    refine Ev.neg h ?_
    simp only [Option.bind_some]
    by_cases hb : C.any badChar = true
    · rw [if_pos hb]; exact Ev.pos hb (Ev.const rfl)
    · rw [if_neg hb]
      refine Ev.neg hb ?_
      by_cases h0 : C.length = 0
      · exact Ev.pos (by omega) (gj0 C (by omega) true ⟨fun _ => Or.inl h0, fun _ => rfl⟩)
      · exact Ev.neg (by omega) (Ev.pos (by omega) (gj0 C (by omega) _ ⟨fun hh => Or.inr (bne_iff_ne.1 hh), fun hh => bne_iff_ne.2 (hh.resolve_left h0)⟩))
theorem fcR_len (n : Nat) : ∀ (C : List Int) (acc : List El), (fcR n C acc).1.length ≤ acc.length + n := by
  induction n with
  | zero => intro C acc; exact Nat.le_refl _
  | succ n ih =>
    intro C acc
    unfold fcR
    have h1 : ∀ D, (fcR n D (acc ++ [elC C])).1.length ≤ acc.length + (n + 1) := fun D => by
      have := ih D (acc ++ [elC C])
      rw [List.length_append] at this
      exact Nat.le_trans this (by show acc.length + 1 + n ≤ _; omega)
    repeat' split
    all_goals first | exact h1 _ | (show acc.length ≤ _; omega) | (show 0 ≤ _; omega)
theorem fcS_len (C : List Int) : (fcS C).1.length ≤ 5000 := by
  unfold fcS fcT
  repeat' split
  all_goals first | (show 0 ≤ _; omega) | (have := fcR_len 5000 (C.drop 1) []; simpa using this)
end Go.Proofs.YtghlbdemlmbijaaDoor.Q

/- The table of application identifiers is free of prefixes. -/
namespace Go.Proofs.YtghlbdemlmbijaaDoor.Q
open Go.RowKit Go.Proofs.YtghlbdemlmbijaaDoorW.PrintWords Go.Proofs.YtghlbdemlmbijaaDoorW.PrintLast Go.Proofs.YtghlbdemlmbijaaDoorW.PrintMore
set_option linter.unusedVariables false
set_option linter.unusedSimpArgs false
theorem ite_imp {c P : Prop} [Decidable c] {x y : Int × Int} (h1 : c → x.1 ≠ 0 → P) (h2 : ¬ c → y.1 ≠ 0 → P) : (if c then x else y).1 ≠ 0 → P := by
  split
  · rename_i h; exact h1 h
  · rename_i h; exact h2 h
theorem tableR_dig (l : List UInt8) : (tableR l).1 ≠ 0 → l.all isDig = true ∧ 2 ≤ l.length ∧ l.length ≤ 4 := by
  unfold tableR
  refine ite_imp (fun hd => ?_) (fun _ h => absurd rfl h)
  refine ite_imp (fun h _ => ⟨hd, by omega, by omega⟩) (fun _ => ?_)
  refine ite_imp (fun h _ => ⟨hd, by omega, by omega⟩) (fun _ => ?_)
  refine ite_imp (fun h _ => ⟨hd, by omega, by omega⟩) (fun _ => ?_)
  refine ite_imp (fun h _ => ⟨hd, by omega, by omega⟩) (fun _ => ?_)
  exact fun h => absurd rfl h
theorem tableS_dig (l : List UInt8) : (tableS l).1 ≠ 0 → l.all isDig = true ∧ 2 ≤ l.length ∧ l.length ≤ 4 := by
  unfold tableS
  iterate 25 refine ite_imp (fun e _ => by subst e; decide) (fun _ => ?_)
  exact tableR_dig l
abbrev dg (n : Nat) : UInt8 := UInt8.ofNat (48 + n)
theorem isDig_dg {c : UInt8} (h : isDig c = true) : ∃ n, n < 10 ∧ c = dg n := by
  unfold isDig at h
  rw [Bool.and_eq_true, decide_eq_true_iff, decide_eq_true_iff] at h
  refine ⟨c.toNat - 48, by omega, ?_⟩
  apply UInt8.toNat_inj.1
  rw [UInt8.toNat_ofNat']
  have := c.toNat_lt
  omega
def pfB3 (a b c : Nat) : Bool := (tableS [dg a, dg b, dg c]).1 == 0 || (tableS [dg a, dg b]).1 == 0
def pfB4 (a b c d : Nat) : Bool := (tableS [dg a, dg b, dg c, dg d]).1 == 0 || ((tableS [dg a, dg b]).1 == 0 && (tableS [dg a, dg b, dg c]).1 == 0)
set_option maxRecDepth 100000 in
theorem pf3_all : ((List.range 10).all fun a => (List.range 10).all fun b => (List.range 10).all fun c => pfB3 a b c) = true := by decide +kernel
set_option maxRecDepth 100000 in
theorem pf4_all : ((List.range 10).all fun a => (List.range 10).all fun b => (List.range 10).all fun c => (List.range 10).all fun d => pfB4 a b c d) = true := by decide +kernel
theorem pf3 (a : Nat) (ha : a < 10) (b : Nat) (hb : b < 10) (c : Nat) (hc : c < 10) (h : (tableS [dg a, dg b, dg c]).1 ≠ 0) : (tableS [dg a, dg b]).1 = 0 := by
  have h1 := List.all_eq_true.1 (List.all_eq_true.1 (List.all_eq_true.1 pf3_all a (List.mem_range.2 ha)) b (List.mem_range.2 hb)) c (List.mem_range.2 hc)
  unfold pfB3 at h1
  rw [Bool.or_eq_true, beq_iff_eq, beq_iff_eq] at h1
  exact h1.resolve_left h
theorem pf4 (a : Nat) (ha : a < 10) (b : Nat) (hb : b < 10) (c : Nat) (hc : c < 10) (d : Nat) (hd : d < 10) (h : (tableS [dg a, dg b, dg c, dg d]).1 ≠ 0) : (tableS [dg a, dg b]).1 = 0 ∧ (tableS [dg a, dg b, dg c]).1 = 0 := by
  have h1 := List.all_eq_true.1 (List.all_eq_true.1 (List.all_eq_true.1 (List.all_eq_true.1 pf4_all a (List.mem_range.2 ha)) b (List.mem_range.2 hb)) c (List.mem_range.2 hc)) d (List.mem_range.2 hd)
  unfold pfB4 at h1
  rw [Bool.or_eq_true, Bool.and_eq_true, beq_iff_eq, beq_iff_eq, beq_iff_eq] at h1
  exact h1.resolve_left h
theorem prefix_free (l : List UInt8) (h : (tableS l).1 ≠ 0) (n : Nat) (hn : n < l.length) : (tableS (l.take n)).1 = 0 := by
  obtain ⟨hd, h2, h4⟩ := tableS_dig l h
  by_cases hn2 : n < 2
  · by_cases h0 : (tableS (l.take n)).1 = 0
    · exact h0
    · have := (tableS_dig _ h0).2.1
      rw [List.length_take] at this
      omega
  match l, h2, h4 with
  | [a, b], _, _ => simp at hn; omega
  | [a, b, c], _, _ =>
    simp only [List.all_cons, List.all_nil, Bool.and_eq_true] at hd
    obtain ⟨a, ha, rfl⟩ := isDig_dg hd.1
    obtain ⟨b, hb, rfl⟩ := isDig_dg hd.2.1
    obtain ⟨c, hc, rfl⟩ := isDig_dg hd.2.2.1
    obtain rfl : n = 2 := by simp at hn; omega
    exact pf3 a ha b hb c hc h
  | [a, b, c, d], _, _ =>
    simp only [List.all_cons, List.all_nil, Bool.and_eq_true] at hd
    obtain ⟨a, ha, rfl⟩ := isDig_dg hd.1
    obtain ⟨b, hb, rfl⟩ := isDig_dg hd.2.1
    obtain ⟨c, hc, rfl⟩ := isDig_dg hd.2.2.1
    obtain ⟨d, hdd, rfl⟩ := isDig_dg hd.2.2.2.1
    have := pf4 a ha b hb c hc d hdd h
    rcases (show n = 2 ∨ n = 3 by simp at hn; omega) with rfl | rfl
    · exact this.1
    · exact this.2
end Go.Proofs.YtghlbdemlmbijaaDoor.Q

/- The laws on lists: what is written is read back, what is read is written again, what the separators are. -/
namespace Go.Proofs.YtghlbdemlmbijaaDoor.Q
open Go.RowKit Go.Proofs.YtghlbdemlmbijaaDoorW.PrintWords Go.Proofs.YtghlbdemlmbijaaDoorW.PrintLast Go.Proofs.YtghlbdemlmbijaaDoorW.PrintMore
set_option linter.unusedVariables false
set_option linter.unusedSimpArgs false
/-- A valid element. -/
def Va (x : El) : Prop := verS x.f0 x.f1 = 0
theorem drop_rd (l : List El) (i : Nat) (h : i < l.length) : l.drop i = rd_T38 l i :: l.drop (i + 1) := by
  rw [List.drop_eq_getElem_cons h]
  congr 1
  simp [rd_T38, List.getD, h]
theorem allR_iff (l : List El) (n : Nat) : ∀ i : Nat, i + n = l.length → (allR l n i = 0 ↔ ∀ x ∈ l.drop i, Va x) := by
  induction n with
  | zero =>
    intro i h
    rw [List.drop_of_length_le (by omega)]
    exact ⟨fun _ x hx => absurd hx (by simp), fun _ => rfl⟩
  | succ n ih =>
    intro i h
    rw [drop_rd l i (by omega)]
    show (if verS (rd_T38 l i).f0 (rd_T38 l i).f1 = 0 then allR l n (i + 1) else verS (rd_T38 l i).f0 (rd_T38 l i).f1) = 0 ↔ _
    by_cases hv : verS (rd_T38 l i).f0 (rd_T38 l i).f1 = 0
    · rw [if_pos hv, ih (i + 1) (by omega)]
      constructor
      · intro h2 x hx
        rcases List.mem_cons.1 hx with rfl | hx
        · exact hv
        · exact h2 x hx
      · intro h2 x hx
        exact h2 x (List.mem_cons_of_mem _ hx)
    · rw [if_neg hv]
      exact ⟨fun h2 => absurd h2 hv, fun h2 => absurd (h2 _ (List.mem_cons_self ..)) hv⟩
theorem allS_iff (l : List El) : allS l = 0 ↔ l ≠ [] ∧ ∀ x ∈ l, Va x := by
  unfold allS
  by_cases h : l.length = 0
  · rw [if_pos h]
    have h2 : l = [] := List.length_eq_zero_iff.1 h
    exact ⟨fun h3 => absurd h3 (by decide), fun h3 => absurd h2 h3.1⟩
  · rw [if_neg h, allR_iff l l.length 0 (by omega), List.drop_zero]
    exact ⟨fun h3 => ⟨fun h4 => h (by rw [h4]; rfl), h3⟩, fun h3 => h3.2⟩
/-- The text of elements. -/
def fmL : List El → List UInt8
  | [] => []
  | x :: t => 40 :: (bs x.f0 ++ 41 :: (bs x.f1 ++ fmL t))
theorem piece_bs (x : El) : bs (piece x) = 40 :: (bs x.f0 ++ 41 :: bs x.f1) := by
  unfold piece
  simp only [bs_append]
  show (([40] ++ bs x.f0) ++ [41]) ++ bs x.f1 = _
  simp
theorem fmR_eq (l : List El) (n : Nat) : ∀ (i : Nat) (out : ByteArray), i + n = l.length → bs (fmR l n i out) = bs out ++ fmL (l.drop i) := by
  induction n with
  | zero =>
    intro i out h
    rw [List.drop_of_length_le (by omega)]
    show bs out = bs out ++ []
    rw [List.append_nil]
  | succ n ih =>
    intro i out h
    rw [drop_rd l i (by omega)]
    show bs (fmR l n (i + 1) (out ++ piece (rd_T38 l i))) = _
    rw [ih (i + 1) _ (by omega), bs_append, piece_bs]
    simp [fmL]
theorem fmR_bs (l : List El) : bs (fmR l l.length 0 ⟨#[]⟩) = fmL l := by
  have := fmR_eq l l.length 0 ⟨#[]⟩ (by omega)
  rw [List.drop_zero] at this
  exact this
/-- The characters of elements, behind the first FNC1. -/
def chL : List El → List Int
  | [] => []
  | x :: t => ints (x.f0 ++ x.f1) ++ ((if fixE x = 0 ∧ t ≠ [] then [256] else []) ++ chL t)
theorem step_eq (l : List El) (i : Nat) (out : List Int) (h : i < l.length) (hl : l.length < 4611686018427387904) :
    step l out i (fixE (rd_T38 l i)) = out ++ (ints ((rd_T38 l i).f0 ++ (rd_T38 l i).f1) ++ (if fixE (rd_T38 l i) = 0 ∧ l.drop (i + 1) ≠ [] then [256] else [])) := by
  unfold step
  have e : ((i : Int) < wrap64 ((l.length : Int) - 1)) ↔ l.drop (i + 1) ≠ [] := by
    rw [wrap_dn _ hl]
    constructor
    · intro h2 h3
      have := congrArg List.length h3
      rw [List.length_drop] at this
      simp at this
      omega
    · intro h2
      have := List.length_pos_iff.2 h2
      rw [List.length_drop] at this
      omega
  by_cases hc : fixE (rd_T38 l i) = 0 ∧ l.drop (i + 1) ≠ []
  · rw [if_pos hc, if_pos ⟨hc.1, e.2 hc.2⟩, List.append_assoc]
  · rw [if_neg hc, if_neg (fun h3 => hc ⟨h3.1, e.1 h3.2⟩), List.append_nil]
theorem chR_eq (l : List El) (hl : l.length < 4611686018427387904) (n : Nat) : ∀ (i : Nat) (out : List Int), i + n = l.length → out.length ≤ 4096 →
    chR l n i out = if (out ++ chL (l.drop i)).length > 4096 then ([], 4) else (out ++ chL (l.drop i), 0) := by
  induction n with
  | zero =>
    intro i out h ho
    rw [List.drop_of_length_le (by omega)]
    show ((out, 0) : List Int × Int) = if (out ++ ([] : List Int)).length > 4096 then (([], 4) : List Int × Int) else (out ++ [], 0)
    rw [List.append_nil, if_neg (by omega)]
  | succ n ih =>
    intro i out h ho
    rw [drop_rd l i (by omega)]
    show (if ((step l out i (fixE (rd_T38 l i))).length : Int) > 4096 then ([], 4) else chR l n (i + 1) (step l out i (fixE (rd_T38 l i)))) = _
    have hs := step_eq l i out (by omega) hl
    have e : out ++ chL (rd_T38 l i :: l.drop (i + 1)) = step l out i (fixE (rd_T38 l i)) ++ chL (l.drop (i + 1)) := by
      rw [hs]
      show out ++ (_ ++ (_ ++ _)) = _
      simp only [List.append_assoc]
    rw [e]
    by_cases hv : ((step l out i (fixE (rd_T38 l i))).length : Int) > 4096
    · rw [if_pos hv, if_pos (by rw [List.length_append]; omega)]
    · rw [if_neg hv, ih (i + 1) _ (by omega) (by omega)]
theorem chS_eq (l : List El) (hl : l.length < 4611686018427387904) : chS l = if allS l = 0 then (if (256 :: chL l).length > 4096 then ([], 4) else (256 :: chL l, 0)) else ([], allS l) := by
  unfold chS
  by_cases h : allS l = 0
  · rw [if_pos h, if_pos h, chR_eq l hl l.length 0 [256] (by omega) (by simp), List.drop_zero]
    rfl
  · rw [if_neg h, if_neg h]
theorem fmS_eq (l : List El) : fmS l = if allS l = 0 then (if (fmL l).length > 4096 then (⟨#[]⟩, 4) else (mk (fmL l), 0)) else (⟨#[]⟩, allS l) := by
  unfold fmS
  have e := fmR_bs l
  have e2 : fmR l l.length 0 ⟨#[]⟩ = mk (fmL l) := by rw [← e, mk_bs]
  have e3 : (fmR l l.length 0 ⟨#[]⟩).size = (fmL l).length := by rw [← bs_len, e]
  rw [e3, e2]
  by_cases h : allS l = 0
  · rw [if_pos h, if_pos h]
    by_cases h2 : (fmL l).length > 4096
    · rw [if_pos h2, if_pos (by omega)]
    · rw [if_neg h2, if_neg (by omega)]
  · rw [if_neg h, if_neg h]
/-! ### What a valid element is -/
theorem chr_all : ∀ n, n < 256 → (isDig (UInt8.ofNat n) || isChr (UInt8.ofNat n)) = true → UInt8.ofNat n ≠ 40 ∧ (UInt8.ofNat n).toNat < 128 := by decide +kernel
theorem okc_chr (f : Int) (c : UInt8) (h : okc f c = true) : c ≠ 40 ∧ c.toNat < 128 := by
  have h2 : (isDig c || isChr c) = true := by
    unfold okc at h
    rw [Bool.or_eq_true]
    by_cases h5 : f = 5
    · rw [if_pos h5] at h; exact Or.inr h
    · rw [if_neg h5] at h; exact Or.inl h
  exact all_u8 (P := fun c => (isDig c || isChr c) = true → c ≠ 40 ∧ c.toNat < 128) chr_all c h2
theorem dig_ne (c : UInt8) (h : isDig c = true) : c ≠ 41 ∧ c.toNat < 128 := by
  unfold isDig at h
  rw [Bool.and_eq_true, decide_eq_true_iff, decide_eq_true_iff] at h
  refine ⟨fun e => ?_, by omega⟩
  subst e
  exact absurd h.1 (by decide)
structure Good (x : El) : Prop where
  tb : (tableS (bs x.f0)).1 ≠ 0
  ver : verT (tableS (bs x.f0)) x.f1 = 0
  data : ∀ c ∈ bs x.f1, c ≠ 40 ∧ c.toNat < 128
  ai : ∀ c ∈ bs x.f0, c ≠ 41 ∧ c.toNat < 128
  fix : fixE x > 0 → (x.f1.size : Int) = fixE x
  low : 0 ≤ fixE x
  two : 2 ≤ x.f0.size
theorem good_of {x : El} (h : Va x) : Good x := by
  unfold Va verS at h
  by_cases h0 : (tableS (bs x.f0)).1 = 0
  · rw [if_pos h0] at h; exact absurd h (by decide)
  · rw [if_neg h0] at h
    have hf := tableS_form (bs x.f0)
    have hd := tableS_dig _ h0
    have hv := h
    unfold verT at hv
    by_cases c1 : (x.f1.size : Int) > (tableS (bs x.f0)).2 ∨ x.f1.size = 0 ∨ ((x.f1.size : Int) ≠ (tableS (bs x.f0)).2 ∧ (tableS (bs x.f0)).1 ≠ 4 ∧ (tableS (bs x.f0)).1 ≠ 5)
    · rw [if_pos c1] at hv; exact absurd hv (by decide)
    rw [if_neg c1] at hv
    by_cases c2 : (bs x.f1).all (okc (tableS (bs x.f0)).1) = true
    rotate_left
    · rw [if_neg c2] at hv; exact absurd hv (by decide)
    have hfx : (fixE x > 0 → (x.f1.size : Int) = fixE x) ∧ 0 ≤ fixE x := by
      unfold fixE
      clear hd hv h h0 c2
      simp only [List.mem_cons, List.not_mem_nil, or_false] at hf
      rcases hf with hf | hf | hf | hf | hf | hf | hf | hf | hf | hf | hf | hf | hf <;> rw [hf] at c1 ⊢ <;> simp only [conv] <;> simp at c1 ⊢ <;> omega
    refine ⟨h0, h, fun c hc => okc_chr _ c (List.all_eq_true.1 c2 c hc), fun c hc => dig_ne c (List.all_eq_true.1 hd.1 c hc), hfx.1, hfx.2, by rw [← bs_len]; exact hd.2.1⟩
/-! ### Texts, forth and back -/
theorem upto_app (c : UInt8) (a b : List UInt8) (h : ∀ y ∈ a, y ≠ c) : upto' c (a ++ b) = a ++ upto' c b ∧ from' c (a ++ b) = from' c b := by
  unfold upto' from'
  induction a with
  | nil => exact ⟨rfl, rfl⟩
  | cons y a ih =>
    have hy : (y != c) = true := by simpa using h y (List.mem_cons_self ..)
    have ih := ih fun z hz => h z (List.mem_cons_of_mem _ hz)
    rw [List.cons_append, List.takeWhile_cons_of_pos (p := fun x => x != c) hy, List.dropWhile_cons_of_pos (p := fun x => x != c) hy, ih.1, ih.2]
    exact ⟨rfl, rfl⟩
theorem upto_stop (c : UInt8) (b : List UInt8) : upto' c (c :: b) = [] ∧ from' c (c :: b) = c :: b := by
  unfold upto' from'
  rw [List.takeWhile_cons_of_neg (by simp), List.dropWhile_cons_of_neg (by simp)]
  exact ⟨rfl, rfl⟩
theorem fmL_40 (l : List El) : upto' 40 (fmL l) = [] ∧ from' 40 (fmL l) = fmL l := by
  cases l with
  | nil => exact ⟨rfl, rfl⟩
  | cons x t => exact upto_stop 40 _
theorem parse_text (l : List El) : ∀ (n : Nat) (acc : List El), (∀ x ∈ l, Va x) → (fmL l).length < n → parseR n (fmL l) acc = (acc ++ l, 0) := by
  induction l with
  | nil =>
    intro n acc _ h
    obtain ⟨n, rfl⟩ : ∃ m, n = m + 1 := ⟨n - 1, by omega⟩
    unfold parseR
    rw [if_pos (show fmL [] = [] from rfl), List.append_nil]
  | cons x t ih =>
    intro n acc hv h
    obtain ⟨n, rfl⟩ : ∃ m, n = m + 1 := ⟨n - 1, by omega⟩
    have hg := good_of (hv x (List.mem_cons_self ..))
    have hx : verS x.f0 x.f1 = 0 := hv x (List.mem_cons_self ..)
    have e0 : fmL (x :: t) = (40 :: bs x.f0) ++ 41 :: (bs x.f1 ++ fmL t) := rfl
    have ha := upto_app 41 (40 :: bs x.f0) (41 :: (bs x.f1 ++ fmL t)) (fun y hy => by
      rcases List.mem_cons.1 hy with rfl | hy
      · decide
      · exact (hg.ai y hy).1)
    rw [(upto_stop 41 _).1, (upto_stop 41 _).2, List.append_nil] at ha
    have hb := upto_app 40 (bs x.f1) (fmL t) (fun y hy => (hg.data y hy).1)
    rw [(fmL_40 t).1, (fmL_40 t).2, List.append_nil] at hb
    unfold parseR
    rw [if_neg (by simp [fmL]), e0, ha.1, ha.2]
    simp only [List.cons_append, List.head?_cons, if_true, List.drop_succ_cons, List.drop_zero, hb.1, hb.2, mk_bs, hx]
    have hlen : (fmL t).length < n := by
      rw [e0] at h
      simp only [List.length_append, List.length_cons] at h
      omega
    rw [ih n _ (fun y hy => hv y (List.mem_cons_of_mem _ hy)) hlen]
    simp
theorem text_back (n : Nat) : ∀ (L : List UInt8) (acc r : List El), L.length < n → parseR n L acc = (r, 0) → ∃ l, r = acc ++ l ∧ (∀ x ∈ l, Va x) ∧ fmL l = L := by
  induction n with
  | zero => intro L acc r h; omega
  | succ n ih =>
    intro L acc r h hp
    unfold parseR at hp
    by_cases h0 : L = []
    · rw [if_pos h0] at hp
      injection hp with h1 _
      exact ⟨[], by rw [← h1, List.append_nil], fun x hx => absurd hx (by simp), h0.symm⟩
    rw [if_neg h0] at hp
    rcases hf : from' 41 L with _ | ⟨c, t⟩
    · rw [hf] at hp
      injection hp with _ h2
      exact absurd h2 (by decide)
    · rw [hf] at hp
      simp only at hp
      by_cases hh : L.head? = some 40
      rotate_left
      · rw [if_neg hh] at hp
        injection hp with _ h2
        exact absurd h2 (by decide)
      rw [if_pos hh] at hp
      obtain ⟨L', rfl⟩ : ∃ L', L = 40 :: L' := by
        cases L with
        | nil => cases hh
        | cons a L' => exact ⟨L', by rw [List.head?_cons, Option.some_inj] at hh; rw [hh]⟩
      have hc : c = 41 := from_head hf
      have hsp := upto_from 41 (40 :: L')
      have hu : upto' 41 (40 :: L') = 40 :: upto' 41 L' := by
        unfold upto'
        rw [List.takeWhile_cons_of_pos (by decide)]
      rw [hf, hc, hu] at hsp
      rw [hu] at hp
      simp only [List.drop_succ_cons, List.drop_zero] at hp
      by_cases hv : verS (mk (upto' 41 L')) (mk (upto' 40 t)) = 0
      rotate_left
      · rw [if_neg hv] at hp
        injection hp with _ h2
        exact absurd h2 hv
      rw [if_pos hv] at hp
      have hl : (from' 40 t).length < n := by
        have h1 := from_len 40 t
        have h2 := congrArg List.length hsp
        simp only [List.length_append, List.length_cons] at h2 h
        omega
      obtain ⟨l, h1, h2, h3⟩ := ih _ _ _ hl hp
      refine ⟨⟨mk (upto' 41 L'), mk (upto' 40 t)⟩ :: l, by rw [h1]; simp, fun x hx => ?_, ?_⟩
      · rcases List.mem_cons.1 hx with rfl | hx
        · exact hv
        · exact h2 x hx
      · show 40 :: (bs (mk (upto' 41 L')) ++ 41 :: (bs (mk (upto' 40 t)) ++ fmL l)) = _
        rw [h3, bs_mk, bs_mk, upto_from]
        rw [← hsp]
        rfl
theorem round_text (l : List El) (s : ByteArray) (h : fmS l = (s, 0)) : parS s = (l, 0) := by
  rw [fmS_eq] at h
  by_cases ha : allS l = 0
  rotate_left
  · rw [if_neg ha] at h
    injection h with _ h2
    exact absurd h2 ha
  rw [if_pos ha] at h
  by_cases hs : (fmL l).length > 4096
  · rw [if_pos hs] at h
    injection h with _ h2
    exact absurd h2 (by decide)
  rw [if_neg hs] at h
  injection h with h1 _
  obtain ⟨hn, hv⟩ := (allS_iff l).1 ha
  subst h1
  unfold parS
  have e : (mk (fmL l)).size = (fmL l).length := by rw [← bs_len, bs_mk]
  rw [e, if_neg (by omega), bs_mk, if_neg (fun h => by cases l with
    | nil => exact hn rfl
    | cons x t => cases h), parse_text l 5000 [] hv (by omega)]
  rfl
theorem back_text (s : ByteArray) (l : List El) (h : parS s = (l, 0)) : fmS l = (s, 0) := by
  unfold parS at h
  by_cases h1 : (s.size : Int) > 4096
  · rw [if_pos h1] at h
    injection h with _ h2
    exact absurd h2 (by decide)
  rw [if_neg h1] at h
  by_cases h2 : bs s = []
  · rw [if_pos h2] at h
    injection h with _ h2
    exact absurd h2 (by decide)
  rw [if_neg h2] at h
  obtain ⟨l', e, hv, hf⟩ := text_back 5000 (bs s) [] l (by rw [bs_len]; omega) h
  rw [List.nil_append] at e
  subst e
  have ha : allS l = 0 := (allS_iff l).2 ⟨fun h3 => h2 (by rw [← hf, h3]; rfl), hv⟩
  rw [fmS_eq, if_pos ha, hf, if_neg (by rw [bs_len]; omega), mk_bs]
end Go.Proofs.YtghlbdemlmbijaaDoor.Q

/- The laws on characters: what is written is read back, what is read is written again. -/
namespace Go.Proofs.YtghlbdemlmbijaaDoor.Q
open Go.RowKit Go.Proofs.YtghlbdemlmbijaaDoorW.PrintWords Go.Proofs.YtghlbdemlmbijaaDoorW.PrintLast Go.Proofs.YtghlbdemlmbijaaDoorW.PrintMore
set_option linter.unusedVariables false
set_option linter.unusedSimpArgs false
theorem ints_app (s t : ByteArray) : ints (s ++ t) = ints s ++ ints t := by unfold ints; rw [bs_append, List.map_append]
theorem ints_mem {s : ByteArray} {y : Int} (h : y ∈ ints s) : 0 ≤ y ∧ y < 256 := by
  unfold ints at h
  obtain ⟨b, _, rfl⟩ := List.mem_map.1 h
  have := b.toNat_lt
  omega
theorem before_app (a b : List Int) (h : ∀ y ∈ a, y ≠ 256) : before (a ++ b) = a ++ before b := by
  unfold before
  induction a with
  | nil => rfl
  | cons y a ih =>
    have hy : (y != 256) = true := by simpa using h y (List.mem_cons_self ..)
    rw [List.cons_append, List.takeWhile_cons_of_pos (p := fun x : Int => x != 256) hy, ih fun z hz => h z (List.mem_cons_of_mem _ hz)]
    rfl
theorem runS_bs (C : List Int) : bs (runS C) = (before C).map fun x => UInt8.ofNat (x % 256).toNat := by
  unfold runS strOfNums
  rw [bs_mk, List.map_map]
  rfl
theorem ints_back (s : ByteArray) : (ints s).map (fun x => UInt8.ofNat (x % 256).toNat) = bs s := by
  unfold ints
  rw [List.map_map]
  conv => rhs; rw [← List.map_id (bs s)]
  apply List.map_congr_left
  intro b _
  show UInt8.ofNat (((b.toNat : Nat) : Int) % 256).toNat = b
  have := b.toNat_lt
  rw [show (((b.toNat : Nat) : Int) % 256).toNat = b.toNat by omega]
  simp
theorem runS_app (s : ByteArray) (R : List Int) : bs (runS (ints s ++ R)) = bs s ++ bs (runS R) := by
  rw [runS_bs, before_app _ _ (fun y hy => by have := ints_mem hy; omega), List.map_append, ints_back, runS_bs]
theorem runS_none : bs (runS []) = [] := rfl
theorem runS_sep (R : List Int) : bs (runS (256 :: R)) = [] := by
  rw [runS_bs]
  unfold before
  rw [List.takeWhile_cons_of_neg (by simp)]
  rfl
theorem pre_of {s : ByteArray} {a b : List UInt8} (h : bs s = a ++ b) (ht : (tableS a).1 ≠ 0) : preS s = a.length := by
  obtain ⟨_, h2, h4⟩ := tableS_dig a ht
  have hl : s.size = a.length + b.length := by rw [← bs_len, h, List.length_append]
  have no : ∀ n, n < a.length → okP s n = false := by
    intro n hn
    unfold okP
    rw [h, List.take_append_of_le_length (by omega), prefix_free a ht n hn]
    simp
  have yes : okP s a.length = true := by
    unfold okP
    rw [h, List.take_left, decide_eq_true ht, decide_eq_true (by omega)]
    rfl
  unfold preS
  rcases (show a.length = 2 ∨ a.length = 3 ∨ a.length = 4 by omega) with e | e | e
  · rw [e] at yes
    rw [if_pos (by omega), if_pos yes, e]
  · rw [e] at yes
    rw [if_pos (by omega), if_neg (by rw [no 2 (by omega)]; simp), if_pos (by omega), if_pos yes, e]
  · rw [e] at yes
    rw [if_pos (by omega), if_neg (by rw [no 2 (by omega)]; simp), if_pos (by omega), if_neg (by rw [no 3 (by omega)]; simp), if_pos (by omega), if_pos yes, e]
theorem ext_bs {s : ByteArray} {a b : List UInt8} (h : bs s = a ++ b) : bs (s.extract 0 a.length) = a ∧ bs (s.extract a.length s.size) = b := by
  have hl : s.size = a.length + b.length := by rw [← bs_len, h, List.length_append]
  refine ⟨?_, ?_⟩
  · rw [bs_extract, List.drop_zero, Nat.sub_zero, h, List.take_left]
  · rw [bs_extract, h, List.drop_left, List.take_of_length_le (by omega)]
/-- What is read at the beginning of the characters of a valid element and what follows. -/
theorem front {x : El} (hg : Good x) {R : List Int} (hR : fixE x = 0 → bs (runS R) = []) :
    rd (ints (x.f0 ++ x.f1) ++ R) 0 ≠ 256 ∧ preS (runS (ints (x.f0 ++ x.f1) ++ R)) = x.f0.size ∧ tbC (ints (x.f0 ++ x.f1) ++ R) = tableS (bs x.f0) ∧ fxC (ints (x.f0 ++ x.f1) ++ R) = fixE x ∧
    ¬ (fxC (ints (x.f0 ++ x.f1) ++ R) > 0 ∧ ((dat0 (ints (x.f0 ++ x.f1) ++ R)).size : Int) < fxC (ints (x.f0 ++ x.f1) ++ R)) ∧ dat (ints (x.f0 ++ x.f1) ++ R) = x.f1 ∧ elC (ints (x.f0 ++ x.f1) ++ R) = x ∧ restC (ints (x.f0 ++ x.f1) ++ R) = R := by
  have h2 := hg.two
  have hb : bs (runS (ints (x.f0 ++ x.f1) ++ R)) = bs x.f0 ++ (bs x.f1 ++ bs (runS R)) := by
    rw [runS_app, bs_append, List.append_assoc]
  have hp := pre_of hb hg.tb
  have hp2 : preS (runS (ints (x.f0 ++ x.f1) ++ R)) = x.f0.size := by rw [hp, bs_len]
  have hx := ext_bs hb
  have ht : tbC (ints (x.f0 ++ x.f1) ++ R) = tableS (bs x.f0) := by
    unfold tbC
    rw [hp, hb, List.take_left]
  have hfx : fxC (ints (x.f0 ++ x.f1) ++ R) = fixE x := by unfold fxC fixE; rw [ht]
  have hd0 : bs (dat0 (ints (x.f0 ++ x.f1) ++ R)) = bs x.f1 ++ bs (runS R) := by
    unfold dat0
    rw [hp]
    exact hx.2
  have hd0s : (dat0 (ints (x.f0 ++ x.f1) ++ R)).size = x.f1.size + (bs (runS R)).length := by rw [← bs_len, hd0, List.length_append, bs_len]
  have hd : dat (ints (x.f0 ++ x.f1) ++ R) = x.f1 := by
    apply bs_inj
    unfold dat
    rw [hfx]
    by_cases h : fixE x > 0
    · have hf := hg.fix h
      rw [if_pos h, bs_extract, List.drop_zero, Nat.sub_zero, hd0, show (fixE x).toNat = (bs x.f1).length by rw [bs_len]; omega, List.take_left]
    · have h0 : fixE x = 0 := by have := hg.low; omega
      rw [if_neg h, hd0, hR h0, List.append_nil]
  have he : elC (ints (x.f0 ++ x.f1) ++ R) = x := by
    unfold elC
    rw [hd, hp]
    have e : (runS (ints (x.f0 ++ x.f1) ++ R)).extract 0 (bs x.f0).length = x.f0 := bs_inj hx.1
    rw [e]
  have hr : restC (ints (x.f0 ++ x.f1) ++ R) = R := by
    unfold restC
    rw [hd, hp2]
    have e : x.f0.size + x.f1.size = (ints (x.f0 ++ x.f1)).length := by rw [ints_len, ByteArray.size_append]
    rw [e, List.drop_left]
  refine ⟨?_, hp2, ht, hfx, ?_, hd, he, hr⟩
  · have hl : 0 < (ints (x.f0 ++ x.f1)).length := by rw [ints_len, ByteArray.size_append]; omega
    have hl2 : 0 < (ints (x.f0 ++ x.f1) ++ R).length := by rw [List.length_append]; omega
    have h0 := rd_nat (ints (x.f0 ++ x.f1) ++ R) 0 hl2
    rw [List.getElem_append_left hl] at h0
    have hm := ints_mem (List.getElem_mem hl)
    rw [show ((0 : Nat) : Int) = 0 from rfl] at h0
    omega
  · rw [hfx, hd0s]
    intro h
    have := hg.fix h.1
    omega
theorem chL_pos {x : El} (hg : Good x) (t : List El) : chL (x :: t) ≠ [] := by
  intro h
  have := congrArg List.length h
  have h2 := hg.two
  simp only [chL, List.length_append, ints_len, ByteArray.size_append, List.length_nil] at this
  omega
theorem fc_chars (l : List El) : ∀ (n : Nat) (acc : List El), (∀ x ∈ l, Va x) → (chL l).length < n → fcR n (chL l) acc = (acc ++ l, 0) := by
  induction l with
  | nil =>
    intro n acc _ h
    obtain ⟨n, rfl⟩ : ∃ m, n = m + 1 := ⟨n - 1, by omega⟩
    unfold fcR
    rw [if_pos (show chL [] = [] from rfl), List.append_nil]
  | cons x t ih =>
    intro n acc hv h
    obtain ⟨n, rfl⟩ : ∃ m, n = m + 1 := ⟨n - 1, by omega⟩
    have hg := good_of (hv x (List.mem_cons_self ..))
    have hvt : ∀ y ∈ t, Va y := fun y hy => hv y (List.mem_cons_of_mem _ hy)
    have hne := chL_pos hg t
    have e0 : chL (x :: t) = ints (x.f0 ++ x.f1) ++ ((if fixE x = 0 ∧ t ≠ [] then [256] else []) ++ chL t) := rfl
    rw [e0] at h hne ⊢
    have hlen : (chL t).length < n := by
      have h2 := hg.two
      simp only [List.length_append, ints_len, ByteArray.size_append] at h
      omega
    have hF := front hg (R := (if fixE x = 0 ∧ t ≠ [] then [256] else []) ++ chL t) (fun h0 => by
      by_cases ht : t = []
      · subst ht
        rw [if_neg (fun h => h.2 rfl)]
        rfl
      · rw [if_pos ⟨h0, ht⟩]
        exact runS_sep _)
    obtain ⟨g1, g2, g3, g4, g5, g6, g7, g8⟩ := hF
    have h2 := hg.two
    unfold fcR
    rw [if_neg hne, if_neg g1, if_neg (by omega), if_neg g5, g3, g6, if_pos hg.ver, g4, g7, g8]
    by_cases hc : fixE x = 0 ∧ t ≠ []
    · rw [if_pos hc]
      have hct : chL t ≠ [] := by
        cases t with
        | nil => exact absurd rfl hc.2
        | cons y t => exact chL_pos (good_of (hvt y (List.mem_cons_self ..))) t
      rw [if_pos (show fixE x = 0 ∧ [256] ++ chL t ≠ [] from ⟨hc.1, by simp⟩)]
      rw [show (([256] : List Int) ++ chL t).drop 1 = chL t from rfl, if_neg hct, ih n _ hvt hlen]
      simp
    · rw [if_neg hc, List.nil_append]
      have hz : ¬ (fixE x = 0 ∧ chL t ≠ []) := by
        intro h3
        apply hc
        refine ⟨h3.1, fun h4 => h3.2 ?_⟩
        rw [h4]
        rfl
      rw [if_neg hz, ih n _ hvt hlen]
      simp
theorem chL_bad (l : List El) (hv : ∀ x ∈ l, Va x) : (chL l).any badChar = false := by
  induction l with
  | nil => rfl
  | cons x t ih =>
    have hg := good_of (hv x (List.mem_cons_self ..))
    have h1 : (ints (x.f0 ++ x.f1)).any badChar = false := by
      rw [List.any_eq_false]
      intro y hy
      unfold ints at hy
      obtain ⟨b, hb, rfl⟩ := List.mem_map.1 hy
      have hlt : b.toNat < 128 := by
        rw [bs_append] at hb
        rcases List.mem_append.1 hb with hb | hb
        · exact (hg.ai b hb).2
        · exact (hg.data b hb).2
      unfold badChar
      rw [decide_eq_false (show ¬ ((b.toNat : Nat) : Int) < 0 by omega), decide_eq_false (show ¬ ((b.toNat : Nat) : Int) > 127 by omega)]
      simp
    show (ints (x.f0 ++ x.f1) ++ ((if fixE x = 0 ∧ t ≠ [] then [256] else []) ++ chL t)).any badChar = false
    rw [List.any_append, h1, List.any_append, ih fun y hy => hv y (List.mem_cons_of_mem _ hy)]
    split <;> rfl
theorem chS_code {l : List El} {C : List Int} (hl : l.length < 4611686018427387904) (h : chS l = (C, 0)) : l ≠ [] ∧ (∀ x ∈ l, Va x) ∧ C = 256 :: chL l ∧ C.length ≤ 4096 := by
  rw [chS_eq l hl] at h
  by_cases ha : allS l = 0
  rotate_left
  · rw [if_neg ha] at h
    injection h with _ h2
    exact absurd h2 ha
  rw [if_pos ha] at h
  by_cases hs : (256 :: chL l).length > 4096
  · rw [if_pos hs] at h
    injection h with _ h2
    exact absurd h2 (by decide)
  rw [if_neg hs] at h
  injection h with h1 _
  obtain ⟨hn, hv⟩ := (allS_iff l).1 ha
  exact ⟨hn, hv, h1.symm, by rw [← h1]; omega⟩
theorem round_chars (l : List El) (C : List Int) (hl : l.length < 4611686018427387904) (h : chS l = (C, 0)) : fcS C = (l, 0) := by
  obtain ⟨hn, hv, rfl, hs⟩ := chS_code hl h
  have hne : chL l ≠ [] := by
    cases l with
    | nil => exact absurd rfl hn
    | cons x t => exact chL_pos (good_of (hv x (List.mem_cons_self ..))) t
  have hb : ((256 : Int) :: chL l).any badChar = false := by rw [List.any_cons, chL_bad l hv]; rfl
  have hp := List.length_pos_iff.2 hne
  unfold fcS fcT
  rw [if_neg (by omega), if_neg (by rw [hb]; simp), if_neg (by simp), if_neg (show ¬ rd (256 :: chL l) 0 ≠ 256 from fun h => h rfl), if_neg (by rw [List.length_cons]; omega)]
  rw [show ((256 : Int) :: chL l).drop 1 = chL l from rfl, fc_chars l 5000 [] hv (by rw [List.length_cons] at hs; omega)]
  rfl
/-! ### Back -/
theorem ints_mk (l : List Int) (h : ∀ c ∈ l, 0 ≤ c ∧ c < 256) : (l.map fun x => UInt8.ofNat (x % 256).toNat).map (fun b => (b.toNat : Int)) = l := by
  rw [List.map_map]
  conv => rhs; rw [← List.map_id l]
  apply List.map_congr_left
  intro c hc
  have := h c hc
  show ((UInt8.ofNat (c % 256).toNat).toNat : Int) = c
  rw [UInt8.toNat_ofNat']
  omega
theorem bad_bound {c : Int} (h : badChar c = false) (h2 : c ≠ 256) : 0 ≤ c ∧ c < 256 := by
  unfold badChar at h
  rw [bne_iff_ne.2 h2, Bool.true_and, Bool.or_eq_false_iff, decide_eq_false_iff_not, decide_eq_false_iff_not] at h
  omega
theorem before_mem {C : List Int} {c : Int} (h : c ∈ before C) : c ∈ C ∧ c ≠ 256 := by
  unfold before at h
  induction C with
  | nil => cases h
  | cons a C ih =>
    by_cases ha : a = 256
    · rw [List.takeWhile_cons_of_neg (by simpa using ha)] at h
      cases h
    · rw [List.takeWhile_cons_of_pos (by simpa using ha)] at h
      rcases List.mem_cons.1 h with rfl | h
      · exact ⟨List.mem_cons_self .., ha⟩
      · exact ⟨List.mem_cons_of_mem _ (ih h).1, (ih h).2⟩
theorem before_rest (C : List Int) : C.drop (before C).length = [] ∨ ∃ R, C.drop (before C).length = 256 :: R := by
  unfold before
  induction C with
  | nil => exact Or.inl rfl
  | cons a C ih =>
    by_cases ha : a = 256
    · rw [List.takeWhile_cons_of_neg (by simpa using ha)]
      exact Or.inr ⟨C, by rw [ha]; rfl⟩
    · rw [List.takeWhile_cons_of_pos (by simpa using ha)]
      exact ih
theorem take_before (C : List Int) (k : Nat) (h : k ≤ (before C).length) : (before C).take k = C.take k := by
  have e := congrArg (List.take k) (before_take C)
  rw [e, List.take_take, Nat.min_eq_left h]
theorem fc_back (n : Nat) : ∀ (C : List Int) (acc r : List El), C.length < n → (∀ c ∈ C, badChar c = false) → fcR n C acc = (r, 0) → ∃ l, r = acc ++ l ∧ (∀ x ∈ l, Va x) ∧ chL l = C := by
  induction n with
  | zero => intro C acc r h; omega
  | succ n ih =>
    intro C acc r h hb hp
    unfold fcR at hp
    by_cases h0 : C = []
    · rw [if_pos h0] at hp
      injection hp with h1 _
      exact ⟨[], by rw [← h1, List.append_nil], fun x hx => absurd hx (by simp), h0.symm⟩
    rw [if_neg h0] at hp
    by_cases h1 : rd C 0 = 256
    · rw [if_pos h1] at hp; injection hp with _ h2; exact absurd h2 (by decide)
    rw [if_neg h1] at hp
    by_cases h2 : preS (runS C) = 0
    · rw [if_pos h2] at hp; injection hp with _ h2; exact absurd h2 (by decide)
    rw [if_neg h2] at hp
    by_cases h3 : fxC C > 0 ∧ ((dat0 C).size : Int) < fxC C
    · rw [if_pos h3] at hp; injection hp with _ h2; exact absurd h2 (by decide)
    rw [if_neg h3] at hp
    by_cases h4 : verT (tbC C) (dat C) = 0
    rotate_left
    · rw [if_neg h4] at hp; injection hp with _ h2; exact absurd h2 h4
    rw [if_pos h4] at hp
    have hpl := preS_le (runS C)
    have htn := (hpl.2.2 h2).2
    have hp2 := (hpl.2.2 h2).1
    have hple := hpl.1
    have hrs := runS_size C
    have hbl := before_le C
    have hd0 := dat0_size C
    have hds := dat_size C
    have hf0 : bs (elC C).f0 = (bs (runS C)).take (preS (runS C)) := by
      show bs ((runS C).extract 0 _) = _
      rw [bs_extract, List.drop_zero, Nat.sub_zero]
    have hf0s : (elC C).f0.size = preS (runS C) := by
      clear htn
      rw [← bs_len, hf0, List.length_take, bs_len]; omega
    have hfx : fixE (elC C) = fxC C := by unfold fixE fxC tbC; rw [hf0]
    have hva : Va (elC C) := by
      unfold Va verS
      rw [hf0, if_neg htn]
      exact h4
    have hg := good_of hva
    clear htn
    -- the element's bytes are the first of the run
    have hdat : bs (elC C).f1 = ((bs (runS C)).drop (preS (runS C))).take (dat C).size := by
      have e0 : bs (dat0 C) = (bs (runS C)).drop (preS (runS C)) := by
        unfold dat0
        rw [bs_extract, List.take_of_length_le (by rw [List.length_drop, bs_len]; omega)]
      show bs (dat C) = _
      rw [← e0]
      by_cases h5 : fxC C > 0
      · have e1 : dat C = (dat0 C).extract 0 (fxC C).toNat := by unfold dat; rw [if_pos h5]
        have e2 : (dat C).size = (fxC C).toNat := by
          rw [e1, ByteArray.size_extract]
          have := fun h6 => h3 ⟨h5, h6⟩
          omega
        rw [e2, e1, bs_extract, List.drop_zero, Nat.sub_zero]
      · have e1 : dat C = dat0 C := by unfold dat; rw [if_neg h5]
        rw [e1, List.take_of_length_le (by rw [bs_len]; omega)]
    have hints : ints ((elC C).f0 ++ (elC C).f1) = C.take (preS (runS C) + (dat C).size) := by
      have e1 : bs ((elC C).f0 ++ (elC C).f1) = (bs (runS C)).take (preS (runS C) + (dat C).size) := by
        rw [bs_append, hf0, hdat, List.take_add]
      unfold ints
      rw [e1, List.map_take, runS_bs, ints_mk (before C) (fun c hc => bad_bound (hb c (before_mem hc).1) (before_mem hc).2)]
      exact take_before C _ (by omega)
    have hsplit : C = ints ((elC C).f0 ++ (elC C).f1) ++ restC C := by
      rw [hints]
      unfold restC
      rw [List.take_append_drop]
    have hrl : (restC C).length = C.length - (preS (runS C) + (dat C).size) := by unfold restC; rw [List.length_drop]
    have hrm : ∀ c ∈ restC C, badChar c = false := fun c hc => hb c (List.mem_of_mem_drop hc)
    have hpos := List.length_pos_iff.2 h0
    have fin : ∀ (D : List Int) (sep : List Int), restC C = sep ++ D → D.length < n → (∀ c ∈ D, badChar c = false) → fcR n D (acc ++ [elC C]) = (r, 0) →
        (∀ l', chL l' = D → (∀ x ∈ l', Va x) → (if fixE (elC C) = 0 ∧ l' ≠ [] then [256] else []) = sep) → ∃ l, r = acc ++ l ∧ (∀ x ∈ l, Va x) ∧ chL l = C := by
      intro D sep e1 e2 e3 e4 e5
      obtain ⟨l', k1, k2, k3⟩ := ih D _ r e2 e3 e4
      refine ⟨elC C :: l', by rw [k1]; simp, fun x hx => ?_, ?_⟩
      · rcases List.mem_cons.1 hx with rfl | hx
        · exact hva
        · exact k2 x hx
      · show ints _ ++ ((if fixE (elC C) = 0 ∧ l' ≠ [] then [256] else []) ++ chL l') = C
        rw [e5 l' k3 k2, k3, ← e1]
        exact hsplit.symm
    by_cases hc : fxC C = 0 ∧ restC C ≠ []
    · rw [if_pos hc] at hp
      have hdd : dat C = dat0 C := by unfold dat; rw [if_neg (by omega)]
      have hre : preS (runS C) + (dat C).size = (before C).length := by rw [hdd]; omega
      have hr2 : restC C = C.drop (before C).length := by unfold restC; rw [hre]
      obtain ⟨R, hR⟩ : ∃ R, restC C = 256 :: R := by
        rcases before_rest C with h5 | h5
        · exact absurd (hr2.trans h5) hc.2
        · rw [hr2]; exact h5
      have hdr : (restC C).drop 1 = R := by rw [hR]; rfl
      rw [hdr] at hp
      by_cases h6 : R = []
      · rw [if_pos h6] at hp; injection hp with _ h2; exact absurd h2 (by decide)
      rw [if_neg h6] at hp
      have hlen := congrArg List.length hR
      rw [List.length_cons] at hlen
      refine fin R [256] hR (by omega) (fun c hc2 => hrm c (by rw [hR]; exact List.mem_cons_of_mem _ hc2)) hp (fun l' k3 _ => ?_)
      rw [if_pos ⟨hfx.trans hc.1, fun h7 => h6 (by rw [← k3, h7]; rfl)⟩]
    · rw [if_neg hc] at hp
      refine fin (restC C) [] rfl (by omega) hrm hp (fun l' k3 kv => ?_)
      rw [if_neg]
      intro h7
      apply hc
      refine ⟨hfx.symm.trans h7.1, ?_⟩
      rw [← k3]
      cases l' with
      | nil => exact absurd rfl h7.2
      | cons y t => exact chL_pos (good_of (kv y (List.mem_cons_self ..))) t
theorem back_chars (C : List Int) (l : List El) (h : fcS C = (l, 0)) : chS l = (C, 0) ∧ l.length ≤ 5000 := by
  have hlen := fcS_len C
  rw [h] at hlen
  refine ⟨?_, hlen⟩
  unfold fcS fcT at h
  by_cases h1 : (C.length : Int) > 4096
  · rw [if_pos h1] at h; injection h with _ h2; exact absurd h2 (by decide)
  rw [if_neg h1] at h
  by_cases h2 : C.any badChar = true
  · rw [if_pos h2] at h; injection h with _ h2; exact absurd h2 (by decide)
  rw [if_neg h2] at h
  by_cases h3 : C.length = 0
  · rw [if_pos h3] at h; injection h with _ h2; exact absurd h2 (by decide)
  rw [if_neg h3] at h
  by_cases h4 : rd C 0 ≠ 256
  · rw [if_pos h4] at h; injection h with _ h2; exact absurd h2 (by decide)
  rw [if_neg h4] at h
  by_cases h5 : C.length = 1
  · rw [if_pos h5] at h; injection h with _ h2; exact absurd h2 (by decide)
  rw [if_neg h5] at h
  have hb : ∀ c ∈ C, badChar c = false := by
    intro c hc
    rcases hx : badChar c with _ | _
    · rfl
    · exact absurd (List.any_eq_true.2 ⟨c, hc, hx⟩) h2
  obtain ⟨D, rfl⟩ : ∃ D, C = 256 :: D := by
    cases C with
    | nil => exact absurd rfl h3
    | cons a D => exact ⟨D, by rw [show a = 256 from Classical.byContradiction fun h6 => h4 h6]⟩
  rw [show ((256 : Int) :: D).drop 1 = D from rfl] at h
  rw [List.length_cons] at h1 h5
  obtain ⟨l', e, hv, hf⟩ := fc_back 5000 D [] l (by omega) (fun c hc => hb c (List.mem_cons_of_mem _ hc)) h
  rw [List.nil_append] at e
  subst e
  have ha : allS l = 0 := (allS_iff l).2 ⟨fun h3 => by
    rw [h3] at hf
    rw [← hf] at h5
    exact h5 rfl, hv⟩
  rw [chS_eq l (by simp at hlen; omega), if_pos ha, hf, if_neg (by rw [List.length_cons]; omega)]
end Go.Proofs.YtghlbdemlmbijaaDoor.Q

namespace Go.Proofs.YtghlbdemlmbijaaDoor.Q
open Go.RowKit Go.Proofs.YtghlbdemlmbijaaDoorW.PrintWords Go.Proofs.YtghlbdemlmbijaaDoorW.PrintLast Go.Proofs.YtghlbdemlmbijaaDoorW.PrintMore

set_option linter.unusedVariables false
set_option linter.unusedSimpArgs false

/-! ### barscanlaw14_Gs1RoundTrip: function 3 -/
def barscanlaw14_Gs1RoundTrip.j0 : Nat → List (S38) → Option (Bool)
  | 0, _ => none
  | k + 1, x0 => (gs1_Chars.f k x0).bind fun bt239 => (if bt239.2 = 0 then ((gs1_FromChars.f k bt239.1).bind fun bt243 => (if bt243.2 = 0 then ((barscanlaw14_same.f k x0 bt243.1).bind fun t247 => (if t247 = true then ((barscanlaw14_examples.f k).bind fun t248 => (some t248)) else (some false))) else (some false))) else ((barscanlaw14_examples.f k).bind fun t249 => (some t249)))
def barscanlaw14_Gs1RoundTrip.f (k : Nat) (l0 : List (S38)) : Option (Bool) := (gs1_Format.f k l0).bind fun bt232 => (if bt232.2 = 0 then ((gs1_Parse.f k bt232.1).bind fun bt234 => (if bt234.2 = 0 then ((barscanlaw14_same.f k l0 bt234.1).bind fun t238 => (if t238 = true then (barscanlaw14_Gs1RoundTrip.j0 k l0) else (some false))) else (some false))) else (barscanlaw14_Gs1RoundTrip.j0 k l0))
theorem barscanlaw14_Gs1RoundTrip.mono_l : ∀ k, (∀ y0, LeO (barscanlaw14_Gs1RoundTrip.j0 k y0) (barscanlaw14_Gs1RoundTrip.j0 (k + 1) y0))
  | 0 => fun _ r h => by simp [barscanlaw14_Gs1RoundTrip.j0] at h
  | k + 1 => by
    have ih0 := barscanlaw14_Gs1RoundTrip.mono_l k
    · intro y0
      unfold barscanlaw14_Gs1RoundTrip.j0
      repeat' first
      | (with_reducible exact ih0 _)
      | (with_reducible exact barscanlaw14_examples.mono _)
      | (with_reducible exact barscanlaw14_same.mono _ _ _)
      | (with_reducible exact gs1_Chars.mono _ _)
      | (with_reducible exact gs1_Format.mono _ _)
      | (with_reducible exact gs1_FromChars.mono _ _)
      | (with_reducible exact gs1_Parse.mono _ _)
      | (with_reducible exact LeO.refl _)
      | (with_reducible exact LeO.none _)
      | (with_reducible refine LeO.ite ?_ ?_)
      | (with_reducible refine LeO.bind ?_ (fun _ => ?_))
      | exact ih0 _
      | exact barscanlaw14_examples.mono _
      | exact barscanlaw14_same.mono _ _ _
      | exact gs1_Chars.mono _ _
      | exact gs1_Format.mono _ _
      | exact gs1_FromChars.mono _ _
      | exact gs1_Parse.mono _ _
      | exact LeO.none _
      | refine LeO.ite ?_ ?_
      | refine LeO.bind ?_ (fun _ => ?_)
theorem barscanlaw14_Gs1RoundTrip.mono : ∀ a0 k, LeO (barscanlaw14_Gs1RoundTrip.f k a0) (barscanlaw14_Gs1RoundTrip.f (k + 1) a0) := by
  intro a0 k
  have ih0 := barscanlaw14_Gs1RoundTrip.mono_l k
  unfold barscanlaw14_Gs1RoundTrip.f
  repeat' first
      | (with_reducible exact ih0 _)
      | (with_reducible exact barscanlaw14_examples.mono _)
      | (with_reducible exact barscanlaw14_same.mono _ _ _)
      | (with_reducible exact gs1_Chars.mono _ _)
      | (with_reducible exact gs1_Format.mono _ _)
      | (with_reducible exact gs1_FromChars.mono _ _)
      | (with_reducible exact gs1_Parse.mono _ _)
      | (with_reducible exact LeO.refl _)
      | (with_reducible exact LeO.none _)
      | (with_reducible refine LeO.ite ?_ ?_)
      | (with_reducible refine LeO.bind ?_ (fun _ => ?_))
      | exact ih0 _
      | exact barscanlaw14_examples.mono _
      | exact barscanlaw14_same.mono _ _ _
      | exact gs1_Chars.mono _ _
      | exact gs1_Format.mono _ _
      | exact gs1_FromChars.mono _ _
      | exact gs1_Parse.mono _ _
      | exact LeO.none _
      | refine LeO.ite ?_ ?_
      | refine LeO.bind ?_ (fun _ => ?_)
set_option maxHeartbeats 8000000 in
set_option maxRecDepth 100000 in
theorem barscanlaw14_Gs1RoundTrip.calls (k : Nat) (A0 : Option Addr) (c0 : Nat) (l0 : List (S38)) (r : Bool) (w : World) (hT : Tabs w) (hr0 : Kd.C k38 w A0 l0.length l0) (hc0 : l0.length ≤ c0) (h : barscanlaw14_Gs1RoundTrip.f k l0 = some r) :
    Calls Tryd.prog 3 #[.slice A0 l0.length c0] w fun e w' => e = .returned (.bool r) ∧ Below w.heap.size w w' := by
  have HR0 := Aside0.mk hr0
  have HC0 := Aside0.mk hc0
  clear hr0 hc0
  have HT := Aside0.mk hT
  clear hT
  have HB := Aside0.mk (Below.refl w.heap.size w)
  have H : ((gs1_Format.f k l0).bind fun bt232 => (if bt232.2 = 0 then ((gs1_Parse.f k bt232.1).bind fun bt234 => (if bt234.2 = 0 then ((barscanlaw14_same.f k l0 bt234.1).bind fun t238 => (if t238 = true then (barscanlaw14_Gs1RoundTrip.j0 k l0) else (some false))) else (some false))) else (barscanlaw14_Gs1RoundTrip.j0 k l0))) = some r := h
  clear h
  replace H := Option.bind_eq_some_iff.mp H
  obtain ⟨⟨t232, t233⟩, A20, H⟩ := H
  replace H : (if t233 = 0 then ((gs1_Parse.f k t232).bind fun bt234 => (if bt234.2 = 0 then ((barscanlaw14_same.f k l0 bt234.1).bind fun t238 => (if t238 = true then (barscanlaw14_Gs1RoundTrip.j0 k l0) else (some false))) else (some false))) else (barscanlaw14_Gs1RoundTrip.j0 k l0)) = some r := H
  have A2 := Aside0.mk A20
  clear A20
  have HC3 := Aside0.mk H
  clear H
  go_enter Tryd.func3, Tryd.ntmps3
  go_upto_if 17 with (first | ((with_reducible refine gate_callee (f := 7) rfl ?_); refine goesL_ (some 13) rfl rfl Tryd.func7 (by kernel_rfl) rfl #[.slice A0 l0.length c0] rfl (by (try simp only [List.map_toArray, List.map_cons, List.map_nil]); first | done | rfl | (simp only [List.length_drop, List.length_take]; rfl)) ?_; (with_reducible refine (gs1_Format.calls k _ _ l0 t232 t233 _ ?side3 ?side1 ?side2 A2.out).mono ?_); (case side1 => repeat (first | exact HR0.out | (with_reducible refine Kd.C_alloc ?_ _) | (with_reducible refine Kd.C_drewN ?_ _) | (with_reducible refine Kd.C_drew ?_))); (case side2 => exact HC0.out); (case side3 => exact Tabs.below HT.out (by repeat (first | (with_reducible first | exact HB.out | apply below_alloc | apply pw_below_drewN | apply below_drew1) | exact HB.out))); rintro e w4 ⟨rfl, hb⟩; refine ⟨_, rfl, ?_⟩; have n0_ := Aside0.mk (below_step (by repeat (first | (with_reducible first | exact HB.out | apply below_alloc | apply pw_below_drewN | apply below_drew1) | exact HB.out)) hb); clear HB; have HB := n0_; clear n0_; (try clear hb); (try clear hb2); (try clear hk); (try clear hi)))
  (try simp only [Act.put, List.setIfInBounds_toArray, List.set_cons_zero, List.set_cons_succ])
  go_cut [] (fun wc => ∃ (kq : Nat), Aside0 (barscanlaw14_Gs1RoundTrip.j0 kq l0 = some r) ∧ Aside0 (kq ≤ k) ∧ Aside0 (Below w.heap.size w wc))
  case first =>
    have H := HC3.out
    clear HC3
    by_cases c5 : t233 = 0
    · rw [if_pos c5] at H
      have c5b0 : (t233 == 0) = true := beq_iff_eq.mpr c5
      have c5b1 : (t233 != 0) = false := bne_eq_false_iff_eq.mpr c5
      clear c5
      (first | rw [c5b0] | (simp only [i64_w]; rw [c5b0]) | skip)
      replace H := Option.bind_eq_some_iff.mp H
      obtain ⟨⟨t234, t235⟩, A60, H⟩ := H
      replace H : (if t235 = 0 then ((barscanlaw14_same.f k l0 t234).bind fun t238 => (if t238 = true then (barscanlaw14_Gs1RoundTrip.j0 k l0) else (some false))) else (some false)) = some r := H
      have A6 := Aside0.mk A60
      clear A60
      by_cases c7 : t235 = 0
      · rw [if_pos c7] at H
        have c7b0 : (t235 == 0) = true := beq_iff_eq.mpr c7
        have c7b1 : (t235 != 0) = false := bne_eq_false_iff_eq.mpr c7
        clear c7
        replace H := Option.bind_eq_some_iff.mp H
        obtain ⟨t238, A80, H⟩ := H
        replace H : (if t238 = true then (barscanlaw14_Gs1RoundTrip.j0 k l0) else (some false)) = some r := H
        have A8 := Aside0.mk A80
        clear A80
        by_cases c9 : t238 = true
        · subst c9
          have H1 : (barscanlaw14_Gs1RoundTrip.j0 k l0) = some r := by rw [if_pos rfl] at H; exact H
          clear H
          have H := H1
          clear H1
          have H' := Aside0.mk H
          clear H
          go_wp2_with (first | ((with_reducible refine gate_callee (f := 8) rfl ?_); refine goesL_ (some 20) rfl rfl Tryd.func8 (by kernel_rfl) rfl #[.string t232] rfl (by (try simp only [List.map_toArray, List.map_cons, List.map_nil]); first | done | rfl | (simp only [List.length_drop, List.length_take]; rfl)) ?_; (with_reducible refine (gs1_Parse.calls k t232 t234 t235 _ ?side1 A6.out).mono ?_); (case side1 => exact Tabs.below HT.out (by repeat (first | (with_reducible first | exact HB.out | apply below_alloc | apply pw_below_drewN | apply below_drew1) | exact HB.out))); rintro e w10 ⟨v236, rfl, ho0, hb⟩; refine ⟨_, rfl, ?_⟩; have n0_ := Aside0.mk (Kd.R_lower ho0 (below_size (by repeat (first | (with_reducible first | exact HB.out | apply below_alloc | apply pw_below_drewN | apply below_drew1) | exact HB.out)))); have n1_ := Aside0.mk (below_step (by repeat (first | (with_reducible first | exact HB.out | apply below_alloc | apply pw_below_drewN | apply below_drew1) | exact HB.out)) hb); clear HB; have HO237 := n0_; have HB := n1_; clear n0_ n1_; (try clear hb); (try clear hb2); (try clear hk); (try clear hi); (try clear ho0); obtain ⟨Ao11, co11, eo11⟩ := Kd.R_slice HO237.out; subst eo11) | (go_at_call 9; (with_reducible refine (barscanlaw14_same.calls k _ _ l0 _ _ t234 true _ ?side1 ?side2 ?side3 ?side4 A8.out).mono ?_); (case side1 => repeat (first | exact (Kd.C_below HR0.out HB.out) | (with_reducible refine Kd.C_alloc ?_ _) | (with_reducible refine Kd.C_drewN ?_ _) | (with_reducible refine Kd.C_drew ?_))); (case side2 => exact HC0.out); (case side3 => repeat (first | exact (Kd.R_reads' HO237.out).2.2 | (with_reducible refine Kd.C_alloc ?_ _) | (with_reducible refine Kd.C_drewN ?_ _) | (with_reducible refine Kd.C_drew ?_))); (case side4 => exact (Kd.R_reads' HO237.out).2.1); rintro e w' ⟨rfl, ⟨nd, rfl⟩⟩))
          go_meet
          case rel => exact ⟨_, H', ⟨by first | omega | exact Nat.le_refl _⟩, ⟨by repeat (first | (with_reducible first | exact HB.out | apply below_alloc | apply pw_below_drewN | apply below_drew1) | exact HB.out)⟩⟩
        · replace c9 := Bool.eq_false_iff.mpr c9
          subst c9
          have H1 : (some false) = some r := by rw [if_neg (show ¬ (false = true) by decide)] at H; exact H
          clear H
          have H := H1
          clear H1
          obtain rfl := Option.some.inj H
          go_wp2_with (first | ((with_reducible refine gate_callee (f := 8) rfl ?_); refine goesL_ (some 20) rfl rfl Tryd.func8 (by kernel_rfl) rfl #[.string t232] rfl (by (try simp only [List.map_toArray, List.map_cons, List.map_nil]); first | done | rfl | (simp only [List.length_drop, List.length_take]; rfl)) ?_; (with_reducible refine (gs1_Parse.calls k t232 t234 t235 _ ?side1 A6.out).mono ?_); (case side1 => exact Tabs.below HT.out (by repeat (first | (with_reducible first | exact HB.out | apply below_alloc | apply pw_below_drewN | apply below_drew1) | exact HB.out))); rintro e w12 ⟨v236, rfl, ho0, hb⟩; refine ⟨_, rfl, ?_⟩; have n0_ := Aside0.mk (Kd.R_lower ho0 (below_size (by repeat (first | (with_reducible first | exact HB.out | apply below_alloc | apply pw_below_drewN | apply below_drew1) | exact HB.out)))); have n1_ := Aside0.mk (below_step (by repeat (first | (with_reducible first | exact HB.out | apply below_alloc | apply pw_below_drewN | apply below_drew1) | exact HB.out)) hb); clear HB; have HO237 := n0_; have HB := n1_; clear n0_ n1_; (try clear hb); (try clear hb2); (try clear hk); (try clear hi); (try clear ho0); obtain ⟨Ao13, co13, eo13⟩ := Kd.R_slice HO237.out; subst eo13) | (go_at_call 9; (with_reducible refine (barscanlaw14_same.calls k _ _ l0 _ _ t234 false _ ?side1 ?side2 ?side3 ?side4 A8.out).mono ?_); (case side1 => repeat (first | exact (Kd.C_below HR0.out HB.out) | (with_reducible refine Kd.C_alloc ?_ _) | (with_reducible refine Kd.C_drewN ?_ _) | (with_reducible refine Kd.C_drew ?_))); (case side2 => exact HC0.out); (case side3 => repeat (first | exact (Kd.R_reads' HO237.out).2.2 | (with_reducible refine Kd.C_alloc ?_ _) | (with_reducible refine Kd.C_drewN ?_ _) | (with_reducible refine Kd.C_drew ?_))); (case side4 => exact (Kd.R_reads' HO237.out).2.1); rintro e w' ⟨rfl, ⟨nd, rfl⟩⟩))
          go_ret
          exact ⟨by first | rfl | (simp [errW_none, errW_some] <;> rfl) | (simp [*, errW_none, errW_some] <;> rfl), by repeat (first | (with_reducible first | exact HB.out | apply below_alloc | apply pw_below_drewN | apply below_drew1) | exact HB.out)⟩
      · rw [if_neg c7] at H
        have c7b0 : (t235 == 0) = false := beq_eq_false_iff_ne.mpr c7
        have c7b1 : (t235 != 0) = true := bne_iff_ne.mpr c7
        obtain rfl := Option.some.inj H
        go_wp2_with (first | ((with_reducible refine gate_callee (f := 8) rfl ?_); refine goesL_ (some 20) rfl rfl Tryd.func8 (by kernel_rfl) rfl #[.string t232] rfl (by (try simp only [List.map_toArray, List.map_cons, List.map_nil]); first | done | rfl | (simp only [List.length_drop, List.length_take]; rfl)) ?_; (with_reducible refine (gs1_Parse.calls k t232 t234 t235 _ ?side1 A6.out).mono ?_); (case side1 => exact Tabs.below HT.out (by repeat (first | (with_reducible first | exact HB.out | apply below_alloc | apply pw_below_drewN | apply below_drew1) | exact HB.out))); rintro e w14 ⟨v236, rfl, ho0, hb⟩; refine ⟨_, rfl, ?_⟩; have n0_ := Aside0.mk (Kd.R_lower ho0 (below_size (by repeat (first | (with_reducible first | exact HB.out | apply below_alloc | apply pw_below_drewN | apply below_drew1) | exact HB.out)))); have n1_ := Aside0.mk (below_step (by repeat (first | (with_reducible first | exact HB.out | apply below_alloc | apply pw_below_drewN | apply below_drew1) | exact HB.out)) hb); clear HB; have HO237 := n0_; have HB := n1_; clear n0_ n1_; (try clear hb); (try clear hb2); (try clear hk); (try clear hi); (try clear ho0)))
        go_ret
        exact ⟨by first | rfl | (simp [errW_none, errW_some] <;> rfl) | (simp [*, errW_none, errW_some] <;> rfl), by repeat (first | (with_reducible first | exact HB.out | apply below_alloc | apply pw_below_drewN | apply below_drew1) | exact HB.out)⟩
    · rw [if_neg c5] at H
      have c5b0 : (t233 == 0) = false := beq_eq_false_iff_ne.mpr c5
      have c5b1 : (t233 != 0) = true := bne_iff_ne.mpr c5
      (first | rw [c5b0] | (simp only [i64_w]; rw [c5b0]) | skip)
      have H' := Aside0.mk H
      clear H
      go_wp2
      go_meet
      case rel => exact ⟨_, H', ⟨by first | omega | exact Nat.le_refl _⟩, ⟨by repeat (first | (with_reducible first | exact HB.out | apply below_alloc | apply pw_below_drewN | apply below_drew1) | exact HB.out)⟩⟩
  case rest =>
    clear HC3
    try clear p2
    try clear c3
    try clear c5
    try clear c5b0
    try clear c5b1
    try clear c7
    try clear c7b0
    try clear c7b1
    try clear c8
    try clear c9
    obtain ⟨kq, HA, HJ2, HB⟩ := hcut
    cases kq with
    | zero => exact absurd HA.out (by simp [barscanlaw14_Gs1RoundTrip.j0])
    | succ kj2 =>
      have H := HA.out
      clear HA
      simp only [barscanlaw14_Gs1RoundTrip.j0] at H
      replace H := Option.bind_eq_some_iff.mp H
      obtain ⟨⟨t239, t240⟩, A150, H⟩ := H
      replace H : (if t240 = 0 then ((gs1_FromChars.f kj2 t239).bind fun bt243 => (if bt243.2 = 0 then ((barscanlaw14_same.f kj2 l0 bt243.1).bind fun t247 => (if t247 = true then ((barscanlaw14_examples.f kj2).bind fun t248 => (some t248)) else (some false))) else (some false))) else ((barscanlaw14_examples.f kj2).bind fun t249 => (some t249))) = some r := H
      have A15 := Aside0.mk A150
      clear A150
      by_cases c16 : t240 = 0
      · rw [if_pos c16] at H
        have c16b0 : (t240 == 0) = true := beq_iff_eq.mpr c16
        have c16b1 : (t240 != 0) = false := bne_eq_false_iff_eq.mpr c16
        clear c16
        replace H := Option.bind_eq_some_iff.mp H
        obtain ⟨⟨t243, t246⟩, A170, H⟩ := H
        replace H : (if t246 = 0 then ((barscanlaw14_same.f kj2 l0 t243).bind fun t247 => (if t247 = true then ((barscanlaw14_examples.f kj2).bind fun t248 => (some t248)) else (some false))) else (some false)) = some r := H
        have A17 := Aside0.mk A170
        clear A170
        by_cases c18 : t246 = 0
        · rw [if_pos c18] at H
          have c18b0 : (t246 == 0) = true := beq_iff_eq.mpr c18
          have c18b1 : (t246 != 0) = false := bne_eq_false_iff_eq.mpr c18
          clear c18
          replace H := Option.bind_eq_some_iff.mp H
          obtain ⟨t247, A190, H⟩ := H
          replace H : (if t247 = true then ((barscanlaw14_examples.f kj2).bind fun t248 => (some t248)) else (some false)) = some r := H
          have A19 := Aside0.mk A190
          clear A190
          by_cases c20 : t247 = true
          · subst c20
            have H1 : ((barscanlaw14_examples.f kj2).bind fun t248 => (some t248)) = some r := by rw [if_pos rfl] at H; exact H
            clear H
            have H := H1
            clear H1
            replace H := Option.bind_eq_some_iff.mp H
            obtain ⟨t248, A210, H⟩ := H
            replace H : (some t248) = some r := H
            have A21 := Aside0.mk A210
            clear A210
            obtain rfl := Option.some.inj H
            go_wp2_with (first | ((with_reducible refine gate_callee (f := 10) rfl ?_); refine goesL_ (some 33) rfl rfl Tryd.func10 (by kernel_rfl) rfl #[.slice A0 l0.length c0] rfl (by (try simp only [List.map_toArray, List.map_cons, List.map_nil]); first | done | rfl | (simp only [List.length_drop, List.length_take]; rfl)) ?_; (with_reducible refine (gs1_Chars.calls kj2 _ _ l0 t239 t240 _ ?side3 ?side1 ?side2 A15.out).mono ?_); (case side1 => repeat (first | exact (Kd.C_below HR0.out HB.out) | (with_reducible refine Kd.C_alloc ?_ _) | (with_reducible refine Kd.C_drewN ?_ _) | (with_reducible refine Kd.C_drew ?_))); (case side2 => exact HC0.out); (case side3 => exact Tabs.below HT.out (by repeat (first | (with_reducible first | exact HB.out | apply below_alloc | apply pw_below_drewN | apply below_drew1) | exact HB.out))); rintro e w22 ⟨v241, rfl, ho0, hb⟩; refine ⟨_, rfl, ?_⟩; have n0_ := Aside0.mk (Kd.R_lower ho0 (below_size (by repeat (first | (with_reducible first | exact HB.out | apply below_alloc | apply pw_below_drewN | apply below_drew1) | exact HB.out)))); have n1_ := Aside0.mk (below_step (by repeat (first | (with_reducible first | exact HB.out | apply below_alloc | apply pw_below_drewN | apply below_drew1) | exact HB.out)) hb); clear HB; have HO242 := n0_; have HB := n1_; clear n0_ n1_; (try clear hb); (try clear hb2); (try clear hk); (try clear hi); (try clear ho0); obtain ⟨Ao23, co23, eo23⟩ := Kd.R_slice HO242.out; subst eo23) | ((with_reducible refine gate_callee (f := 11) rfl ?_); refine goesL_ (some 40) rfl rfl Tryd.func11 (by kernel_rfl) rfl #[.slice Ao23 t239.length co23] rfl (by (try simp only [List.map_toArray, List.map_cons, List.map_nil]); first | done | rfl | (simp only [List.length_drop, List.length_take]; rfl)) ?_; (with_reducible refine (gs1_FromChars.calls kj2 (fun k_ => some k_ = (.slice Ao23 t239.length co23 : Value).ownBlock) _ _ t239 t243 t246 _ ?side2 ?side1 A17.out).mono ?_); (case side1 => exact Kd.R_V (Kd.R_tight rfl (HO242.out))); (case side2 => exact Tabs.below HT.out (by repeat (first | (with_reducible first | exact HB.out | apply below_alloc | apply pw_below_drewN | apply below_drew1) | exact HB.out))); rintro e w24 ⟨v244, rfl, ho0, hb⟩; refine ⟨_, rfl, ?_⟩; have n0_ := Aside0.mk (Kd.R_below (by (with_reducible repeat (first | apply Kd.R_alloc | apply Kd.R_drewN | apply Kd.R_drew)); exact HO242.out) hb); have n1_ := Aside0.mk (Kd.R_lower (Kd.R_mono (ok' := fun k_ => True) ho0 (fun _ hk_ => trivial)) (below_size (by repeat (first | (with_reducible first | exact HB.out | apply below_alloc | apply pw_below_drewN | apply below_drew1) | exact HB.out)))); have n2_ := Aside0.mk (below_step (by repeat (first | (with_reducible first | exact HB.out | apply below_alloc | apply pw_below_drewN | apply below_drew1) | exact HB.out)) hb); clear HO242; clear HB; have HO242 := n0_; have HO245 := n1_; have HB := n2_; clear n0_ n1_ n2_; (try clear hb); (try clear hb2); (try clear hk); (try clear hi); (try clear ho0); obtain ⟨Ao25, co25, eo25⟩ := Kd.R_slice HO245.out; subst eo25) | (go_at_call 9; (with_reducible refine (barscanlaw14_same.calls kj2 _ _ l0 _ _ t243 true _ ?side1 ?side2 ?side3 ?side4 A19.out).mono ?_); (case side1 => repeat (first | exact (Kd.C_below HR0.out HB.out) | (with_reducible refine Kd.C_alloc ?_ _) | (with_reducible refine Kd.C_drewN ?_ _) | (with_reducible refine Kd.C_drew ?_))); (case side2 => exact HC0.out); (case side3 => repeat (first | exact (Kd.R_reads' HO245.out).2.2 | (with_reducible refine Kd.C_alloc ?_ _) | (with_reducible refine Kd.C_drewN ?_ _) | (with_reducible refine Kd.C_drew ?_))); (case side4 => exact (Kd.R_reads' HO245.out).2.1); rintro e w' ⟨rfl, ⟨nd, rfl⟩⟩) | ((with_reducible refine gate_callee (f := 12) rfl ?_); refine goesL_ (some 51) rfl rfl Tryd.func12 (by kernel_rfl) rfl #[] rfl (by (try simp only [List.map_toArray, List.map_cons, List.map_nil]); first | done | rfl | (simp only [List.length_drop, List.length_take]; rfl)) ?_; (with_reducible refine (barscanlaw14_examples.calls kj2  t248 _ ?side1 A21.out).mono ?_); (case side1 => exact Tabs.below HT.out (by repeat (first | (with_reducible first | exact HB.out | apply below_alloc | apply pw_below_drewN | apply below_drew1) | exact HB.out))); rintro e w26 ⟨rfl, hb⟩; refine ⟨_, rfl, ?_⟩; have n0_ := Aside0.mk (Kd.R_below (by (with_reducible repeat (first | apply Kd.R_alloc | apply Kd.R_drewN | apply Kd.R_drew)); exact HO242.out) hb); have n1_ := Aside0.mk (Kd.R_below (by (with_reducible repeat (first | apply Kd.R_alloc | apply Kd.R_drewN | apply Kd.R_drew)); exact HO245.out) hb); have n2_ := Aside0.mk (below_step (by repeat (first | (with_reducible first | exact HB.out | apply below_alloc | apply pw_below_drewN | apply below_drew1) | exact HB.out)) hb); clear HO242; clear HO245; clear HB; have HO242 := n0_; have HO245 := n1_; have HB := n2_; clear n0_ n1_ n2_; (try clear hb); (try clear hb2); (try clear hk); (try clear hi)))
            go_ret
            exact ⟨by first | rfl | (simp [errW_none, errW_some] <;> rfl) | (simp [*, errW_none, errW_some] <;> rfl), by repeat (first | (with_reducible first | exact HB.out | apply below_alloc | apply pw_below_drewN | apply below_drew1) | exact HB.out)⟩
          · replace c20 := Bool.eq_false_iff.mpr c20
            subst c20
            have H1 : (some false) = some r := by rw [if_neg (show ¬ (false = true) by decide)] at H; exact H
            clear H
            have H := H1
            clear H1
            obtain rfl := Option.some.inj H
            go_wp2_with (first | ((with_reducible refine gate_callee (f := 10) rfl ?_); refine goesL_ (some 33) rfl rfl Tryd.func10 (by kernel_rfl) rfl #[.slice A0 l0.length c0] rfl (by (try simp only [List.map_toArray, List.map_cons, List.map_nil]); first | done | rfl | (simp only [List.length_drop, List.length_take]; rfl)) ?_; (with_reducible refine (gs1_Chars.calls kj2 _ _ l0 t239 t240 _ ?side3 ?side1 ?side2 A15.out).mono ?_); (case side1 => repeat (first | exact (Kd.C_below HR0.out HB.out) | (with_reducible refine Kd.C_alloc ?_ _) | (with_reducible refine Kd.C_drewN ?_ _) | (with_reducible refine Kd.C_drew ?_))); (case side2 => exact HC0.out); (case side3 => exact Tabs.below HT.out (by repeat (first | (with_reducible first | exact HB.out | apply below_alloc | apply pw_below_drewN | apply below_drew1) | exact HB.out))); rintro e w27 ⟨v241, rfl, ho0, hb⟩; refine ⟨_, rfl, ?_⟩; have n0_ := Aside0.mk (Kd.R_lower ho0 (below_size (by repeat (first | (with_reducible first | exact HB.out | apply below_alloc | apply pw_below_drewN | apply below_drew1) | exact HB.out)))); have n1_ := Aside0.mk (below_step (by repeat (first | (with_reducible first | exact HB.out | apply below_alloc | apply pw_below_drewN | apply below_drew1) | exact HB.out)) hb); clear HB; have HO242 := n0_; have HB := n1_; clear n0_ n1_; (try clear hb); (try clear hb2); (try clear hk); (try clear hi); (try clear ho0); obtain ⟨Ao28, co28, eo28⟩ := Kd.R_slice HO242.out; subst eo28) | ((with_reducible refine gate_callee (f := 11) rfl ?_); refine goesL_ (some 40) rfl rfl Tryd.func11 (by kernel_rfl) rfl #[.slice Ao28 t239.length co28] rfl (by (try simp only [List.map_toArray, List.map_cons, List.map_nil]); first | done | rfl | (simp only [List.length_drop, List.length_take]; rfl)) ?_; (with_reducible refine (gs1_FromChars.calls kj2 (fun k_ => some k_ = (.slice Ao28 t239.length co28 : Value).ownBlock) _ _ t239 t243 t246 _ ?side2 ?side1 A17.out).mono ?_); (case side1 => exact Kd.R_V (Kd.R_tight rfl (HO242.out))); (case side2 => exact Tabs.below HT.out (by repeat (first | (with_reducible first | exact HB.out | apply below_alloc | apply pw_below_drewN | apply below_drew1) | exact HB.out))); rintro e w29 ⟨v244, rfl, ho0, hb⟩; refine ⟨_, rfl, ?_⟩; have n0_ := Aside0.mk (Kd.R_below (by (with_reducible repeat (first | apply Kd.R_alloc | apply Kd.R_drewN | apply Kd.R_drew)); exact HO242.out) hb); have n1_ := Aside0.mk (Kd.R_lower (Kd.R_mono (ok' := fun k_ => True) ho0 (fun _ hk_ => trivial)) (below_size (by repeat (first | (with_reducible first | exact HB.out | apply below_alloc | apply pw_below_drewN | apply below_drew1) | exact HB.out)))); have n2_ := Aside0.mk (below_step (by repeat (first | (with_reducible first | exact HB.out | apply below_alloc | apply pw_below_drewN | apply below_drew1) | exact HB.out)) hb); clear HO242; clear HB; have HO242 := n0_; have HO245 := n1_; have HB := n2_; clear n0_ n1_ n2_; (try clear hb); (try clear hb2); (try clear hk); (try clear hi); (try clear ho0); obtain ⟨Ao30, co30, eo30⟩ := Kd.R_slice HO245.out; subst eo30) | (go_at_call 9; (with_reducible refine (barscanlaw14_same.calls kj2 _ _ l0 _ _ t243 false _ ?side1 ?side2 ?side3 ?side4 A19.out).mono ?_); (case side1 => repeat (first | exact (Kd.C_below HR0.out HB.out) | (with_reducible refine Kd.C_alloc ?_ _) | (with_reducible refine Kd.C_drewN ?_ _) | (with_reducible refine Kd.C_drew ?_))); (case side2 => exact HC0.out); (case side3 => repeat (first | exact (Kd.R_reads' HO245.out).2.2 | (with_reducible refine Kd.C_alloc ?_ _) | (with_reducible refine Kd.C_drewN ?_ _) | (with_reducible refine Kd.C_drew ?_))); (case side4 => exact (Kd.R_reads' HO245.out).2.1); rintro e w' ⟨rfl, ⟨nd, rfl⟩⟩))
            go_ret
            exact ⟨by first | rfl | (simp [errW_none, errW_some] <;> rfl) | (simp [*, errW_none, errW_some] <;> rfl), by repeat (first | (with_reducible first | exact HB.out | apply below_alloc | apply pw_below_drewN | apply below_drew1) | exact HB.out)⟩
        · rw [if_neg c18] at H
          have c18b0 : (t246 == 0) = false := beq_eq_false_iff_ne.mpr c18
          have c18b1 : (t246 != 0) = true := bne_iff_ne.mpr c18
          obtain rfl := Option.some.inj H
          go_wp2_with (first | ((with_reducible refine gate_callee (f := 10) rfl ?_); refine goesL_ (some 33) rfl rfl Tryd.func10 (by kernel_rfl) rfl #[.slice A0 l0.length c0] rfl (by (try simp only [List.map_toArray, List.map_cons, List.map_nil]); first | done | rfl | (simp only [List.length_drop, List.length_take]; rfl)) ?_; (with_reducible refine (gs1_Chars.calls kj2 _ _ l0 t239 t240 _ ?side3 ?side1 ?side2 A15.out).mono ?_); (case side1 => repeat (first | exact (Kd.C_below HR0.out HB.out) | (with_reducible refine Kd.C_alloc ?_ _) | (with_reducible refine Kd.C_drewN ?_ _) | (with_reducible refine Kd.C_drew ?_))); (case side2 => exact HC0.out); (case side3 => exact Tabs.below HT.out (by repeat (first | (with_reducible first | exact HB.out | apply below_alloc | apply pw_below_drewN | apply below_drew1) | exact HB.out))); rintro e w31 ⟨v241, rfl, ho0, hb⟩; refine ⟨_, rfl, ?_⟩; have n0_ := Aside0.mk (Kd.R_lower ho0 (below_size (by repeat (first | (with_reducible first | exact HB.out | apply below_alloc | apply pw_below_drewN | apply below_drew1) | exact HB.out)))); have n1_ := Aside0.mk (below_step (by repeat (first | (with_reducible first | exact HB.out | apply below_alloc | apply pw_below_drewN | apply below_drew1) | exact HB.out)) hb); clear HB; have HO242 := n0_; have HB := n1_; clear n0_ n1_; (try clear hb); (try clear hb2); (try clear hk); (try clear hi); (try clear ho0); obtain ⟨Ao32, co32, eo32⟩ := Kd.R_slice HO242.out; subst eo32) | ((with_reducible refine gate_callee (f := 11) rfl ?_); refine goesL_ (some 40) rfl rfl Tryd.func11 (by kernel_rfl) rfl #[.slice Ao32 t239.length co32] rfl (by (try simp only [List.map_toArray, List.map_cons, List.map_nil]); first | done | rfl | (simp only [List.length_drop, List.length_take]; rfl)) ?_; (with_reducible refine (gs1_FromChars.calls kj2 (fun k_ => some k_ = (.slice Ao32 t239.length co32 : Value).ownBlock) _ _ t239 t243 t246 _ ?side2 ?side1 A17.out).mono ?_); (case side1 => exact Kd.R_V (Kd.R_tight rfl (HO242.out))); (case side2 => exact Tabs.below HT.out (by repeat (first | (with_reducible first | exact HB.out | apply below_alloc | apply pw_below_drewN | apply below_drew1) | exact HB.out))); rintro e w33 ⟨v244, rfl, ho0, hb⟩; refine ⟨_, rfl, ?_⟩; have n0_ := Aside0.mk (Kd.R_below (by (with_reducible repeat (first | apply Kd.R_alloc | apply Kd.R_drewN | apply Kd.R_drew)); exact HO242.out) hb); have n1_ := Aside0.mk (Kd.R_lower (Kd.R_mono (ok' := fun k_ => True) ho0 (fun _ hk_ => trivial)) (below_size (by repeat (first | (with_reducible first | exact HB.out | apply below_alloc | apply pw_below_drewN | apply below_drew1) | exact HB.out)))); have n2_ := Aside0.mk (below_step (by repeat (first | (with_reducible first | exact HB.out | apply below_alloc | apply pw_below_drewN | apply below_drew1) | exact HB.out)) hb); clear HO242; clear HB; have HO242 := n0_; have HO245 := n1_; have HB := n2_; clear n0_ n1_ n2_; (try clear hb); (try clear hb2); (try clear hk); (try clear hi); (try clear ho0)))
          go_ret
          exact ⟨by first | rfl | (simp [errW_none, errW_some] <;> rfl) | (simp [*, errW_none, errW_some] <;> rfl), by repeat (first | (with_reducible first | exact HB.out | apply below_alloc | apply pw_below_drewN | apply below_drew1) | exact HB.out)⟩
      · rw [if_neg c16] at H
        have c16b0 : (t240 == 0) = false := beq_eq_false_iff_ne.mpr c16
        have c16b1 : (t240 != 0) = true := bne_iff_ne.mpr c16
        replace H := Option.bind_eq_some_iff.mp H
        obtain ⟨t249, A340, H⟩ := H
        replace H : (some t249) = some r := H
        have A34 := Aside0.mk A340
        clear A340
        obtain rfl := Option.some.inj H
        go_wp2_with (first | ((with_reducible refine gate_callee (f := 10) rfl ?_); refine goesL_ (some 33) rfl rfl Tryd.func10 (by kernel_rfl) rfl #[.slice A0 l0.length c0] rfl (by (try simp only [List.map_toArray, List.map_cons, List.map_nil]); first | done | rfl | (simp only [List.length_drop, List.length_take]; rfl)) ?_; (with_reducible refine (gs1_Chars.calls kj2 _ _ l0 t239 t240 _ ?side3 ?side1 ?side2 A15.out).mono ?_); (case side1 => repeat (first | exact (Kd.C_below HR0.out HB.out) | (with_reducible refine Kd.C_alloc ?_ _) | (with_reducible refine Kd.C_drewN ?_ _) | (with_reducible refine Kd.C_drew ?_))); (case side2 => exact HC0.out); (case side3 => exact Tabs.below HT.out (by repeat (first | (with_reducible first | exact HB.out | apply below_alloc | apply pw_below_drewN | apply below_drew1) | exact HB.out))); rintro e w35 ⟨v241, rfl, ho0, hb⟩; refine ⟨_, rfl, ?_⟩; have n0_ := Aside0.mk (Kd.R_lower ho0 (below_size (by repeat (first | (with_reducible first | exact HB.out | apply below_alloc | apply pw_below_drewN | apply below_drew1) | exact HB.out)))); have n1_ := Aside0.mk (below_step (by repeat (first | (with_reducible first | exact HB.out | apply below_alloc | apply pw_below_drewN | apply below_drew1) | exact HB.out)) hb); clear HB; have HO242 := n0_; have HB := n1_; clear n0_ n1_; (try clear hb); (try clear hb2); (try clear hk); (try clear hi); (try clear ho0)) | ((with_reducible refine gate_callee (f := 12) rfl ?_); refine goesL_ (some 51) rfl rfl Tryd.func12 (by kernel_rfl) rfl #[] rfl (by (try simp only [List.map_toArray, List.map_cons, List.map_nil]); first | done | rfl | (simp only [List.length_drop, List.length_take]; rfl)) ?_; (with_reducible refine (barscanlaw14_examples.calls kj2  t249 _ ?side1 A34.out).mono ?_); (case side1 => exact Tabs.below HT.out (by repeat (first | (with_reducible first | exact HB.out | apply below_alloc | apply pw_below_drewN | apply below_drew1) | exact HB.out))); rintro e w36 ⟨rfl, hb⟩; refine ⟨_, rfl, ?_⟩; have n0_ := Aside0.mk (Kd.R_below (by (with_reducible repeat (first | apply Kd.R_alloc | apply Kd.R_drewN | apply Kd.R_drew)); exact HO242.out) hb); have n1_ := Aside0.mk (below_step (by repeat (first | (with_reducible first | exact HB.out | apply below_alloc | apply pw_below_drewN | apply below_drew1) | exact HB.out)) hb); clear HO242; clear HB; have HO242 := n0_; have HB := n1_; clear n0_ n1_; (try clear hb); (try clear hb2); (try clear hk); (try clear hi)))
        go_ret
        exact ⟨by first | rfl | (simp [errW_none, errW_some] <;> rfl) | (simp [*, errW_none, errW_some] <;> rfl), by repeat (first | (with_reducible first | exact HB.out | apply below_alloc | apply pw_below_drewN | apply below_drew1) | exact HB.out)⟩

end Go.Proofs.YtghlbdemlmbijaaDoor.Q

namespace Go.Proofs.YtghlbdemlmbijaaDoor.Q
open Go.RowKit Go.Proofs.YtghlbdemlmbijaaDoorW.PrintWords Go.Proofs.YtghlbdemlmbijaaDoorW.PrintLast Go.Proofs.YtghlbdemlmbijaaDoorW.PrintMore

set_option linter.unusedVariables false
set_option linter.unusedSimpArgs false

/-! ### barscanlaw14_equal: function 13 -/
def barscanlaw14_equal.f (k : Nat) (l0 : List Int) (l1 : List Int) : Option (Bool) := (barscanref14_Equal.f k l0 l1).bind fun t252 => (some t252)
theorem barscanlaw14_equal.mono : ∀ a0 a1 k, LeO (barscanlaw14_equal.f k a0 a1) (barscanlaw14_equal.f (k + 1) a0 a1) := by
  intro a0 a1 k
  unfold barscanlaw14_equal.f
  repeat' first
      | (with_reducible exact barscanref14_Equal.mono _ _ _)
      | (with_reducible exact LeO.refl _)
      | (with_reducible exact LeO.none _)
      | (with_reducible refine LeO.ite ?_ ?_)
      | (with_reducible refine LeO.bind ?_ (fun _ => ?_))
      | exact barscanref14_Equal.mono _ _ _
      | exact LeO.none _
      | refine LeO.ite ?_ ?_
      | refine LeO.bind ?_ (fun _ => ?_)
set_option maxHeartbeats 8000000 in
set_option maxRecDepth 100000 in
theorem barscanlaw14_equal.calls (k : Nat) (A0 : Option Addr) (c0 : Nat) (l0 : List Int) (A1 : Option Addr) (c1 : Nat) (l1 : List Int) (r : Bool) (w : World) (hr0 : Kd.C (Kd.int .i64) w A0 l0.length l0) (hc0 : l0.length ≤ c0) (hr1 : Kd.C (Kd.int .i64) w A1 l1.length l1) (hc1 : l1.length ≤ c1) (h : barscanlaw14_equal.f k l0 l1 = some r) :
    Calls Tryd.prog 13 #[.slice A0 l0.length c0, .slice A1 l1.length c1] w fun e w' => e = .returned (.bool r) ∧ Drawn0 w w' := by
  have HR0 := Aside0.mk hr0
  have HC0 := Aside0.mk hc0
  clear hr0 hc0
  have HR1 := Aside0.mk hr1
  have HC1 := Aside0.mk hc1
  clear hr1 hc1
  have H : ((barscanref14_Equal.f k l0 l1).bind fun t252 => (some t252)) = some r := h
  clear h
  replace H := Option.bind_eq_some_iff.mp H
  obtain ⟨t252, A30, H⟩ := H
  replace H : (some t252) = some r := H
  have A3 := Aside0.mk A30
  clear A30
  obtain rfl := Option.some.inj H
  go_enter Tryd.func13, Tryd.ntmps13
  go_wp2_with (first | ((with_reducible refine gate_callee (f := 28) rfl ?_); refine goesL_ (some 7) rfl rfl Tryd.func28 (by kernel_rfl) rfl #[.slice A0 l0.length c0, .slice A1 l1.length c1] rfl (by (try simp only [List.map_toArray, List.map_cons, List.map_nil]); first | done | rfl | (simp only [List.length_drop, List.length_take]; rfl)) ?_; (with_reducible refine (barscanref14_Equal.calls k _ _ l0 _ _ l1 t252 _ ?side1 ?side2 ?side3 ?side4 A3.out).mono ?_); (case side1 => repeat (first | exact HR0.out | (with_reducible refine Kd.C_alloc ?_ _) | (with_reducible refine Kd.C_drewN ?_ _) | (with_reducible refine Kd.C_drew ?_))); (case side2 => exact HC0.out); (case side3 => repeat (first | exact HR1.out | (with_reducible refine Kd.C_alloc ?_ _) | (with_reducible refine Kd.C_drewN ?_ _) | (with_reducible refine Kd.C_drew ?_))); (case side4 => exact HC1.out); rintro e w' ⟨rfl, ⟨nd, rfl⟩⟩; refine ⟨_, rfl, ?_⟩))
  go_ret
  exact ⟨by first | rfl | (simp; done) | (simp [*]; done), by repeat (first | exact Drawn0.refl _ | apply Drawn0.step)⟩

end Go.Proofs.YtghlbdemlmbijaaDoor.Q

namespace Go.Proofs.YtghlbdemlmbijaaDoor.Q
open Go.RowKit Go.Proofs.YtghlbdemlmbijaaDoorW.PrintWords Go.Proofs.YtghlbdemlmbijaaDoorW.PrintLast Go.Proofs.YtghlbdemlmbijaaDoorW.PrintMore

set_option linter.unusedVariables false
set_option linter.unusedSimpArgs false

/-! ### barscanlaw14_Gs1Canonical: function 4 -/
def barscanlaw14_Gs1Canonical.j0 : Nat → List Int → Option (Bool)
  | 0, _ => none
  | k + 1, x1 => (gs1_FromChars.f k x1).bind fun bt259 => (if bt259.2 = 0 then ((gs1_Chars.f k bt259.1).bind fun bt263 => (if bt263.2 = 0 then ((barscanlaw14_equal.f k bt263.1 x1).bind fun t267 => (if t267 = true then ((barscanlaw14_examples.f k).bind fun t268 => (some t268)) else (some false))) else (some false))) else ((barscanlaw14_examples.f k).bind fun t269 => (some t269)))
def barscanlaw14_Gs1Canonical.f (k : Nat) (a0 : ByteArray) (l1 : List Int) : Option (Bool) := (gs1_Parse.f k a0).bind fun bt253 => (if bt253.2 = 0 then ((gs1_Format.f k bt253.1).bind fun bt257 => (if bt257.2 = 0 then (if bt257.1.toList = a0.toList then (barscanlaw14_Gs1Canonical.j0 k l1) else (some false)) else (some false))) else (barscanlaw14_Gs1Canonical.j0 k l1))
theorem barscanlaw14_Gs1Canonical.mono_l : ∀ k, (∀ y0, LeO (barscanlaw14_Gs1Canonical.j0 k y0) (barscanlaw14_Gs1Canonical.j0 (k + 1) y0))
  | 0 => fun _ r h => by simp [barscanlaw14_Gs1Canonical.j0] at h
  | k + 1 => by
    have ih0 := barscanlaw14_Gs1Canonical.mono_l k
    · intro y0
      unfold barscanlaw14_Gs1Canonical.j0
      repeat' first
      | (with_reducible exact ih0 _)
      | (with_reducible exact barscanlaw14_equal.mono _ _ _)
      | (with_reducible exact barscanlaw14_examples.mono _)
      | (with_reducible exact gs1_Chars.mono _ _)
      | (with_reducible exact gs1_Format.mono _ _)
      | (with_reducible exact gs1_FromChars.mono _ _)
      | (with_reducible exact gs1_Parse.mono _ _)
      | (with_reducible exact LeO.refl _)
      | (with_reducible exact LeO.none _)
      | (with_reducible refine LeO.ite ?_ ?_)
      | (with_reducible refine LeO.bind ?_ (fun _ => ?_))
      | exact ih0 _
      | exact barscanlaw14_equal.mono _ _ _
      | exact barscanlaw14_examples.mono _
      | exact gs1_Chars.mono _ _
      | exact gs1_Format.mono _ _
      | exact gs1_FromChars.mono _ _
      | exact gs1_Parse.mono _ _
      | exact LeO.none _
      | refine LeO.ite ?_ ?_
      | refine LeO.bind ?_ (fun _ => ?_)
theorem barscanlaw14_Gs1Canonical.mono : ∀ a0 a1 k, LeO (barscanlaw14_Gs1Canonical.f k a0 a1) (barscanlaw14_Gs1Canonical.f (k + 1) a0 a1) := by
  intro a0 a1 k
  have ih0 := barscanlaw14_Gs1Canonical.mono_l k
  unfold barscanlaw14_Gs1Canonical.f
  repeat' first
      | (with_reducible exact ih0 _)
      | (with_reducible exact barscanlaw14_equal.mono _ _ _)
      | (with_reducible exact barscanlaw14_examples.mono _)
      | (with_reducible exact gs1_Chars.mono _ _)
      | (with_reducible exact gs1_Format.mono _ _)
      | (with_reducible exact gs1_FromChars.mono _ _)
      | (with_reducible exact gs1_Parse.mono _ _)
      | (with_reducible exact LeO.refl _)
      | (with_reducible exact LeO.none _)
      | (with_reducible refine LeO.ite ?_ ?_)
      | (with_reducible refine LeO.bind ?_ (fun _ => ?_))
      | exact ih0 _
      | exact barscanlaw14_equal.mono _ _ _
      | exact barscanlaw14_examples.mono _
      | exact gs1_Chars.mono _ _
      | exact gs1_Format.mono _ _
      | exact gs1_FromChars.mono _ _
      | exact gs1_Parse.mono _ _
      | exact LeO.none _
      | refine LeO.ite ?_ ?_
      | refine LeO.bind ?_ (fun _ => ?_)
set_option maxHeartbeats 8000000 in
set_option maxRecDepth 100000 in
theorem barscanlaw14_Gs1Canonical.calls (k : Nat) (a0 : ByteArray) (A1 : Option Addr) (c1 : Nat) (l1 : List Int) (r : Bool) (w : World) (hT : Tabs w) (hr1 : Kd.C (Kd.int .i64) w A1 l1.length l1) (hc1 : l1.length ≤ c1) (h : barscanlaw14_Gs1Canonical.f k a0 l1 = some r) :
    Calls Tryd.prog 4 #[.string a0, .slice A1 l1.length c1] w fun e w' => e = .returned (.bool r) ∧ Below w.heap.size w w' := by
  have HR1 := Aside0.mk hr1
  have HC1 := Aside0.mk hc1
  clear hr1 hc1
  have HT := Aside0.mk hT
  clear hT
  have HB := Aside0.mk (Below.refl w.heap.size w)
  have H : ((gs1_Parse.f k a0).bind fun bt253 => (if bt253.2 = 0 then ((gs1_Format.f k bt253.1).bind fun bt257 => (if bt257.2 = 0 then (if bt257.1.toList = a0.toList then (barscanlaw14_Gs1Canonical.j0 k l1) else (some false)) else (some false))) else (barscanlaw14_Gs1Canonical.j0 k l1))) = some r := h
  clear h
  replace H := Option.bind_eq_some_iff.mp H
  obtain ⟨⟨t253, t254⟩, A30, H⟩ := H
  replace H : (if t254 = 0 then ((gs1_Format.f k t253).bind fun bt257 => (if bt257.2 = 0 then (if bt257.1.toList = a0.toList then (barscanlaw14_Gs1Canonical.j0 k l1) else (some false)) else (some false))) else (barscanlaw14_Gs1Canonical.j0 k l1)) = some r := H
  have A3 := Aside0.mk A30
  clear A30
  have HC4 := Aside0.mk H
  clear H
  go_enter Tryd.func4, Tryd.ntmps4
  go_upto_if 19 with (first | ((with_reducible refine gate_callee (f := 8) rfl ?_); refine goesL_ (some 15) rfl rfl Tryd.func8 (by kernel_rfl) rfl #[.string a0] rfl (by (try simp only [List.map_toArray, List.map_cons, List.map_nil]); first | done | rfl | (simp only [List.length_drop, List.length_take]; rfl)) ?_; (with_reducible refine (gs1_Parse.calls k a0 t253 t254 _ ?side1 A3.out).mono ?_); (case side1 => exact Tabs.below HT.out (by repeat (first | (with_reducible first | exact HB.out | apply below_alloc | apply pw_below_drewN | apply below_drew1) | exact HB.out))); rintro e w5 ⟨v255, rfl, ho0, hb⟩; refine ⟨_, rfl, ?_⟩; have n0_ := Aside0.mk (Kd.R_lower ho0 (below_size (by repeat (first | (with_reducible first | exact HB.out | apply below_alloc | apply pw_below_drewN | apply below_drew1) | exact HB.out)))); have n1_ := Aside0.mk (below_step (by repeat (first | (with_reducible first | exact HB.out | apply below_alloc | apply pw_below_drewN | apply below_drew1) | exact HB.out)) hb); clear HB; have HO256 := n0_; have HB := n1_; clear n0_ n1_; (try clear hb); (try clear hb2); (try clear hk); (try clear hi); (try clear ho0)))
  (try simp only [Act.put, List.setIfInBounds_toArray, List.set_cons_zero, List.set_cons_succ])
  go_cut [] (fun wc => ∃ (kq : Nat), Aside0 (barscanlaw14_Gs1Canonical.j0 kq l1 = some r) ∧ Aside0 (kq ≤ k) ∧ Aside0 (Below w.heap.size w wc))
  case first =>
    have H := HC4.out
    clear HC4
    by_cases c6 : t254 = 0
    · rw [if_pos c6] at H
      have c6b0 : (t254 == 0) = true := beq_iff_eq.mpr c6
      have c6b1 : (t254 != 0) = false := bne_eq_false_iff_eq.mpr c6
      clear c6
      (first | rw [c6b0] | (simp only [i64_w]; rw [c6b0]) | skip)
      replace H := Option.bind_eq_some_iff.mp H
      obtain ⟨⟨t257, t258⟩, A70, H⟩ := H
      replace H : (if t258 = 0 then (if t257.toList = a0.toList then (barscanlaw14_Gs1Canonical.j0 k l1) else (some false)) else (some false)) = some r := H
      have A7 := Aside0.mk A70
      clear A70
      by_cases c8 : t258 = 0
      · rw [if_pos c8] at H
        have c8b0 : (t258 == 0) = true := beq_iff_eq.mpr c8
        have c8b1 : (t258 != 0) = false := bne_eq_false_iff_eq.mpr c8
        clear c8
        by_cases c9 : t257.toList = a0.toList
        · rw [if_pos c9] at H
          have c9b0 : (t257.toList == a0.toList) = true := beq_iff_eq.mpr c9
          have c9b1 : (t257.toList != a0.toList) = false := bne_eq_false_iff_eq.mpr c9
          clear c9
          have H' := Aside0.mk H
          clear H
          obtain ⟨Ao10, co10, eo10⟩ := Kd.R_slice HO256.out
          subst eo10
          go_wp2_with (first | ((with_reducible refine gate_callee (f := 7) rfl ?_); refine goesL_ (some 22) rfl rfl Tryd.func7 (by kernel_rfl) rfl #[.slice Ao10 t253.length co10] rfl (by (try simp only [List.map_toArray, List.map_cons, List.map_nil]); first | done | rfl | (simp only [List.length_drop, List.length_take]; rfl)) ?_; (with_reducible refine (gs1_Format.calls k _ _ t253 t257 t258 _ ?side3 ?side1 ?side2 A7.out).mono ?_); (case side1 => repeat (first | exact (Kd.R_reads' HO256.out).2.2 | (with_reducible refine Kd.C_alloc ?_ _) | (with_reducible refine Kd.C_drewN ?_ _) | (with_reducible refine Kd.C_drew ?_))); (case side2 => exact (Kd.R_reads' HO256.out).2.1); (case side3 => exact Tabs.below HT.out (by repeat (first | (with_reducible first | exact HB.out | apply below_alloc | apply pw_below_drewN | apply below_drew1) | exact HB.out))); rintro e w11 ⟨rfl, hb⟩; refine ⟨_, rfl, ?_⟩; have n0_ := Aside0.mk (Kd.R_below (by (with_reducible repeat (first | apply Kd.R_alloc | apply Kd.R_drewN | apply Kd.R_drew)); exact HO256.out) hb); have n1_ := Aside0.mk (below_step (by repeat (first | (with_reducible first | exact HB.out | apply below_alloc | apply pw_below_drewN | apply below_drew1) | exact HB.out)) hb); clear HO256; clear HB; have HO256 := n0_; have HB := n1_; clear n0_ n1_; (try clear hb); (try clear hb2); (try clear hk); (try clear hi)))
          go_meet
          case rel => exact ⟨_, H', ⟨by first | omega | exact Nat.le_refl _⟩, ⟨by repeat (first | (with_reducible first | exact HB.out | apply below_alloc | apply pw_below_drewN | apply below_drew1) | exact HB.out)⟩⟩
        · rw [if_neg c9] at H
          have c9b0 : (t257.toList == a0.toList) = false := beq_eq_false_iff_ne.mpr c9
          have c9b1 : (t257.toList != a0.toList) = true := bne_iff_ne.mpr c9
          obtain rfl := Option.some.inj H
          obtain ⟨Ao12, co12, eo12⟩ := Kd.R_slice HO256.out
          subst eo12
          go_wp2_with (first | ((with_reducible refine gate_callee (f := 7) rfl ?_); refine goesL_ (some 22) rfl rfl Tryd.func7 (by kernel_rfl) rfl #[.slice Ao12 t253.length co12] rfl (by (try simp only [List.map_toArray, List.map_cons, List.map_nil]); first | done | rfl | (simp only [List.length_drop, List.length_take]; rfl)) ?_; (with_reducible refine (gs1_Format.calls k _ _ t253 t257 t258 _ ?side3 ?side1 ?side2 A7.out).mono ?_); (case side1 => repeat (first | exact (Kd.R_reads' HO256.out).2.2 | (with_reducible refine Kd.C_alloc ?_ _) | (with_reducible refine Kd.C_drewN ?_ _) | (with_reducible refine Kd.C_drew ?_))); (case side2 => exact (Kd.R_reads' HO256.out).2.1); (case side3 => exact Tabs.below HT.out (by repeat (first | (with_reducible first | exact HB.out | apply below_alloc | apply pw_below_drewN | apply below_drew1) | exact HB.out))); rintro e w13 ⟨rfl, hb⟩; refine ⟨_, rfl, ?_⟩; have n0_ := Aside0.mk (Kd.R_below (by (with_reducible repeat (first | apply Kd.R_alloc | apply Kd.R_drewN | apply Kd.R_drew)); exact HO256.out) hb); have n1_ := Aside0.mk (below_step (by repeat (first | (with_reducible first | exact HB.out | apply below_alloc | apply pw_below_drewN | apply below_drew1) | exact HB.out)) hb); clear HO256; clear HB; have HO256 := n0_; have HB := n1_; clear n0_ n1_; (try clear hb); (try clear hb2); (try clear hk); (try clear hi)))
          go_ret
          exact ⟨by first | rfl | (simp [errW_none, errW_some] <;> rfl) | (simp [*, errW_none, errW_some] <;> rfl), by repeat (first | (with_reducible first | exact HB.out | apply below_alloc | apply pw_below_drewN | apply below_drew1) | exact HB.out)⟩
      · rw [if_neg c8] at H
        have c8b0 : (t258 == 0) = false := beq_eq_false_iff_ne.mpr c8
        have c8b1 : (t258 != 0) = true := bne_iff_ne.mpr c8
        obtain rfl := Option.some.inj H
        obtain ⟨Ao14, co14, eo14⟩ := Kd.R_slice HO256.out
        subst eo14
        go_wp2_with (first | ((with_reducible refine gate_callee (f := 7) rfl ?_); refine goesL_ (some 22) rfl rfl Tryd.func7 (by kernel_rfl) rfl #[.slice Ao14 t253.length co14] rfl (by (try simp only [List.map_toArray, List.map_cons, List.map_nil]); first | done | rfl | (simp only [List.length_drop, List.length_take]; rfl)) ?_; (with_reducible refine (gs1_Format.calls k _ _ t253 t257 t258 _ ?side3 ?side1 ?side2 A7.out).mono ?_); (case side1 => repeat (first | exact (Kd.R_reads' HO256.out).2.2 | (with_reducible refine Kd.C_alloc ?_ _) | (with_reducible refine Kd.C_drewN ?_ _) | (with_reducible refine Kd.C_drew ?_))); (case side2 => exact (Kd.R_reads' HO256.out).2.1); (case side3 => exact Tabs.below HT.out (by repeat (first | (with_reducible first | exact HB.out | apply below_alloc | apply pw_below_drewN | apply below_drew1) | exact HB.out))); rintro e w15 ⟨rfl, hb⟩; refine ⟨_, rfl, ?_⟩; have n0_ := Aside0.mk (Kd.R_below (by (with_reducible repeat (first | apply Kd.R_alloc | apply Kd.R_drewN | apply Kd.R_drew)); exact HO256.out) hb); have n1_ := Aside0.mk (below_step (by repeat (first | (with_reducible first | exact HB.out | apply below_alloc | apply pw_below_drewN | apply below_drew1) | exact HB.out)) hb); clear HO256; clear HB; have HO256 := n0_; have HB := n1_; clear n0_ n1_; (try clear hb); (try clear hb2); (try clear hk); (try clear hi)))
        go_ret
        exact ⟨by first | rfl | (simp [errW_none, errW_some] <;> rfl) | (simp [*, errW_none, errW_some] <;> rfl), by repeat (first | (with_reducible first | exact HB.out | apply below_alloc | apply pw_below_drewN | apply below_drew1) | exact HB.out)⟩
    · rw [if_neg c6] at H
      have c6b0 : (t254 == 0) = false := beq_eq_false_iff_ne.mpr c6
      have c6b1 : (t254 != 0) = true := bne_iff_ne.mpr c6
      (first | rw [c6b0] | (simp only [i64_w]; rw [c6b0]) | skip)
      have H' := Aside0.mk H
      clear H
      go_wp2
      go_meet
      case rel => exact ⟨_, H', ⟨by first | omega | exact Nat.le_refl _⟩, ⟨by repeat (first | (with_reducible first | exact HB.out | apply below_alloc | apply pw_below_drewN | apply below_drew1) | exact HB.out)⟩⟩
  case rest =>
    clear HC4
    try clear c1
    try clear p2
    try clear c4
    try clear c6
    try clear c6b0
    try clear c6b1
    try clear c7
    try clear c8
    try clear c8b0
    try clear c8b1
    try clear c9
    try clear c9b0
    try clear c9b1
    obtain ⟨kq, HA, HJ3, HB⟩ := hcut
    cases kq with
    | zero => exact absurd HA.out (by simp [barscanlaw14_Gs1Canonical.j0])
    | succ kj3 =>
      have H := HA.out
      clear HA
      simp only [barscanlaw14_Gs1Canonical.j0] at H
      replace H := Option.bind_eq_some_iff.mp H
      obtain ⟨⟨t259, t262⟩, A160, H⟩ := H
      replace H : (if t262 = 0 then ((gs1_Chars.f kj3 t259).bind fun bt263 => (if bt263.2 = 0 then ((barscanlaw14_equal.f kj3 bt263.1 l1).bind fun t267 => (if t267 = true then ((barscanlaw14_examples.f kj3).bind fun t268 => (some t268)) else (some false))) else (some false))) else ((barscanlaw14_examples.f kj3).bind fun t269 => (some t269))) = some r := H
      have A16 := Aside0.mk A160
      clear A160
      by_cases c17 : t262 = 0
      · rw [if_pos c17] at H
        have c17b0 : (t262 == 0) = true := beq_iff_eq.mpr c17
        have c17b1 : (t262 != 0) = false := bne_eq_false_iff_eq.mpr c17
        clear c17
        replace H := Option.bind_eq_some_iff.mp H
        obtain ⟨⟨t263, t264⟩, A180, H⟩ := H
        replace H : (if t264 = 0 then ((barscanlaw14_equal.f kj3 t263 l1).bind fun t267 => (if t267 = true then ((barscanlaw14_examples.f kj3).bind fun t268 => (some t268)) else (some false))) else (some false)) = some r := H
        have A18 := Aside0.mk A180
        clear A180
        by_cases c19 : t264 = 0
        · rw [if_pos c19] at H
          have c19b0 : (t264 == 0) = true := beq_iff_eq.mpr c19
          have c19b1 : (t264 != 0) = false := bne_eq_false_iff_eq.mpr c19
          clear c19
          replace H := Option.bind_eq_some_iff.mp H
          obtain ⟨t267, A200, H⟩ := H
          replace H : (if t267 = true then ((barscanlaw14_examples.f kj3).bind fun t268 => (some t268)) else (some false)) = some r := H
          have A20 := Aside0.mk A200
          clear A200
          by_cases c21 : t267 = true
          · subst c21
            have H1 : ((barscanlaw14_examples.f kj3).bind fun t268 => (some t268)) = some r := by rw [if_pos rfl] at H; exact H
            clear H
            have H := H1
            clear H1
            replace H := Option.bind_eq_some_iff.mp H
            obtain ⟨t268, A220, H⟩ := H
            replace H : (some t268) = some r := H
            have A22 := Aside0.mk A220
            clear A220
            obtain rfl := Option.some.inj H
            go_wp2_with (first | ((with_reducible refine gate_callee (f := 11) rfl ?_); refine goesL_ (some 34) rfl rfl Tryd.func11 (by kernel_rfl) rfl #[.slice A1 l1.length c1] rfl (by (try simp only [List.map_toArray, List.map_cons, List.map_nil]); first | done | rfl | (simp only [List.length_drop, List.length_take]; rfl)) ?_; (with_reducible refine (gs1_FromChars.calls kj3 (fun k_ => k_ < w.heap.size) _ _ l1 t259 t262 _ ?side2 ?side1 A16.out).mono ?_); (case side1 => exact Kd.V_mk HC1.out (Kd.F_below (Kd.C_F (Kd.heap_int .i64) HR1.out) (by repeat (first | (with_reducible first | exact HB.out | apply below_alloc | apply pw_below_drewN | apply below_drew1) | exact HB.out)))); (case side2 => exact Tabs.below HT.out (by repeat (first | (with_reducible first | exact HB.out | apply below_alloc | apply pw_below_drewN | apply below_drew1) | exact HB.out))); rintro e w23 ⟨v260, rfl, ho0, hb⟩; refine ⟨_, rfl, ?_⟩; have n0_ := Aside0.mk (Kd.R_lower (Kd.R_mono (ok' := fun k_ => True) ho0 (fun _ hk_ => trivial)) (below_size (by repeat (first | (with_reducible first | exact HB.out | apply below_alloc | apply pw_below_drewN | apply below_drew1) | exact HB.out)))); have n1_ := Aside0.mk (below_step (by repeat (first | (with_reducible first | exact HB.out | apply below_alloc | apply pw_below_drewN | apply below_drew1) | exact HB.out)) hb); clear HB; have HO261 := n0_; have HB := n1_; clear n0_ n1_; (try clear hb); (try clear hb2); (try clear hk); (try clear hi); (try clear ho0); obtain ⟨Ao24, co24, eo24⟩ := Kd.R_slice HO261.out; subst eo24) | ((with_reducible refine gate_callee (f := 10) rfl ?_); refine goesL_ (some 41) rfl rfl Tryd.func10 (by kernel_rfl) rfl #[.slice Ao24 t259.length co24] rfl (by (try simp only [List.map_toArray, List.map_cons, List.map_nil]); first | done | rfl | (simp only [List.length_drop, List.length_take]; rfl)) ?_; (with_reducible refine (gs1_Chars.calls kj3 _ _ t259 t263 t264 _ ?side3 ?side1 ?side2 A18.out).mono ?_); (case side1 => repeat (first | exact (Kd.R_reads' HO261.out).2.2 | (with_reducible refine Kd.C_alloc ?_ _) | (with_reducible refine Kd.C_drewN ?_ _) | (with_reducible refine Kd.C_drew ?_))); (case side2 => exact (Kd.R_reads' HO261.out).2.1); (case side3 => exact Tabs.below HT.out (by repeat (first | (with_reducible first | exact HB.out | apply below_alloc | apply pw_below_drewN | apply below_drew1) | exact HB.out))); rintro e w25 ⟨v265, rfl, ho0, hb⟩; refine ⟨_, rfl, ?_⟩; have n0_ := Aside0.mk (Kd.R_below (by (with_reducible repeat (first | apply Kd.R_alloc | apply Kd.R_drewN | apply Kd.R_drew)); exact HO261.out) hb); have n1_ := Aside0.mk (Kd.R_lower ho0 (below_size (by repeat (first | (with_reducible first | exact HB.out | apply below_alloc | apply pw_below_drewN | apply below_drew1) | exact HB.out)))); have n2_ := Aside0.mk (below_step (by repeat (first | (with_reducible first | exact HB.out | apply below_alloc | apply pw_below_drewN | apply below_drew1) | exact HB.out)) hb); clear HO261; clear HB; have HO261 := n0_; have HO266 := n1_; have HB := n2_; clear n0_ n1_ n2_; (try clear hb); (try clear hb2); (try clear hk); (try clear hi); (try clear ho0); obtain ⟨Ao26, co26, eo26⟩ := Kd.R_slice HO266.out; subst eo26) | (go_at_call 13; (with_reducible refine (barscanlaw14_equal.calls kj3 _ _ t263 _ _ l1 true _ ?side1 ?side2 ?side3 ?side4 A20.out).mono ?_); (case side1 => repeat (first | exact (Kd.R_reads' HO266.out).2.2 | (with_reducible refine Kd.C_alloc ?_ _) | (with_reducible refine Kd.C_drewN ?_ _) | (with_reducible refine Kd.C_drew ?_))); (case side2 => exact (Kd.R_reads' HO266.out).2.1); (case side3 => repeat (first | exact (Kd.C_below HR1.out HB.out) | (with_reducible refine Kd.C_alloc ?_ _) | (with_reducible refine Kd.C_drewN ?_ _) | (with_reducible refine Kd.C_drew ?_))); (case side4 => exact HC1.out); rintro e w' ⟨rfl, ⟨nd, rfl⟩⟩) | ((with_reducible refine gate_callee (f := 12) rfl ?_); refine goesL_ (some 52) rfl rfl Tryd.func12 (by kernel_rfl) rfl #[] rfl (by (try simp only [List.map_toArray, List.map_cons, List.map_nil]); first | done | rfl | (simp only [List.length_drop, List.length_take]; rfl)) ?_; (with_reducible refine (barscanlaw14_examples.calls kj3  t268 _ ?side1 A22.out).mono ?_); (case side1 => exact Tabs.below HT.out (by repeat (first | (with_reducible first | exact HB.out | apply below_alloc | apply pw_below_drewN | apply below_drew1) | exact HB.out))); rintro e w27 ⟨rfl, hb⟩; refine ⟨_, rfl, ?_⟩; have n0_ := Aside0.mk (Kd.R_below (by (with_reducible repeat (first | apply Kd.R_alloc | apply Kd.R_drewN | apply Kd.R_drew)); exact HO261.out) hb); have n1_ := Aside0.mk (Kd.R_below (by (with_reducible repeat (first | apply Kd.R_alloc | apply Kd.R_drewN | apply Kd.R_drew)); exact HO266.out) hb); have n2_ := Aside0.mk (below_step (by repeat (first | (with_reducible first | exact HB.out | apply below_alloc | apply pw_below_drewN | apply below_drew1) | exact HB.out)) hb); clear HO261; clear HO266; clear HB; have HO261 := n0_; have HO266 := n1_; have HB := n2_; clear n0_ n1_ n2_; (try clear hb); (try clear hb2); (try clear hk); (try clear hi)))
            go_ret
            exact ⟨by first | rfl | (simp [errW_none, errW_some] <;> rfl) | (simp [*, errW_none, errW_some] <;> rfl), by repeat (first | (with_reducible first | exact HB.out | apply below_alloc | apply pw_below_drewN | apply below_drew1) | exact HB.out)⟩
          · replace c21 := Bool.eq_false_iff.mpr c21
            subst c21
            have H1 : (some false) = some r := by rw [if_neg (show ¬ (false = true) by decide)] at H; exact H
            clear H
            have H := H1
            clear H1
            obtain rfl := Option.some.inj H
            go_wp2_with (first | ((with_reducible refine gate_callee (f := 11) rfl ?_); refine goesL_ (some 34) rfl rfl Tryd.func11 (by kernel_rfl) rfl #[.slice A1 l1.length c1] rfl (by (try simp only [List.map_toArray, List.map_cons, List.map_nil]); first | done | rfl | (simp only [List.length_drop, List.length_take]; rfl)) ?_; (with_reducible refine (gs1_FromChars.calls kj3 (fun k_ => k_ < w.heap.size) _ _ l1 t259 t262 _ ?side2 ?side1 A16.out).mono ?_); (case side1 => exact Kd.V_mk HC1.out (Kd.F_below (Kd.C_F (Kd.heap_int .i64) HR1.out) (by repeat (first | (with_reducible first | exact HB.out | apply below_alloc | apply pw_below_drewN | apply below_drew1) | exact HB.out)))); (case side2 => exact Tabs.below HT.out (by repeat (first | (with_reducible first | exact HB.out | apply below_alloc | apply pw_below_drewN | apply below_drew1) | exact HB.out))); rintro e w28 ⟨v260, rfl, ho0, hb⟩; refine ⟨_, rfl, ?_⟩; have n0_ := Aside0.mk (Kd.R_lower (Kd.R_mono (ok' := fun k_ => True) ho0 (fun _ hk_ => trivial)) (below_size (by repeat (first | (with_reducible first | exact HB.out | apply below_alloc | apply pw_below_drewN | apply below_drew1) | exact HB.out)))); have n1_ := Aside0.mk (below_step (by repeat (first | (with_reducible first | exact HB.out | apply below_alloc | apply pw_below_drewN | apply below_drew1) | exact HB.out)) hb); clear HB; have HO261 := n0_; have HB := n1_; clear n0_ n1_; (try clear hb); (try clear hb2); (try clear hk); (try clear hi); (try clear ho0); obtain ⟨Ao29, co29, eo29⟩ := Kd.R_slice HO261.out; subst eo29) | ((with_reducible refine gate_callee (f := 10) rfl ?_); refine goesL_ (some 41) rfl rfl Tryd.func10 (by kernel_rfl) rfl #[.slice Ao29 t259.length co29] rfl (by (try simp only [List.map_toArray, List.map_cons, List.map_nil]); first | done | rfl | (simp only [List.length_drop, List.length_take]; rfl)) ?_; (with_reducible refine (gs1_Chars.calls kj3 _ _ t259 t263 t264 _ ?side3 ?side1 ?side2 A18.out).mono ?_); (case side1 => repeat (first | exact (Kd.R_reads' HO261.out).2.2 | (with_reducible refine Kd.C_alloc ?_ _) | (with_reducible refine Kd.C_drewN ?_ _) | (with_reducible refine Kd.C_drew ?_))); (case side2 => exact (Kd.R_reads' HO261.out).2.1); (case side3 => exact Tabs.below HT.out (by repeat (first | (with_reducible first | exact HB.out | apply below_alloc | apply pw_below_drewN | apply below_drew1) | exact HB.out))); rintro e w30 ⟨v265, rfl, ho0, hb⟩; refine ⟨_, rfl, ?_⟩; have n0_ := Aside0.mk (Kd.R_below (by (with_reducible repeat (first | apply Kd.R_alloc | apply Kd.R_drewN | apply Kd.R_drew)); exact HO261.out) hb); have n1_ := Aside0.mk (Kd.R_lower ho0 (below_size (by repeat (first | (with_reducible first | exact HB.out | apply below_alloc | apply pw_below_drewN | apply below_drew1) | exact HB.out)))); have n2_ := Aside0.mk (below_step (by repeat (first | (with_reducible first | exact HB.out | apply below_alloc | apply pw_below_drewN | apply below_drew1) | exact HB.out)) hb); clear HO261; clear HB; have HO261 := n0_; have HO266 := n1_; have HB := n2_; clear n0_ n1_ n2_; (try clear hb); (try clear hb2); (try clear hk); (try clear hi); (try clear ho0); obtain ⟨Ao31, co31, eo31⟩ := Kd.R_slice HO266.out; subst eo31) | (go_at_call 13; (with_reducible refine (barscanlaw14_equal.calls kj3 _ _ t263 _ _ l1 false _ ?side1 ?side2 ?side3 ?side4 A20.out).mono ?_); (case side1 => repeat (first | exact (Kd.R_reads' HO266.out).2.2 | (with_reducible refine Kd.C_alloc ?_ _) | (with_reducible refine Kd.C_drewN ?_ _) | (with_reducible refine Kd.C_drew ?_))); (case side2 => exact (Kd.R_reads' HO266.out).2.1); (case side3 => repeat (first | exact (Kd.C_below HR1.out HB.out) | (with_reducible refine Kd.C_alloc ?_ _) | (with_reducible refine Kd.C_drewN ?_ _) | (with_reducible refine Kd.C_drew ?_))); (case side4 => exact HC1.out); rintro e w' ⟨rfl, ⟨nd, rfl⟩⟩))
            go_ret
            exact ⟨by first | rfl | (simp [errW_none, errW_some] <;> rfl) | (simp [*, errW_none, errW_some] <;> rfl), by repeat (first | (with_reducible first | exact HB.out | apply below_alloc | apply pw_below_drewN | apply below_drew1) | exact HB.out)⟩
        · rw [if_neg c19] at H
          have c19b0 : (t264 == 0) = false := beq_eq_false_iff_ne.mpr c19
          have c19b1 : (t264 != 0) = true := bne_iff_ne.mpr c19
          obtain rfl := Option.some.inj H
          go_wp2_with (first | ((with_reducible refine gate_callee (f := 11) rfl ?_); refine goesL_ (some 34) rfl rfl Tryd.func11 (by kernel_rfl) rfl #[.slice A1 l1.length c1] rfl (by (try simp only [List.map_toArray, List.map_cons, List.map_nil]); first | done | rfl | (simp only [List.length_drop, List.length_take]; rfl)) ?_; (with_reducible refine (gs1_FromChars.calls kj3 (fun k_ => k_ < w.heap.size) _ _ l1 t259 t262 _ ?side2 ?side1 A16.out).mono ?_); (case side1 => exact Kd.V_mk HC1.out (Kd.F_below (Kd.C_F (Kd.heap_int .i64) HR1.out) (by repeat (first | (with_reducible first | exact HB.out | apply below_alloc | apply pw_below_drewN | apply below_drew1) | exact HB.out)))); (case side2 => exact Tabs.below HT.out (by repeat (first | (with_reducible first | exact HB.out | apply below_alloc | apply pw_below_drewN | apply below_drew1) | exact HB.out))); rintro e w32 ⟨v260, rfl, ho0, hb⟩; refine ⟨_, rfl, ?_⟩; have n0_ := Aside0.mk (Kd.R_lower (Kd.R_mono (ok' := fun k_ => True) ho0 (fun _ hk_ => trivial)) (below_size (by repeat (first | (with_reducible first | exact HB.out | apply below_alloc | apply pw_below_drewN | apply below_drew1) | exact HB.out)))); have n1_ := Aside0.mk (below_step (by repeat (first | (with_reducible first | exact HB.out | apply below_alloc | apply pw_below_drewN | apply below_drew1) | exact HB.out)) hb); clear HB; have HO261 := n0_; have HB := n1_; clear n0_ n1_; (try clear hb); (try clear hb2); (try clear hk); (try clear hi); (try clear ho0); obtain ⟨Ao33, co33, eo33⟩ := Kd.R_slice HO261.out; subst eo33) | ((with_reducible refine gate_callee (f := 10) rfl ?_); refine goesL_ (some 41) rfl rfl Tryd.func10 (by kernel_rfl) rfl #[.slice Ao33 t259.length co33] rfl (by (try simp only [List.map_toArray, List.map_cons, List.map_nil]); first | done | rfl | (simp only [List.length_drop, List.length_take]; rfl)) ?_; (with_reducible refine (gs1_Chars.calls kj3 _ _ t259 t263 t264 _ ?side3 ?side1 ?side2 A18.out).mono ?_); (case side1 => repeat (first | exact (Kd.R_reads' HO261.out).2.2 | (with_reducible refine Kd.C_alloc ?_ _) | (with_reducible refine Kd.C_drewN ?_ _) | (with_reducible refine Kd.C_drew ?_))); (case side2 => exact (Kd.R_reads' HO261.out).2.1); (case side3 => exact Tabs.below HT.out (by repeat (first | (with_reducible first | exact HB.out | apply below_alloc | apply pw_below_drewN | apply below_drew1) | exact HB.out))); rintro e w34 ⟨v265, rfl, ho0, hb⟩; refine ⟨_, rfl, ?_⟩; have n0_ := Aside0.mk (Kd.R_below (by (with_reducible repeat (first | apply Kd.R_alloc | apply Kd.R_drewN | apply Kd.R_drew)); exact HO261.out) hb); have n1_ := Aside0.mk (Kd.R_lower ho0 (below_size (by repeat (first | (with_reducible first | exact HB.out | apply below_alloc | apply pw_below_drewN | apply below_drew1) | exact HB.out)))); have n2_ := Aside0.mk (below_step (by repeat (first | (with_reducible first | exact HB.out | apply below_alloc | apply pw_below_drewN | apply below_drew1) | exact HB.out)) hb); clear HO261; clear HB; have HO261 := n0_; have HO266 := n1_; have HB := n2_; clear n0_ n1_ n2_; (try clear hb); (try clear hb2); (try clear hk); (try clear hi); (try clear ho0)))
          go_ret
          exact ⟨by first | rfl | (simp [errW_none, errW_some] <;> rfl) | (simp [*, errW_none, errW_some] <;> rfl), by repeat (first | (with_reducible first | exact HB.out | apply below_alloc | apply pw_below_drewN | apply below_drew1) | exact HB.out)⟩
      · rw [if_neg c17] at H
        have c17b0 : (t262 == 0) = false := beq_eq_false_iff_ne.mpr c17
        have c17b1 : (t262 != 0) = true := bne_iff_ne.mpr c17
        replace H := Option.bind_eq_some_iff.mp H
        obtain ⟨t269, A350, H⟩ := H
        replace H : (some t269) = some r := H
        have A35 := Aside0.mk A350
        clear A350
        obtain rfl := Option.some.inj H
        go_wp2_with (first | ((with_reducible refine gate_callee (f := 11) rfl ?_); refine goesL_ (some 34) rfl rfl Tryd.func11 (by kernel_rfl) rfl #[.slice A1 l1.length c1] rfl (by (try simp only [List.map_toArray, List.map_cons, List.map_nil]); first | done | rfl | (simp only [List.length_drop, List.length_take]; rfl)) ?_; (with_reducible refine (gs1_FromChars.calls kj3 (fun k_ => k_ < w.heap.size) _ _ l1 t259 t262 _ ?side2 ?side1 A16.out).mono ?_); (case side1 => exact Kd.V_mk HC1.out (Kd.F_below (Kd.C_F (Kd.heap_int .i64) HR1.out) (by repeat (first | (with_reducible first | exact HB.out | apply below_alloc | apply pw_below_drewN | apply below_drew1) | exact HB.out)))); (case side2 => exact Tabs.below HT.out (by repeat (first | (with_reducible first | exact HB.out | apply below_alloc | apply pw_below_drewN | apply below_drew1) | exact HB.out))); rintro e w36 ⟨v260, rfl, ho0, hb⟩; refine ⟨_, rfl, ?_⟩; have n0_ := Aside0.mk (Kd.R_lower (Kd.R_mono (ok' := fun k_ => True) ho0 (fun _ hk_ => trivial)) (below_size (by repeat (first | (with_reducible first | exact HB.out | apply below_alloc | apply pw_below_drewN | apply below_drew1) | exact HB.out)))); have n1_ := Aside0.mk (below_step (by repeat (first | (with_reducible first | exact HB.out | apply below_alloc | apply pw_below_drewN | apply below_drew1) | exact HB.out)) hb); clear HB; have HO261 := n0_; have HB := n1_; clear n0_ n1_; (try clear hb); (try clear hb2); (try clear hk); (try clear hi); (try clear ho0)) | ((with_reducible refine gate_callee (f := 12) rfl ?_); refine goesL_ (some 52) rfl rfl Tryd.func12 (by kernel_rfl) rfl #[] rfl (by (try simp only [List.map_toArray, List.map_cons, List.map_nil]); first | done | rfl | (simp only [List.length_drop, List.length_take]; rfl)) ?_; (with_reducible refine (barscanlaw14_examples.calls kj3  t269 _ ?side1 A35.out).mono ?_); (case side1 => exact Tabs.below HT.out (by repeat (first | (with_reducible first | exact HB.out | apply below_alloc | apply pw_below_drewN | apply below_drew1) | exact HB.out))); rintro e w37 ⟨rfl, hb⟩; refine ⟨_, rfl, ?_⟩; have n0_ := Aside0.mk (Kd.R_below (by (with_reducible repeat (first | apply Kd.R_alloc | apply Kd.R_drewN | apply Kd.R_drew)); exact HO261.out) hb); have n1_ := Aside0.mk (below_step (by repeat (first | (with_reducible first | exact HB.out | apply below_alloc | apply pw_below_drewN | apply below_drew1) | exact HB.out)) hb); clear HO261; clear HB; have HO261 := n0_; have HB := n1_; clear n0_ n1_; (try clear hb); (try clear hb2); (try clear hk); (try clear hi)))
        go_ret
        exact ⟨by first | rfl | (simp [errW_none, errW_some] <;> rfl) | (simp [*, errW_none, errW_some] <;> rfl), by repeat (first | (with_reducible first | exact HB.out | apply below_alloc | apply pw_below_drewN | apply below_drew1) | exact HB.out)⟩

end Go.Proofs.YtghlbdemlmbijaaDoor.Q
