/- EanEncodes: Encode returns the specified row or error, for any kind, text and add-on; no further conditions. -/
/- Joined by a program of this work (pack.py) out of the texts Sp5, Qbarscanlaw11EanEncodes, LawsN, LawEncodes of this seat, in build order. -/
import Derived.Test.YtjmeekceecpemaaGreatDoorLN2
import Derived.ShutString
/- The row that the reference's Encode draws: the same. -/
namespace Go.Proofs.YtjmeekceecpemaaGreatDoor.Q
open Go.RowKit Go.Proofs.YtjmeekceecpemaaGreatDoorW.PrintWords Go.Proofs.YtjmeekceecpemaaGreatDoorW.PrintLast Go.Proofs.YtjmeekceecpemaaGreatDoorW.PrintMore
set_option linter.unusedVariables false
set_option linter.unusedSimpArgs false
theorem mod_len (b : ByteArray) : (modS b).length = b.size := by unfold modS; rw [List.length_map, bs_len]
theorem mod_app (s t : ByteArray) : modS (s ++ t) = modS s ++ modS t := by unfold modS; rw [bs_append, List.map_append]
theorem mod_z (n : Int) : modS (zS n) = List.replicate n.toNat false := by
  unfold modS zS
  rw [bs_mk]
  induction n.toNat with
  | zero => rfl
  | succ n ih => rw [Lib.repeatL, List.map_append, ih, List.replicate_succ]; rfl
theorem rmod_l (b : ByteArray) (hb : b.size ≤ 4096) (n : Nat) : ∀ i : Nat, i + n = b.size → Ev (fun k => barscanref11_modules.l0 k b ((modS b).take i) (i : Int)) (modS b) := by
  have hl := bs_len b
  have hm := mod_len b
  induction n with
  | zero =>
    intro i h
    refine Ev.succ ?_
    simp only [barscanref11_modules.l0]
    rw [List.take_of_length_le (by omega)]
    exact Ev.neg (by omega) (Ev.const rfl)
  | succ n ih =>
    intro i h
    refine Ev.succ ?_
    simp only [barscanref11_modules.l0]
    have e : (modS b).take i ++ [((bt b (i : Int)) == 49)] = (modS b).take (i + 1) := by
      rw [bt_nat b i (by omega), List.take_succ_eq_append_getElem (by omega)]
      simp [modS]
    rw [e, wrap_next i (by omega)]
    exact Ev.pos (by omega) (Ev.pos (by omega) (Ev.pos (by rw [List.length_take]; omega) (ih (i + 1) (by omega))))
theorem rmodules (b : ByteArray) (hb : b.size ≤ 4096) : Ev (fun k => barscanref11_modules.f k b) (modS b) := by
  unfold barscanref11_modules.f
  exact rmod_l b hb b.size 0 (by omega)
set_option maxRecDepth 1000000 in
theorem tab_at : ∀ d, d < 10 → ∀ c, c < 3 → barscanref11_table.f 20 ((d : Nat) : Int) ((c : Nat) : Int) = some (modS ⟨(patL d ((c : Int) + 65)).toArray⟩) := by decide +kernel
theorem rtable (d c : Nat) (hd : d < 10) (hc : c < 3) : Ev (fun k => barscanref11_table.f k (d : Int) (c : Int)) (modS ⟨(patL d ((c : Int) + 65)).toArray⟩) :=
  ⟨20, fun k hk => up_of (barscanref11_table.mono (d : Int) (c : Int)) (tab_at d hd c hc) k hk⟩
/-- Sets, as letters. -/
def letr (t : ByteArray) : ByteArray := ⟨((bs t).map fun c => c + 17).toArray⟩
theorem letr_size (t : ByteArray) : (letr t).size = t.size := by unfold letr; rw [mk_size, List.length_map, bs_len]
def okSets (t : ByteArray) : Prop := ∀ i : Nat, i < t.size → 48 ≤ bt t (i : Int) ∧ bt t (i : Int) ≤ 50
theorem letr_at (t : ByteArray) (h : okSets t) (i : Nat) (hi : i < t.size) : bt (letr t) (i : Int) = bt t (i : Int) + 17 := by
  have h1 : i < (bs t).length := by rw [bs_len]; exact hi
  have h2 : i < (bs (letr t)).length := by rw [bs_len, letr_size]; exact hi
  have h3 := h i hi
  rw [bt_nat t i h1] at h3
  rw [bt_nat t i h1, bt_nat _ i h2]
  simp only [letr, bs_mk, List.getElem_map, UInt8.toNat_add]
  have : (17 : UInt8).toNat = 17 := rfl
  omega
theorem join_snoc (l : List (List UInt8)) (x sep : List UInt8) : Lib.join (l ++ [x]) sep = if l = [] then x else Lib.join l sep ++ (sep ++ x) := by
  cases l with
  | nil => rw [if_pos rfl, List.nil_append, Lib.join_one]
  | cons a r =>
    rw [if_neg (by simp), List.cons_append, Lib.join_cons, Lib.join_cons, List.append_assoc]
    congr 1
    simp [Lib.joinTail]
def boolL (l : List UInt8) : List Bool := l.map fun c => (c.toNat : Int) == 49
theorem bool_app (l m : List UInt8) : boolL (l ++ m) = boolL l ++ boolL m := by unfold boolL; rw [List.map_append]
/-- What is drawn of the first digits. -/
def pre (s t b : ByteArray) (i : Nat) : List Bool := boolL (joinS ((pats s t).take i) b)
theorem pre_len (s t b : ByteArray) (i : Nat) (hs : s.size ≤ 7) (hb : b.size ≤ 2) : (pre s t b i).length ≤ 63 := by
  unfold pre boolL
  rw [List.length_map]
  have h1 := join_len ((pats s t).take i) b (fun x hx => pats_le s t x (List.mem_of_mem_take hx))
  have h2 : ((pats s t).take i).length ≤ 7 := by rw [List.length_take, pats_len]; omega
  exact Nat.le_trans h1 (Nat.mul_le_mul h2 (show 7 + b.size ≤ 9 by omega))
theorem pre_next (s t b : ByteArray) (i : Nat) (hi : i < s.size) : pre s t b (i + 1) = (if i = 0 then [] else pre s t b i ++ modS b) ++ modS ⟨(patL (bt s (i : Int) - 48).toNat (bt t (i : Int))).toArray⟩ := by
  have hp := pats_len s t
  unfold pre joinS
  rw [List.take_succ_eq_append_getElem (by omega), List.map_append, List.map_cons, List.map_nil, join_snoc]
  have e : (pats s t)[i] = ⟨(patL (bt s (i : Int) - 48).toNat (bt t (i : Int))).toArray⟩ := by simp [pats]
  rw [e]
  by_cases h : i = 0
  · rw [if_pos h, if_pos (by rw [h]; rfl)]; rfl
  · rw [if_neg h, if_neg, bool_app, bool_app, List.append_assoc]; rfl
    intro h2
    have := congrArg List.length h2
    rw [List.length_map, List.length_take, List.length_nil] at this
    omega
theorem rrow_l (s t b : ByteArray) (hd : allDig s = true) (hs : s.size ≤ 7) (ht : s.size ≤ t.size) (ho : okSets t) (hb : b.size ≤ 2) (n : Nat) : ∀ i : Nat, i + n = s.size →
    Ev (fun k => barscanref11_row.l0 k s t b (pre s (letr t) b i) (i : Int)) (modS (drawS s (letr t) b)) := by
  induction n with
  | zero =>
    intro i h
    refine Ev.succ ?_
    simp only [barscanref11_row.l0]
    have e : pre s (letr t) b i = modS (drawS s (letr t) b) := by
      unfold pre
      rw [List.take_of_length_le (by rw [pats_len]; omega)]
      rfl
    rw [e]
    exact Ev.neg (by omega) (Ev.const rfl)
  | succ n ih =>
    intro i h
    have d := dig_at hd i (by omega)
    have hl := pre_len s (letr t) b i hs hb
    have hm := mod_len b
    have o := ho i (by omega)
    have hn := pre_next s (letr t) b i (by omega)
    rw [letr_at t ho i (by omega)] at hn
    have ht1 : ((bt s (i : Int)) - 48) % 256 = (((bt s (i : Int) - 48).toNat : Nat) : Int) := by omega
    have ht2 : ((bt t (i : Int)) - 48) % 256 = (((bt t (i : Int) - 48).toNat : Nat) : Int) := by omega
    have et : bt t (i : Int) + 17 = (((bt t (i : Int) - 48).toNat : Nat) : Int) + 65 := by omega
    rw [et] at hn
    have htab := rtable (bt s (i : Int) - 48).toNat (bt t (i : Int) - 48).toNat (by omega) (by omega)
    have hp7 := pat_len (bt s (i : Int) - 48).toNat ((((bt t (i : Int) - 48).toNat : Nat) : Int) + 65)
    have hp8 : (modS ⟨(patL (bt s (i : Int) - 48).toNat ((((bt t (i : Int) - 48).toNat : Nat) : Int) + 65)).toArray⟩).length ≤ 7 := by rw [mod_len, mk_size]; exact hp7
    refine Ev.succ ?_
    simp only [barscanref11_row.l0]
    rw [ht1, ht2, wrap_next i (by omega)]
    refine Ev.pos (by omega) ?_
    by_cases h0 : i = 0
    · have e0 : pre s (letr t) b i = [] := by rw [h0]; rfl
      refine Ev.neg (by omega) (Ev.pos (by omega) (Ev.pos (by omega) (Ev.bind htab (Ev.pos (by omega) ?_))))
      rw [if_pos h0, List.nil_append] at hn
      rw [e0, List.nil_append, ← hn]
      exact ih (i + 1) (by omega)
    · rw [if_neg h0] at hn
      refine Ev.pos (by omega) (Ev.bind (rmodules b (by omega)) (Ev.pos (by omega) ?_))
      simp only [Option.bind_some]
      refine Ev.pos (by omega) (Ev.pos (by omega) (Ev.bind htab (Ev.pos (by rw [List.length_append]; omega) ?_)))
      rw [← hn]
      exact ih (i + 1) (by omega)
theorem rrow (s t b : ByteArray) (hd : allDig s = true) (hs : s.size ≤ 7) (ht : s.size ≤ t.size) (ho : okSets t) (hb : b.size ≤ 2) : Ev (fun k => barscanref11_row.f k s t b) (modS (drawS s (letr t) b)) := by
  unfold barscanref11_row.f
  exact rrow_l s t b hd hs ht ho hb s.size 0 (by omega)
/-! ### Parts, joined -/
theorem rd_list (l : List (List Bool)) (i : Nat) (h : i < l.length) : rd_L5 l (i : Int) = l[i] := by simp [rd_L5, List.getD, h]
theorem rjoin_l (l : List (List Bool)) (hz : l.length ≤ 10) (hx : ∀ x ∈ l, x.length ≤ 1000) (n : Nat) : ∀ i : Nat, i + n = l.length → Ev (fun k => barscanref11_join.l0 k l (l.take i).flatten (i : Int)) l.flatten := by
  have bd : ∀ m : List (List Bool), (∀ x ∈ m, x.length ≤ 1000) → m.flatten.length ≤ 1000 * m.length := by
    intro m
    induction m with
    | nil => intro _; exact Nat.le_refl _
    | cons a m ih =>
      intro h
      have h1 := h a (by simp)
      have h2 := ih fun x hx => h x (by simp [hx])
      rw [List.flatten_cons, List.length_append, List.length_cons]
      omega
  induction n with
  | zero =>
    intro i h
    refine Ev.succ ?_
    simp only [barscanref11_join.l0]
    rw [List.take_of_length_le (by omega)]
    exact Ev.neg (by omega) (Ev.const rfl)
  | succ n ih =>
    intro i h
    refine Ev.succ ?_
    simp only [barscanref11_join.l0]
    have h1 := bd (l.take i) fun x hm => hx x (List.mem_of_mem_take hm)
    have h2 := hx l[i] (List.getElem_mem _)
    have h3 : (l.take i).length ≤ 10 := by rw [List.length_take]; omega
    have e : (l.take i).flatten ++ l[i] = (l.take (i + 1)).flatten := by rw [List.take_succ_eq_append_getElem (by omega), List.flatten_append]; simp
    rw [rd_list l i (by omega), e, wrap_next i (by omega)]
    exact Ev.pos (by omega) (Ev.pos (by omega) (Ev.pos (by omega) (ih (i + 1) (by omega))))
theorem rjoin (l : List (List Bool)) (hz : l.length ≤ 10) (hx : ∀ x ∈ l, x.length ≤ 1000) : Ev (fun k => barscanref11_join.f k l) l.flatten := by
  unfold barscanref11_join.f
  exact rjoin_l l hz hx l.length 0 (by omega)
theorem all2 {a b : List Bool} (ha : a.length ≤ 1000) (hb : b.length ≤ 1000) : ∀ x ∈ [a, b], x.length ≤ 1000 := by
  intro x hx
  simp only [List.mem_cons, List.not_mem_nil, or_false] at hx
  rcases hx with rfl | rfl <;> assumption
theorem all3 {a b c : List Bool} (ha : a.length ≤ 1000) (hb : b.length ≤ 1000) (hc : c.length ≤ 1000) : ∀ x ∈ [a, b, c], x.length ≤ 1000 := by
  intro x hx
  simp only [List.mem_cons, List.not_mem_nil, or_false] at hx
  rcases hx with rfl | rfl | rfl <;> assumption
theorem all5 {a b c d e : List Bool} (ha : a.length ≤ 1000) (hb : b.length ≤ 1000) (hc : c.length ≤ 1000) (hd : d.length ≤ 1000) (he : e.length ≤ 1000) : ∀ x ∈ [a, b, c, d, e], x.length ≤ 1000 := by
  intro x hx
  simp only [List.mem_cons, List.not_mem_nil, or_false] at hx
  rcases hx with rfl | rfl | rfl | rfl | rfl <;> assumption
theorem rlight (n : Int) (h0 : 0 ≤ n) (h1 : n ≤ 100) : barscanref11_light.f n = some (modS (zS n)) := by
  unfold barscanref11_light.f
  rw [if_pos h0, if_pos (by omega), mod_z]
/-! ### Sets -/
def okB (t : ByteArray) : Bool := (bs t).all fun c => decide (48 ≤ c.toNat ∧ c.toNat ≤ 50)
theorem ok_of (t : ByteArray) (h : okB t = true) : okSets t := by
  intro i hi
  have h1 : i < (bs t).length := by rw [bs_len]; exact hi
  unfold okB at h
  rw [List.all_eq_true] at h
  have := h _ (List.getElem_mem h1)
  rw [decide_eq_true_iff] at this
  rw [bt_nat t i h1]
  omega
def chk (o : Option ByteArray) (t : ByteArray) (n : Nat) : Bool := match o with
  | some x => bs (letr x) == bs t && okB x && x.size == n
  | none => false
theorem chk_of {o : Option ByteArray} {t : ByteArray} {n : Nat} (h : chk o t n = true) : ∃ x, o = some x ∧ letr x = t ∧ okB x = true ∧ x.size = n := by
  rcases o with _ | x
  · cases h
  · have h2 : (bs (letr x) == bs t && okB x && x.size == n) = true := h
    simp only [Bool.and_eq_true, beq_iff_eq] at h2
    exact ⟨x, rfl, bs_inj h2.1.1, h2.1.2, h2.2⟩
theorem sets13_at : ∀ j, j < 10 → ∃ t, barscanref11_sets13.f ((j : Nat) : Int) = some t ∧ letr t = rdOf ByteArray.empty par13 (j : Int) ∧ okB t = true ∧ t.size = 6 := by
  intro j hj
  exact chk_of ((show ∀ j, j < 10 → chk (barscanref11_sets13.f ((j : Nat) : Int)) (rdOf ByteArray.empty par13 (j : Int)) 6 = true by decide +kernel) j hj)
def setEN (sy c : Nat) : ByteArray := if sy = 1 then ⟨((bs (rdOf ByteArray.empty parE (c : Int))).map (swapB 65 66)).toArray⟩ else rdOf ByteArray.empty parE (c : Int)
theorem setsE_at (sy c : Nat) (hs : sy < 2) (hc : c < 10) : ∃ t, Ev (fun k => barscanref11_setsE.f k (sy : Int) (c : Int)) t ∧ letr t = setEN sy c ∧ okB t = true ∧ t.size = 6 := by
  obtain ⟨t, e, h1, h2, h3⟩ := chk_of ((show ∀ s, s < 2 → ∀ j, j < 10 → chk (barscanref11_setsE.f 20 ((s : Nat) : Int) ((j : Nat) : Int)) (setEN s j) 6 = true by decide +kernel) sy hs c hc)
  exact ⟨t, ⟨20, fun k hk => up_of (barscanref11_setsE.mono (sy : Int) (c : Int)) e k hk⟩, h1, h2, h3⟩
def r2 : List ByteArray := [(⟨#[48, 48]⟩ : ByteArray), (⟨#[48, 49]⟩ : ByteArray), (⟨#[49, 48]⟩ : ByteArray), (⟨#[49, 49]⟩ : ByteArray)]
def r5 : List ByteArray := [(⟨#[49, 49, 48, 48, 48]⟩ : ByteArray), (⟨#[49, 48, 49, 48, 48]⟩ : ByteArray), (⟨#[49, 48, 48, 49, 48]⟩ : ByteArray), (⟨#[49, 48, 48, 48, 49]⟩ : ByteArray), (⟨#[48, 49, 49, 48, 48]⟩ : ByteArray), (⟨#[48, 48, 49, 49, 48]⟩ : ByteArray), (⟨#[48, 48, 48, 49, 49]⟩ : ByteArray), (⟨#[48, 49, 48, 49, 48]⟩ : ByteArray), (⟨#[48, 49, 48, 48, 49]⟩ : ByteArray), (⟨#[48, 48, 49, 48, 49]⟩ : ByteArray)]
theorem r2_at (j : Nat) (h : j < 4) : letr (rdOf ByteArray.empty r2 (j : Int)) = rdOf ByteArray.empty par2 (j : Int) ∧ okB (rdOf ByteArray.empty r2 (j : Int)) = true ∧ (rdOf ByteArray.empty r2 (j : Int)).size = 2 := by
  have : ∀ j, j < 4 → (bs (letr (rdOf ByteArray.empty r2 ((j : Nat) : Int))) == bs (rdOf ByteArray.empty par2 (j : Int)) && okB (rdOf ByteArray.empty r2 (j : Int)) && (rdOf ByteArray.empty r2 (j : Int)).size == 2) = true := by decide +kernel
  have h := this j h
  simp only [Bool.and_eq_true, beq_iff_eq] at h
  exact ⟨bs_inj h.1.1, h.1.2, h.2⟩
theorem r5_at (j : Nat) (h : j < 10) : letr (rdOf ByteArray.empty r5 (j : Int)) = rdOf ByteArray.empty par5 (j : Int) ∧ okB (rdOf ByteArray.empty r5 (j : Int)) = true ∧ (rdOf ByteArray.empty r5 (j : Int)).size = 5 := by
  have : ∀ j, j < 10 → (bs (letr (rdOf ByteArray.empty r5 ((j : Nat) : Int))) == bs (rdOf ByteArray.empty par5 (j : Int)) && okB (rdOf ByteArray.empty r5 (j : Int)) && (rdOf ByteArray.empty r5 (j : Int)).size == 5) = true := by decide +kernel
  have h := this j h
  simp only [Bool.and_eq_true, beq_iff_eq] at h
  exact ⟨bs_inj h.1.1, h.1.2, h.2⟩
theorem rsets (o : ByteArray) (hz : o.size = 2 ∨ o.size = 5) : ∃ t, barscanref11_setsAddOn.f o = some t ∧ letr t = setsS o ∧ okB t = true ∧ t.size = o.size := by
  unfold barscanref11_setsAddOn.f setsS
  by_cases h : o.size = 2
  · rw [if_pos h, if_pos (by omega), Option.bind_some, if_pos (by omega), if_pos (by omega), if_pos (by omega), if_pos (by show _ < (4 : Int); omega)]
    have h2 := r2_at ((((10 * ((bt o 0 - 48) % 256)) + ((bt o 1 - 48) % 256)) % 4).toNat) (by omega)
    rw [Int.toNat_of_nonneg (by omega)] at h2
    exact ⟨_, rfl, h2.1, h2.2.1, h2.2.2.trans h.symm⟩
  · have h5 : o.size = 5 := by omega
    have e : sum5 o o.size = ((3 * ((((bt o 0) - 48) % 256 + ((bt o 2) - 48) % 256) + ((bt o 4) - 48) % 256)) + (9 * (((bt o 1) - 48) % 256 + ((bt o 3) - 48) % 256))) := by
      rw [h5]
      show (((((0 + (3 + ((0 : Nat) : Int) % 2 * 6) * ((bt o ((0 : Nat) : Int) - 48) % 256)) + (3 + ((1 : Nat) : Int) % 2 * 6) * ((bt o ((1 : Nat) : Int) - 48) % 256)) + (3 + ((2 : Nat) : Int) % 2 * 6) * ((bt o ((2 : Nat) : Int) - 48) % 256)) + (3 + ((3 : Nat) : Int) % 2 * 6) * ((bt o ((3 : Nat) : Int) - 48) % 256)) + (3 + ((4 : Nat) : Int) % 2 * 6) * ((bt o ((4 : Nat) : Int) - 48) % 256)) = _
      rw [show ((0 : Nat) : Int) = 0 from rfl, show ((1 : Nat) : Int) = 1 from rfl, show ((2 : Nat) : Int) = 2 from rfl, show ((3 : Nat) : Int) = 3 from rfl, show ((4 : Nat) : Int) = 4 from rfl]
      omega
    rw [if_neg h, if_neg (by omega), if_pos (by omega), if_pos (by omega), if_pos (by omega), if_pos (by omega), if_pos (by omega), Option.bind_some, ← e]
    have hb := sum5_bd o o.size
    rw [if_pos (by omega), if_pos (by show _ < (10 : Int); omega)]
    have h2 := r5_at ((sum5 o o.size % 10).toNat) (by omega)
    rw [Int.toNat_of_nonneg (by omega)] at h2
    exact ⟨_, rfl, h2.1, h2.2.1, h2.2.2.trans h5.symm⟩
/-! ### The symbol, the add-on, the row -/
theorem letr_A : letr (⟨#[48, 48, 48, 48]⟩ : ByteArray) = ⟨#[65, 65, 65, 65]⟩ := by decide
theorem letr_C4 : letr (⟨#[50, 50, 50, 50]⟩ : ByteArray) = ⟨#[67, 67, 67, 67]⟩ := by decide
theorem letr_C6 : letr (⟨#[50, 50, 50, 50, 50, 50]⟩ : ByteArray) = ⟨#[67, 67, 67, 67, 67, 67]⟩ := by decide
theorem draw_mod_le (s t b : ByteArray) (hs : s.size ≤ 7) (hb : b.size ≤ 2) : (modS (drawS s t b)).length ≤ 1000 := by rw [mod_len]; exact Nat.le_trans (draw_le s t b hs hb) (by decide)
theorem rupc (x : ByteArray) (hd : allDig x = true) (h : x.size = 13) : Ev (fun k => barscanref11_symbol.j0 k x) (modS (upcS x)) := by
  obtain ⟨j, hj, e⟩ := dig_val hd 0 (by omega)
  rw [show ((0 : Nat) : Int) = 0 from rfl] at e
  obtain ⟨t, ht, hl, hok, hz⟩ := sets13_at j hj
  have z6 : (⟨#[50, 50, 50, 50, 50, 50]⟩ : ByteArray).size = 6 := rfl
  have r1 := rrow (x.extract 1 7) t b0 (dig_extract hd 1 7) (by rw [ex_size]; omega) (by rw [ex_size]; omega) (ok_of t hok) (by rw [b0_size]; omega)
  have r2 := rrow (x.extract 7 x.size) ⟨#[50, 50, 50, 50, 50, 50]⟩ b0 (dig_extract hd 7 _) (by rw [ex_size]; omega) (by rw [ex_size, z6]; omega) (ok_of _ (by decide)) (by rw [b0_size]; omega)
  rw [hl] at r1
  rw [letr_C6] at r2
  refine Ev.succ ?_
  simp only [barscanref11_symbol.j0]
  rw [e]
  refine Ev.bind (rmodules b101 (by decide)) (Ev.pos (by omega) (Ev.pos (by omega) (Ev.pos (by omega) (Ev.bind (Ev.const ht) (Ev.bind r1 (Ev.bind (rmodules bMid (by decide)) (Ev.bind r2 (Ev.bind (rmodules b101 (by decide)) ?_))))))))
  have l1 := draw_mod_le (x.extract 1 7) (rdOf ByteArray.empty par13 (j : Int)) b0 (by rw [ex_size]; omega) (by rw [b0_size]; omega)
  have l2 := draw_mod_le (x.extract 7 x.size) ⟨#[67, 67, 67, 67, 67, 67]⟩ b0 (by rw [ex_size]; omega) (by rw [b0_size]; omega)
  have l3 : (modS b101).length ≤ 1000 := by decide
  have l4 : (modS bMid).length ≤ 1000 := by decide
  refine Ev.bind (rjoin _ (show 5 ≤ 10 by decide) (all5 l3 l1 l4 l2 l3)) (Ev.const ?_)
  unfold upcS
  rw [e]
  simp only [mod_app, List.flatten_cons, List.flatten_nil, List.append_nil, List.append_assoc]
theorem setE_of (s : ByteArray) (sy c : Nat) (h0 : bt s 0 = 48 + (sy : Int)) (h7 : (bt s 7 - 48) % 256 = (c : Int)) : setE s = setEN sy c := by
  unfold setE setEN
  rw [h7]
  by_cases h : sy = 1
  · rw [if_pos (by omega), if_pos h]
  · rw [if_neg (by omega), if_neg h]
theorem rsymbol (a : Int) (s : ByteArray) (h : cmpS a s = 0) : Ev (fun k => barscanref11_symbol.f k a s) (modS (symS a s)) := by
  obtain ⟨hn, hd, hz, h49, _⟩ := cmp_zero h
  unfold barscanref11_symbol.f symS
  have l3 : (modS b101).length ≤ 1000 := by decide
  have l4 : (modS bMid).length ≤ 1000 := by decide
  have l5 : (modS bEnd).length ≤ 1000 := by decide
  by_cases h2 : a = 2
  · subst h2
    have hz : s.size = 8 := by have : lenS 2 = 8 := by decide
                               omega
    have z3 : (⟨#[48, 48, 48, 48]⟩ : ByteArray).size = 4 := rfl
    have z4 : (⟨#[50, 50, 50, 50]⟩ : ByteArray).size = 4 := rfl
    have r1 := rrow (s.extract 0 4) ⟨#[48, 48, 48, 48]⟩ b0 (dig_extract hd 0 4) (by rw [ex_size]; omega) (by rw [ex_size]; omega) (ok_of _ (by decide)) (by rw [b0_size]; omega)
    have r2 := rrow (s.extract 4 s.size) ⟨#[50, 50, 50, 50]⟩ b0 (dig_extract hd 4 _) (by rw [ex_size]; omega) (by rw [ex_size]; omega) (ok_of _ (by decide)) (by rw [b0_size]; omega)
    rw [letr_A] at r1
    rw [letr_C4] at r2
    have l1 := draw_mod_le (s.extract 0 4) ⟨#[65, 65, 65, 65]⟩ b0 (by rw [ex_size]; omega) (by rw [b0_size]; omega)
    have l2 := draw_mod_le (s.extract 4 s.size) ⟨#[67, 67, 67, 67]⟩ b0 (by rw [ex_size]; omega) (by rw [b0_size]; omega)
    rw [if_pos rfl]
    refine Ev.pos rfl (Ev.bind (rmodules b101 (by decide)) (Ev.pos (by omega) (Ev.pos (by omega) (Ev.bind r1 (Ev.bind (rmodules bMid (by decide)) (Ev.bind r2 (Ev.bind (rmodules b101 (by decide)) ?_)))))))
    refine Ev.bind (rjoin _ (show 5 ≤ 10 by decide) (all5 l3 l1 l4 l2 l3)) (Ev.const ?_)
    simp only [mod_app, List.flatten_cons, List.flatten_nil, List.append_nil, List.append_assoc]
  rw [if_neg h2]
  refine Ev.neg h2 ?_
  by_cases h4 : a = 4
  · subst h4
    have hz : s.size = 8 := by rw [len4] at hz; omega
    rw [if_pos rfl]
    obtain ⟨c, hc, e⟩ := dig_val hd 7 (by omega)
    rw [show ((7 : Nat) : Int) = 7 from rfl] at e
    have d0 := dig_at hd 0 (by omega)
    rw [show ((0 : Nat) : Int) = 0 from rfl] at d0
    obtain ⟨sy, hsy, e0⟩ : ∃ sy : Nat, sy < 2 ∧ bt s 0 = 48 + (sy : Int) := ⟨(bt s 0 - 48).toNat, by omega, by omega⟩
    obtain ⟨t, ht, hl, hok, htz⟩ := setsE_at sy c hsy hc
    have r1 := rrow (s.extract 1 7) t b0 (dig_extract hd 1 7) (by rw [ex_size]; omega) (by rw [ex_size]; omega) (ok_of t hok) (by rw [b0_size]; omega)
    rw [hl, ← setE_of s sy c e0 e] at r1
    have l1 := draw_mod_le (s.extract 1 7) (setE s) b0 (by rw [ex_size]; omega) (by rw [b0_size]; omega)
    have e1 : ((bt s 0) - 48) % 256 = (sy : Int) := by omega
    rw [e, e1]
    refine Ev.pos rfl (Ev.bind (rmodules b101 (by decide)) (Ev.pos (by omega) (Ev.pos (by omega) (Ev.pos (by omega) (Ev.pos (by omega) (Ev.bind ht (Ev.bind r1 (Ev.bind (rmodules bEnd (by decide)) ?_))))))))
    refine Ev.bind (rjoin _ (show 3 ≤ 10 by decide) (all3 l3 l1 l5)) (Ev.const ?_)
    simp only [mod_app, List.flatten_cons, List.flatten_nil, List.append_nil, List.append_assoc]
  rw [if_neg h4]
  refine Ev.neg h4 ?_
  by_cases h3 : a = 3
  · subst h3
    have hz : s.size = 12 := by rw [len3] at hz; omega
    have z1 : (⟨#[48]⟩ : ByteArray).size = 1 := rfl
    rw [if_pos rfl]
    exact Ev.pos rfl (Ev.pos (by omega) (rupc _ (by rw [dig_append, hd]; rfl) (by rw [ap_size]; omega)))
  rw [if_neg h3]
  refine Ev.neg h3 (rupc s hd ?_)
  unfold lenS at hn hz
  by_cases h1 : a = 1
  · rw [if_pos h1] at hz; omega
  · rw [if_neg h1, if_neg (by omega), if_neg h3] at hn; omega
theorem raddition (o : ByteArray) (hd : allDig o = true) (hz : o.size = 2 ∨ o.size = 5) : Ev (fun k => barscanref11_addition.f k o) (modS (bAdd ++ drawS o (setsS o) b01)) := by
  obtain ⟨t, ht, hl, hok, htz⟩ := rsets o hz
  have z01 : b01.size = 2 := rfl
  have r1 := rrow o t b01 hd (by omega) (by omega) (ok_of t hok) (by omega)
  rw [hl] at r1
  have l1 := draw_mod_le o (setsS o) b01 (by omega) (by omega)
  have l2 : (modS bAdd).length ≤ 1000 := by decide
  unfold barscanref11_addition.f
  refine Ev.bind (rmodules bAdd (by decide)) (Ev.bind (Ev.const ht) (Ev.bind r1 ?_))
  refine Ev.bind (rjoin _ (show 2 ≤ 10 by decide) (all2 l2 l1)) (Ev.const ?_)
  simp only [mod_app, List.flatten_cons, List.flatten_nil, List.append_nil]
theorem rEncode (a : Int) (s o : ByteArray) (hs : s.size ≤ 9223372036854775807) (ho : o.size ≤ 9223372036854775807) : Ev (fun k => barscanref11_Encode.f k a s o) (encS a s o) := by
  unfold barscanref11_Encode.f encS
  refine Ev.bind (rcomplete a s hs) ?_
  by_cases h : cmpS a s = 0
  · rw [if_pos h]
    refine Ev.pos h (Ev.bind (rdig o ho) ?_)
    by_cases hd : allDig o = true
    · rw [if_pos hd]
      refine Ev.pos hd ?_
      have hsz := sym_size a s h
      have hm := marg_bd a
      have key : (o.size = 0 ∨ o.size = 2 ∨ o.size = 5) → Ev (fun k => barscanref11_Encode.j0 k a s o false) (modS (rowB a s o), 0) := by
        intro hc
        have j3 : Ev (fun k => barscanref11_Encode.j3 k a s o (margS a).1 (margS a).2) (modS (rowB a s o), 0) := by
          refine Ev.succ ?_
          simp only [barscanref11_Encode.j3]
          have l1 : (modS (zS (margS a).1)).length ≤ 1000 := by rw [mod_len, zS_size]; omega
          have l2 : (modS (zS (margS a).2)).length ≤ 1000 := by rw [mod_len, zS_size]; omega
          have l3 : (modS (symS a s)).length ≤ 1000 := by rw [mod_len]; omega
          unfold rowB
          by_cases h0 : o.size = 0
          · have e0 : o.toList = ([] : List UInt8) := by rw [bs_toList]; exact List.length_eq_zero_iff.1 ((bs_len o).trans h0)
            rw [if_pos h0]
            refine Ev.pos e0 (Ev.bind (Ev.const (rlight _ hm.1 (by omega))) (Ev.bind (rsymbol a s h) (Ev.bind (Ev.const (rlight _ hm.2.2.1 (by omega))) ?_)))
            refine Ev.bind (rjoin _ (show 3 ≤ 10 by decide) (all3 l1 l3 l2)) (Ev.const ?_)
            simp only [mod_app, List.flatten_cons, List.flatten_nil, List.append_nil, List.append_assoc]
          · have e0 : ¬ o.toList = ([] : List UInt8) := fun e => h0 (by rw [← bs_len, ← bs_toList, e]; rfl)
            have hc2 : o.size = 2 ∨ o.size = 5 := by omega
            have z01 : b01.size = 2 := rfl
            have d1 := draw_le o (setsS o) b01 (by omega) (by omega)
            have l4 : (modS (bAdd ++ drawS o (setsS o) b01)).length ≤ 1000 := by rw [mod_len, ap_size, show bAdd.size = 4 from rfl]; omega
            have l5 : (modS (zS 9)).length ≤ 1000 := by rw [mod_len, zS_size]; omega
            have l6 : (modS (zS 7)).length ≤ 1000 := by rw [mod_len, zS_size]; omega
            rw [if_neg h0]
            refine Ev.neg e0 (Ev.bind (Ev.const (rlight _ hm.1 (by omega))) (Ev.bind (rsymbol a s h) (Ev.bind (Ev.const (rlight 9 (by omega) (by omega))) (Ev.bind (raddition o hd hc2) (Ev.bind (Ev.const (rlight 7 (by omega) (by omega))) ?_)))))
            refine Ev.bind (rjoin _ (show 5 ≤ 10 by decide) (all5 l1 l3 l5 l4 l6)) (Ev.const ?_)
            simp only [mod_app, List.flatten_cons, List.flatten_nil, List.append_nil, List.append_assoc]
        refine Ev.succ ?_
        simp only [barscanref11_Encode.j0]
        refine Ev.neg (by decide) ?_
        by_cases h1 : a = 1
        · have em : margS a = (11, 7) := by unfold margS; rw [if_pos h1]
          rw [em] at j3
          refine Ev.pos h1 (Ev.succ ?_)
          simp only [barscanref11_Encode.j1]
          refine Ev.neg (by omega) (Ev.succ ?_)
          simp only [barscanref11_Encode.j2]
          exact Ev.neg (by omega) j3
        refine Ev.neg h1 (Ev.succ ?_)
        simp only [barscanref11_Encode.j1]
        by_cases h2 : a = 2
        · have em : margS a = (7, 7) := by unfold margS; rw [if_neg h1, if_pos h2]
          rw [em] at j3
          refine Ev.pos h2 (Ev.succ ?_)
          simp only [barscanref11_Encode.j2]
          exact Ev.neg (by omega) j3
        refine Ev.neg h2 (Ev.succ ?_)
        simp only [barscanref11_Encode.j2]
        by_cases h3 : a = 3
        · have em : margS a = (9, 9) := by unfold margS; rw [if_neg h1, if_neg h2, if_pos h3]
          rw [em] at j3
          exact Ev.pos h3 j3
        · have em : margS a = (9, 7) := by unfold margS; rw [if_neg h1, if_neg h2, if_neg h3]
          rw [em] at j3
          exact Ev.neg h3 j3
      by_cases hc : o.size = 0 ∨ o.size = 2 ∨ o.size = 5
      · rw [if_pos hc]
        have hk := key hc
        by_cases h0 : o.size = 0
        · exact Ev.pos (by omega) hk
        by_cases h2 : o.size = 2
        · exact Ev.neg (by omega) (Ev.pos (by omega) hk)
        · have e5 : ((o.size : Int) != 5) = false := bne_eq_false_iff_eq.2 (by omega)
          rw [e5]
          exact Ev.neg (by omega) (Ev.neg (by omega) hk)
      · rw [if_neg hc]
        have e5 : ((o.size : Int) != 5) = true := bne_iff_ne.2 (by omega)
        rw [e5]
        refine Ev.neg (by omega) (Ev.neg (by omega) (Ev.succ ?_))
        simp only [barscanref11_Encode.j0]
        exact Ev.pos trivial (Ev.const rfl)
    · rw [if_neg hd]
      exact Ev.neg hd (Ev.const rfl)
  · rw [if_neg h]
    exact Ev.neg h (Ev.const rfl)
/-! ### A row equals itself -/
theorem eq_l (l : List Bool) (hz : l.length ≤ 9223372036854775807) (n : Nat) : ∀ i : Nat, i + n = l.length → Ev (fun k => barscanref11_Equal.l0 k l l (i : Int)) true := by
  induction n with
  | zero =>
    intro i h
    refine Ev.succ ?_
    simp only [barscanref11_Equal.l0]
    exact Ev.neg (by omega) (Ev.const rfl)
  | succ n ih =>
    intro i h
    refine Ev.succ ?_
    simp only [barscanref11_Equal.l0]
    rw [wrap_next i (by omega)]
    exact Ev.pos (by omega) (Ev.pos (by omega) (Ev.pos (by omega) (Ev.neg (by simp) (ih (i + 1) (by omega)))))
theorem ev_equal (l : List Bool) (hz : l.length ≤ 9223372036854775807) : Ev (fun k => barscanlaw11_equal.f k l l) true := by
  unfold barscanlaw11_equal.f barscanref11_Equal.f
  exact Ev.bind (Ev.pos rfl (eq_l l hz l.length 0 (by omega))) (Ev.const rfl)
theorem enc_len (a : Int) (s o : ByteArray) : (encS a s o).1.length ≤ 1000 := by
  unfold encS
  by_cases h : cmpS a s = 0
  · rw [if_pos h]
    split
    · split
      · rename_i hc
        have hsz := sym_size a s h
        have hm := marg_bd a
        show (modS (rowB a s o)).length ≤ 1000
        rw [mod_len]
        unfold rowB
        have z01 : b01.size = 2 := rfl
        have zA : bAdd.size = 4 := rfl
        have d1 := draw_le o (setsS o) b01 (by omega) (by omega)
        split
        · simp only [ap_size, zS_size]; omega
        · simp only [ap_size, zS_size]; omega
      · exact Nat.zero_le _
    · exact Nat.zero_le _
  · rw [if_neg h]; exact Nat.zero_le _
end Go.Proofs.YtjmeekceecpemaaGreatDoor.Q

namespace Go.Proofs.YtjmeekceecpemaaGreatDoor.Q
open Go.RowKit Go.Proofs.YtjmeekceecpemaaGreatDoorW.PrintWords Go.Proofs.YtjmeekceecpemaaGreatDoorW.PrintLast Go.Proofs.YtjmeekceecpemaaGreatDoorW.PrintMore

set_option linter.unusedVariables false
set_option linter.unusedSimpArgs false

/-! ### barscanlaw11_EanEncodes: function 3 -/
def barscanlaw11_EanEncodes.f (k : Nat) (a0 : Int) (a1 : ByteArray) (a2 : ByteArray) : Option (Bool) := (ean_Encode.f k a0 a1 a2).bind fun bt494 => ((barscanref11_Encode.f k a0 a1 a2).bind fun bt498 => ((barscanlaw11_equal.f k bt494.1 bt498.1).bind fun t502 => (if t502 = true then (if bt494.2 = bt498.2 then ((barscanlaw11_examples.f k).bind fun t503 => (some t503)) else (some false)) else (some false))))
theorem barscanlaw11_EanEncodes.mono : ∀ a0 a1 a2 k, LeO (barscanlaw11_EanEncodes.f k a0 a1 a2) (barscanlaw11_EanEncodes.f (k + 1) a0 a1 a2) := by
  intro a0 a1 a2 k
  unfold barscanlaw11_EanEncodes.f
  repeat' with_reducible first | exact barscanlaw11_equal.mono _ _ _ | exact barscanlaw11_examples.mono _ | exact barscanref11_Encode.mono _ _ _ _ | exact ean_Encode.mono _ _ _ _ | exact LeO.refl _ | exact LeO.none _ | refine LeO.ite ?_ ?_ | refine LeO.bind ?_ (fun _ => ?_)
set_option maxHeartbeats 8000000 in
set_option maxRecDepth 100000 in
theorem barscanlaw11_EanEncodes.calls (k : Nat) (a0 : Int) (a1 : ByteArray) (a2 : ByteArray) (r : Bool) (w : World) (h : barscanlaw11_EanEncodes.f k a0 a1 a2 = some r) (hr : r = true) :
    Calls Tryz.prog 3 #[.int .i64 a0, .string a1, .string a2] w fun e w' => e = .returned (.bool r) ∧ Below w.heap.size w w' := by
 have HB := Aside0.mk (Below.refl w.heap.size w)
 have H := h
 clear h
 unfold barscanlaw11_EanEncodes.f at H
 replace H := bd H
 obtain ⟨⟨t494, t495⟩, A4, H⟩ := H
 replace H := bd H
 obtain ⟨⟨t498, t499⟩, A5, H⟩ := H
 replace H := bd H
 obtain ⟨t502, A6, H⟩ := H
 by_cases c7 : t502 = true
 rotate_left
 ·replace c7 := Bool.eq_false_iff.mpr c7
  subst c7
  rw [if_neg (show ¬ (false = true) by decide)] at H
  exact absurd ((Option.some.inj H).trans hr) Bool.false_ne_true
 subst c7
 rw [if_pos rfl] at H
 replace H := ifc H
 obtain ⟨c8, H⟩ | ⟨c8, H⟩ := H
 rotate_left
 ·have c8b0 : (t495 == t499) = false := beq_eq_false_iff_ne.mpr c8
  have c8b1 : (t495 != t499) = true := bne_iff_ne.mpr c8
  exact absurd ((Option.some.inj H).trans hr) Bool.false_ne_true
 have c8b0 : (t495 == t499) = true := beq_iff_eq.mpr c8
 have c8b1 : (t495 != t499) = false := bne_eq_false_iff_eq.mpr c8
 clear c8
 replace H := bd H
 obtain ⟨t503, A9, H⟩ := H
 obtain rfl := Option.some.inj H
 go_enter Tryz.func3, Tryz.ntmps3
 go_wp2_with (first | ((with_reducible refine gate_callee (f := 11) rfl ?_); refine goesL_ (some 15) rfl rfl Tryz.func11 kr rfl #[.int .i64 a0, .string a1, .string a2] rfl ar ?_; (with_reducible refine (ean_Encode.calls k a0 a1 a2 t494 t495 _ A4.out).mono ?_); rintro e w10 ⟨v496, rfl, ho0, hb⟩; refine ⟨_, rfl, ?_⟩; have n0_ := Aside0.mk (Kd.R_lower ho0 (below_size bw)); have n1_ := Aside0.mk (below_step bw hb); clear HB; have HO497 := n0_; have HB := n1_; clear n0_ n1_; clear hb; (try clear ho0)) | ((with_reducible refine gate_callee (f := 12) rfl ?_); refine goesL_ (some 22) rfl rfl Tryz.func12 kr rfl #[.int .i64 a0, .string a1, .string a2] rfl ar ?_; (with_reducible refine (barscanref11_Encode.calls k a0 a1 a2 t498 t499 _ A5.out).mono ?_); rintro e w11 ⟨v500, rfl, ho0, hb⟩; refine ⟨_, rfl, ?_⟩; have n0_ := Aside0.mk (Kd.R_elder' (kd HO497) (Kd.R_base ho0) hb); have n1_ := Aside0.mk (Kd.R_lower (Kd.R_new' ho0 (Kd.R_lt (kd HO497))) (below_size bw)); have n2_ := Aside0.mk (below_step bw hb); clear HO497; clear HB; have HO497 := n0_; have HO501 := n1_; have HB := n2_; clear n0_ n1_ n2_; clear hb; (try clear ho0); obtain ⟨Ao12, co12, eo12⟩ := Kd.R_slice HO497.out; subst eo12; obtain ⟨Ao13, co13, eo13⟩ := Kd.R_slice HO501.out; subst eo13) | ((with_reducible refine gate_callee (f := 13) rfl ?_); refine goesL_ (some 27) rfl rfl Tryz.func13 kr rfl #[.slice Ao12 t494.length co12, .slice Ao13 t498.length co13] rfl ar ?_; (with_reducible refine (barscanlaw11_equal.calls k _ _ t494 _ _ t498 true _ ?side1 ?side2 ?side3 ?side4 A6.out).mono ?_); (case side1 => repeat (first | exact (Kd.R_reads' HO497.out).2.2 | (with_reducible refine Kd.C_alloc ?_ _) | (with_reducible refine Kd.C_drewN ?_ _) | (with_reducible refine Kd.C_drew ?_))); (case side2 => exact (Kd.R_reads' HO497.out).2.1); (case side3 => repeat (first | exact (Kd.R_reads' HO501.out).2.2 | (with_reducible refine Kd.C_alloc ?_ _) | (with_reducible refine Kd.C_drewN ?_ _) | (with_reducible refine Kd.C_drew ?_))); (case side4 => exact (Kd.R_reads' HO501.out).2.1); rintro e w' ⟨rfl, ⟨nd, rfl⟩⟩; refine ⟨_, rfl, ?_⟩) | (go_at_call 14; (with_reducible refine (barscanlaw11_examples.calls k  t503 _ A9.out hr).mono ?_); rintro e w14 ⟨rfl, hb⟩; have n0_ := Aside0.mk (Kd.R_below (kd HO497) hb); have n1_ := Aside0.mk (Kd.R_below (kd HO501) hb); have n2_ := Aside0.mk (below_step bw hb); clear HO497; clear HO501; clear HB; have HO497 := n0_; have HO501 := n1_; have HB := n2_; clear n0_ n1_ n2_; clear hb))
 go_ret
 exact ⟨es, bw⟩
end Go.Proofs.YtjmeekceecpemaaGreatDoor.Q

/- The plain law EanEncodes. -/
namespace Go.Proofs.YtjmeekceecpemaaGreatDoor.Q
open Go.RowKit Go.Proofs.YtjmeekceecpemaaGreatDoorW.PrintWords Go.Proofs.YtjmeekceecpemaaGreatDoorW.PrintLast Go.Proofs.YtjmeekceecpemaaGreatDoorW.PrintMore
theorem encodes_law (a : Int) (s o : ByteArray) (hs : s.size ≤ 9223372036854775807) (ho : o.size ≤ 9223372036854775807) : ∃ K, barscanlaw11_EanEncodes.f K a s o = some true := by
  refine Ev.get ?_
  unfold barscanlaw11_EanEncodes.f
  have hl := enc_len a s o
  exact Ev.bind (gEncode a s o hs ho) (Ev.bind (rEncode a s o hs ho) (Ev.bind (ev_equal _ (by omega)) (Ev.pos rfl (Ev.pos rfl (Ev.bind ev_examples (Ev.const rfl))))))
end Go.Proofs.YtjmeekceecpemaaGreatDoor.Q

/- The law EanEncodes: its row and its card: Encode returns the specified row or error, for any kind, text and add-on. -/
namespace Go.Proofs.YtjmeekceecpemaaGreatDoor.eanEncodes
open Go.ChangeShapes Go.WideShapes Go.ChangeAt Go.RowKit
open Go.ChangeMaps (open_string shut_string)
set_option linter.unusedVariables false
set_option maxRecDepth 2000000 in
/-- WHAT THE WALK GIVES. -/
theorem contract (H : Type) (enc : TypeId × Value → H) (W : World) (base : Nat) (args : Array Value) (ds gs : List (DataW H)) (before : List MemPlace)
    (hval : ∀ (j : Nat) t v, Tryz.f3.params[j]? = some t → args[j]? = some v → Value.okWide Tryz.prog W .any base t v)
    (hW : DataW.Whole enc Tryz.prog Tryz.f3.params.toList Rows.eanEncodesSpec.vars false W args.toList ds gs before) (hL : laidMetH Tryz.prog Rows.eanEncodesRow.laid W) :
    Calls Tryz.prog 3 args W fun e W' => ∃ v, e = .returned v ∧ Rows.eanEncodesSpec.post enc Tryz.prog Tryz.f3 false true false false W args v W' := by
  have hW' := hW
  obtain ⟨p, q, hA0, hV, rfl, hfz, hnd⟩ := hW
  have hA : DataW.TrodAll enc Tryz.prog W 0 (fun _ => true) true Tryz.f3.params.toList args.toList ds p := hA0
  rw [Tryz.params3] at hA hval
  obtain ⟨v0, vs0, d0, ds0, p0, q0, hargs, rfl, rfl, h0, r0⟩ := trodAll_cons hA
  obtain ⟨v1, vs1, d1, ds1, p1, q1, rfl, rfl, rfl, h1, r1⟩ := trodAll_cons r0
  obtain ⟨v2, vs2, d2, ds2, p2, q2, rfl, rfl, rfl, h2, r2⟩ := trodAll_cons r1
  obtain ⟨rfl, rfl, rfl⟩ := trodAll_nil r2
  obtain rfl : args = #[v0, v1, v2] := by cases args; simp_all
  obtain ⟨rfl, rfl⟩ := trodVars_none hV
  obtain ⟨n0, rfl, rfl, rfl, y0⟩ := open_int Tryz.underlying22 (hval 0 22 v0 rfl rfl) h0
  obtain ⟨s1, rfl, rfl, rfl, y1⟩ := open_string Tryz.underlying9 (hval 1 9 v1 rfl rfl) h1
  have hz1 : s1.size ≤ 9223372036854775807 := Nat.le_trans y1 (by decide)
  obtain ⟨s2, rfl, rfl, rfl, y2⟩ := open_string Tryz.underlying9 (hval 2 9 v2 rfl rfl) h2
  have hz2 : s2.size ≤ 9223372036854775807 := Nat.le_trans y2 (by decide)
  clear hA0
  obtain ⟨K, hK⟩ := Q.encodes_law n0 s1 s2 hz1 hz2
  have walk := Q.barscanlaw11_EanEncodes.calls K n0 s1 s2 true W hK rfl
  refine walk.mono fun e W' ⟨he, hg⟩ => ?_
  subst he
  exact ⟨_, rfl, _, _, _, [], _, [], hW', trodAll_mk1 (shut_bool Tryz.underlying4 _), (trodAll_cons_mk (shut_int Tryz.underlying22 y0) (trodAll_cons_mk (shut_string Tryz.underlying9 y1) (trodAll_cons_mk (shut_string Tryz.underlying9 y2) trodAll_mk0))), rfl, hg.frame _, fun h => by cases h⟩
theorem reads (os : Os) {H : Type} (enc : TypeId × Value → H) : ∃ places, DataW.whole enc Tryz.prog ((Wit.laidWorld os).forCall (fun _ _ => 0) ⟨#[], #[.int .i64 0, .string ⟨#[]⟩, .string ⟨#[]⟩], []⟩).memory Tryz.f3.params.toList Rows.eanEncodesSpec.vars false (#[.int .i64 0, .string ⟨#[]⟩, .string ⟨#[]⟩] : Array Value).toList 8 = some ([.lit (.int .i64 0), .lit (.string []), .lit (.string [])], [], places) :=
  ⟨[], by kernel_rfl⟩
set_option maxRecDepth 100000 in
theorem lifted (os : Os) (started : os.Started) (H : Type) (enc : TypeId × Value → H) (F : Stop.Interp) :
    ReturnsInHanded {} Tryz.checked os 3 .any ((OpenSpec.ofChange Rows.eanEncodesSpec).preRow enc Tryz.prog Tryz.f3 Rows.eanEncodesRow.domain false Rows.eanEncodesRow.laid) (((OpenSpec.ofChange Rows.eanEncodesSpec).at F).post enc Tryz.prog Tryz.f3 false true false false) := by
  obtain ⟨places, hx⟩ := reads os enc
  refine returnsInHanded_of_row (C := Tryz.checked) (s := OpenSpec.ofChange Rows.eanEncodesSpec) Wit.own started (by kernel_rfl) Tryz.func3
    (witness_row_atRef (enc := enc) (C := Tryz.checked) false (Wit.laidWorld os) #[.int .i64 0, .string ⟨#[]⟩, .string ⟨#[]⟩] rfl (by kernel_rfl) (by kernel_rfl) (by kernel_rfl)
      (OpenSpec.preRow_of_cond 8 hx (by kernel_rfl) (fun k hk => by cases hk) (by kernel_rfl) (Wit.laid_met os _))) ?_
  intro W base args ds gs before hval hW _ _ _ hL _ _
  exact contract H enc W base args ds gs before hval hW hL
theorem said : Rows.EanEncodesSaid :=
  OpenClaim.holds_of_cond 3 Tryz.f3 rfl rfl rfl rfl rfl rfl rfl ⟨rfl, rfl, rfl, rfl, rfl⟩ rfl rfl rfl rfl rfl (by kernel_rfl) Tryz.func3 (by kernel_rfl)
    (of_decide_eq_true (by kernel_rfl)) (by unfold Func.isWrapper; first | (rw [if_pos (by decide +kernel)]; kernel_rfl) | (rw [if_neg (by decide +kernel)]; exact ⟨rfl, rfl⟩))
    (fun os started H enc _ F => by rw [OpenClaim.pre_eq_preRow]; exact lifted os started H enc F)
theorem plain (f : FuncId) (fn : Func) (hf : Tryz.pinned.checked.prog.funcNamed "barscan/barscanlaw11.EanEncodes" = some f) (hfn : Tryz.pinned.checked.prog.funcs[f]? = some fn) :
    true = Tryz.pinned.checked.prog.looks [] ∧ ∀ (j : Nat) t, fn.params[j]? = some t → Tryz.pinned.checked.prog.wantsStandIn t = false := by
  obtain rfl : f = 3 := Option.some.inj ((show Tryz.prog.funcNamed "barscan/barscanlaw11.EanEncodes" = some 3 by kernel_rfl).symm.trans hf) |>.symm
  obtain rfl : fn = Tryz.f3 := (Option.some.inj (Tryz.func3.symm.trans hfn)).symm
  refine ⟨by kernel_rfl, fun j t ht => ?_⟩
  rw [Tryz.params3] at ht
  have hm : t ∈ [22, 9, 9] := by
    have := Array.mem_of_getElem? ht
    simpa using this
  simp only [List.mem_cons, List.not_mem_nil, or_false] at hm
  rcases hm with rfl | rfl | rfl
  · exact (show Tryz.prog.wantsStandIn 22 = false by kernel_rfl)
  · exact (show Tryz.prog.wantsStandIn 9 = false by kernel_rfl)
  · exact (show Tryz.prog.wantsStandIn 9 = false by kernel_rfl)
/-- THE CARD. -/
theorem card : Rows.EanEncodesCardSaid :=
  Claim7.holds_tied_plain_at .later [] _ _ _ _ said (fun _ h => by cases h) (by kernel_rfl) (fun _ h => by cases h) eanEncodes_row_tie rfl ⟨rfl, rfl⟩ (by kernel_rfl) rfl plain (by kernel_rfl)
end Go.Proofs.YtjmeekceecpemaaGreatDoor.eanEncodes
