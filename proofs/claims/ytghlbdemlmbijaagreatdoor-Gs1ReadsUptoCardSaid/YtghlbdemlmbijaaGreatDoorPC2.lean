/- Joined by a program of this work (pack.py) out of the texts GForms2, GForm, Qgs1Fixed, Th1, Qgs1within, Qgs1two, Qgs1date, Qcheckdigitwithin, Qcheckdigitbackward, Qcheckdigitdigit, GChk1 of this seat, in build order. -/
import Derived.Test.YtghlbdemlmbijaaGreatDoorPC1
import Derived.Lib.Hide
import Derived.Shelf.Strings.SlTrimAscii
import Derived.WalkLawsBesides
import Derived.Deep.RegionWith
import Derived.Outline
/- gs1.forms: the walk. (Its six loops were written by a program.) -/
namespace Go.Proofs.YtghlbdemlmbijaaGreatDoor.Q
open Go.RowKit Go.Maps Go.WideMaps Go.Proofs.YtghlbdemlmbijaaGreatDoorW.PrintWords Go.Proofs.YtghlbdemlmbijaaGreatDoorW.PrintLast Go.Proofs.YtghlbdemlmbijaaGreatDoorW.PrintMore
set_option linter.unusedVariables false
set_option linter.unusedSimpArgs false
theorem Drawn0.of_eq {w w' : World} (h : w = w') : Drawn0 w w' := h ▸ Drawn0.refl w
set_option maxRecDepth 100000 in
set_option maxHeartbeats 4000000 in
theorem forms_calls (w : World) (hT : Tabs w) : Calls Tryz.prog 44 #[] w fun e w' => ∃ b, e = .returned (.map (some b)) ∧ Aside0 (w'.ownsMap Tryz.prog 9 readForm b 42 (putAll (.map []) items6)) ∧ Aside0 (Below w.heap.size w w') := by
  have hmm := @run_makeMap Tryz.prog
  have HT := Lib.hid hT
  clear hT
  have HO : Aside0 (MInv w (w.alloc (.map #[] 0)) w.heap.size 0 (.map [])) := ⟨⟨World.ownsMap_made _ _ _ _, (Below.refl _ _).alloc (Nat.le_refl _) _, Nat.le_refl _⟩⟩
  go_enter Tryz.func44, Tryz.ntmps44
  go_wp2_with (first
    | (go_at_call 56; refine (gs1_checked.calls _ _ _ _ _ _ _ rfl).mono ?_; rintro e w' ⟨rfl, hb⟩; have n_ := Aside0.mk (HO.out.below hb); clear HO hb; have HO := n_; clear n_)
    | (go_at_call 46; refine (gs1_number.calls _ _ _ _ _ _ _ rfl).mono ?_; rintro e w' ⟨rfl, hb⟩; have n_ := Aside0.mk (HO.out.below hb); clear HO hb; have HO := n_; clear n_)
    | (go_at_call 57; refine (gs1_text.calls _ _ _ _ _ _ _ rfl).mono ?_; rintro e w' ⟨rfl, hb⟩; have n_ := Aside0.mk (HO.out.below hb); clear HO hb; have HO := n_; clear n_)
    | (refine wpList_insert_own _ rfl _ _ _ 72 rfl 9 45 strLaw Tryz.underlying72 readForm _ _ _ rfl HO.out.own (by unfold maxLen; omega) (.string ⟨#[48, 48]⟩) (formV (18, 18, true, true, false)) (kl [48, 48]) rfl rfl (keyOf_string_mk Tryz.underlying9 (s := ⟨#[48, 48]⟩) (by decide)) (formD (18, 18, true, true, false)) [] rfl ?_; intro w1 ho hg; have n_ := Aside0.mk (HO.out.put ho hg); clear HO ho hg; have HO := n_; clear n_)
    | (refine wpList_insert_own _ rfl _ _ _ 72 rfl 9 45 strLaw Tryz.underlying72 readForm _ _ _ rfl HO.out.own (by unfold maxLen; omega) (.string ⟨#[48, 49]⟩) (formV (14, 14, true, true, false)) (kl [48, 49]) rfl rfl (keyOf_string_mk Tryz.underlying9 (s := ⟨#[48, 49]⟩) (by decide)) (formD (14, 14, true, true, false)) [] rfl ?_; intro w1 ho hg; have n_ := Aside0.mk (HO.out.put ho hg); clear HO ho hg; have HO := n_; clear n_)
    | (refine wpList_insert_own _ rfl _ _ _ 72 rfl 9 45 strLaw Tryz.underlying72 readForm _ _ _ rfl HO.out.own (by unfold maxLen; omega) (.string ⟨#[48, 50]⟩) (formV (14, 14, true, true, false)) (kl [48, 50]) rfl rfl (keyOf_string_mk Tryz.underlying9 (s := ⟨#[48, 50]⟩) (by decide)) (formD (14, 14, true, true, false)) [] rfl ?_; intro w1 ho hg; have n_ := Aside0.mk (HO.out.put ho hg); clear HO ho hg; have HO := n_; clear n_)
    | (refine wpList_insert_own _ rfl _ _ _ 72 rfl 9 45 strLaw Tryz.underlying72 readForm _ _ _ rfl HO.out.own (by unfold maxLen; omega) (.string ⟨#[50, 48]⟩) (formV (2, 2, true, false, false)) (kl [50, 48]) rfl rfl (keyOf_string_mk Tryz.underlying9 (s := ⟨#[50, 48]⟩) (by decide)) (formD (2, 2, true, false, false)) [] rfl ?_; intro w1 ho hg; have n_ := Aside0.mk (HO.out.put ho hg); clear HO ho hg; have HO := n_; clear n_)
    | (refine wpList_insert_own _ rfl _ _ _ 72 rfl 9 45 strLaw Tryz.underlying72 readForm _ _ _ rfl HO.out.own (by unfold maxLen; omega) (.string ⟨#[56, 48, 50, 48]⟩) (formV (0, 25, false, false, false)) (kl [56, 48, 50, 48]) rfl rfl (keyOf_string_mk Tryz.underlying9 (s := ⟨#[56, 48, 50, 48]⟩) (by decide)) (formD (0, 25, false, false, false)) [] rfl ?_; intro w1 ho hg; have n_ := Aside0.mk (HO.out.put ho hg); clear HO ho hg; have HO := n_; clear n_))

  (have hTW : Tabs _ := HT.out.below HO.out.bel); (refine (fields1 _ hTW).mono ?_); clear hTW; rintro e w' ⟨rfl, rfl⟩
  have HF1 := Aside0.mk ((FInv.start HO.out names1).cast (D' := putAll (.map []) items0) (n' := 5) rfl rfl)
  clear HO
  go_wp2_with fail
  go_loopw [23] (fun v wr => ∃ k : Nat, k ≤ 6 ∧ v = .int .i64 k ∧ Aside0 (FInv w wr w.heap.size _ names1 (5 + k) (putAll (.map []) (items0 ++ (names1.take k).map fun x => (x, form1))))) (fun v _ => 6 - (intOf v).toNat)
  case atStart => exact ⟨0, Nat.zero_le _, rfl, ⟨HF1.out.cast (by simp) rfl⟩⟩
  case round =>
    clear HF1
    obtain ⟨k, hk, rfl, HR⟩ := hrel
    by_cases hlt : k < 6
    · have hkn : k < names1.length := hlt
      have hc0 := HR.out.cell k hkn
      have hD := snoc_take items0 names1 form1 k hkn
      have h4 : ∀ y ∈ names1, y.length ≤ 4 := by decide
      have hx4 := h4 _ (List.getElem_mem hkn)
      generalize hx : names1[k] = x at hc0 hD hx4
      have HD := Lib.hid hD
      have HK := Lib.hid (keyOf_string_mk Tryz.underlying9 (s := ⟨x.toArray⟩) (by unfold maxLen; show x.length ≤ _; omega))
      clear hD h4 hx4 hx hkn
      go_wp2_with (first | (at_mapUpdate; refine wpList_mapUpdate_own _ rfl _ _ _ 72 rfl 9 45 strLaw Tryz.underlying72 readForm _ _ _ rfl HR.out.m.own (by unfold maxLen; omega) (.string ⟨x.toArray⟩) (formV form1) (kl x) rfl rfl HK.out (formD form1) [] rfl ?_; intro w2 ho hg; have n_ := Aside0.mk (HR.out.put ho hg); clear HR ho hg; have HR := n_; clear n_))
      go_roundw
      case rel => exact ⟨k + 1, by omega, by go_num, ⟨HR.out.cast (by rw [HD.out, putAll_snoc]) rfl⟩⟩
      case measure => simp [intOf]; omega
    · obtain rfl : k = 6 := by omega
      have HO := Aside0.mk (HR.out.m.cast (D' := putAll (.map []) items1) (n' := 11) rfl rfl)
      clear HR hk hlt
      go_wp2_with fail
      (have hTW : Tabs _ := HT.out.below HO.out.bel); (refine (fields2 _ hTW).mono ?_); clear hTW; rintro e w' ⟨rfl, rfl⟩
      have HF2 := Aside0.mk (FInv.start HO.out names2)
      clear HO
      go_wp2_with fail
      go_loopw [33] (fun v wr => ∃ k : Nat, k ≤ 8 ∧ v = .int .i64 k ∧ Aside0 (FInv w wr w.heap.size _ names2 (11 + k) (putAll (.map []) (items1 ++ (names2.take k).map fun x => (x, form2))))) (fun v _ => 8 - (intOf v).toNat)
      case atStart => exact ⟨0, Nat.zero_le _, rfl, ⟨HF2.out.cast (by simp) rfl⟩⟩
      case round =>
        clear HF2
        obtain ⟨k, hk, rfl, HR⟩ := hrel
        by_cases hlt : k < 8
        · have hkn : k < names2.length := hlt
          have hc0 := HR.out.cell k hkn
          have hD := snoc_take items1 names2 form2 k hkn
          have h4 : ∀ y ∈ names2, y.length ≤ 4 := by decide
          have hx4 := h4 _ (List.getElem_mem hkn)
          generalize hx : names2[k] = x at hc0 hD hx4
          have HD := Lib.hid hD
          have HK := Lib.hid (keyOf_string_mk Tryz.underlying9 (s := ⟨x.toArray⟩) (by unfold maxLen; show x.length ≤ _; omega))
          clear hD h4 hx4 hx hkn
          go_wp2_with (first | (go_at_call 56; refine (gs1_checked.calls _ _ _ _ _ _ _ rfl).mono ?_; rintro e w2 ⟨rfl, hb⟩; have n_ := Aside0.mk (HR.out.below hb); clear HR hb; have HR := n_; clear n_) | (at_mapUpdate; refine wpList_mapUpdate_own _ rfl _ _ _ 72 rfl 9 45 strLaw Tryz.underlying72 readForm _ _ _ rfl HR.out.m.own (by unfold maxLen; omega) (.string ⟨x.toArray⟩) (formV form2) (kl x) rfl rfl HK.out (formD form2) [] rfl ?_; intro w2 ho hg; have n_ := Aside0.mk (HR.out.put ho hg); clear HR ho hg; have HR := n_; clear n_))
          go_roundw
          case rel => exact ⟨k + 1, by omega, by go_num, ⟨HR.out.cast (by rw [HD.out, putAll_snoc]) rfl⟩⟩
          case measure => simp [intOf]; omega
        · obtain rfl : k = 8 := by omega
          have HO := Aside0.mk (HR.out.m.cast (D' := putAll (.map []) items2) (n' := 19) rfl rfl)
          clear HR hk hlt
          go_wp2_with fail
          (have hTW : Tabs _ := HT.out.below HO.out.bel); (refine (fields3 _ hTW).mono ?_); clear hTW; rintro e w' ⟨rfl, rfl⟩
          have HF3 := Aside0.mk (FInv.start HO.out names3)
          clear HO
          go_wp2_with fail
          go_loopw [43] (fun v wr => ∃ k : Nat, k ≤ 2 ∧ v = .int .i64 k ∧ Aside0 (FInv w wr w.heap.size _ names3 (19 + k) (putAll (.map []) (items2 ++ (names3.take k).map fun x => (x, form3))))) (fun v _ => 2 - (intOf v).toNat)
          case atStart => exact ⟨0, Nat.zero_le _, rfl, ⟨HF3.out.cast (by simp) rfl⟩⟩
          case round =>
            clear HF3
            obtain ⟨k, hk, rfl, HR⟩ := hrel
            by_cases hlt : k < 2
            · have hkn : k < names3.length := hlt
              have hc0 := HR.out.cell k hkn
              have hD := snoc_take items2 names3 form3 k hkn
              have h4 : ∀ y ∈ names3, y.length ≤ 4 := by decide
              have hx4 := h4 _ (List.getElem_mem hkn)
              generalize hx : names3[k] = x at hc0 hD hx4
              have HD := Lib.hid hD
              have HK := Lib.hid (keyOf_string_mk Tryz.underlying9 (s := ⟨x.toArray⟩) (by unfold maxLen; show x.length ≤ _; omega))
              clear hD h4 hx4 hx hkn
              go_wp2_with (first | (at_mapUpdate; refine wpList_mapUpdate_own _ rfl _ _ _ 72 rfl 9 45 strLaw Tryz.underlying72 readForm _ _ _ rfl HR.out.m.own (by unfold maxLen; omega) (.string ⟨x.toArray⟩) (formV form3) (kl x) rfl rfl HK.out (formD form3) [] rfl ?_; intro w2 ho hg; have n_ := Aside0.mk (HR.out.put ho hg); clear HR ho hg; have HR := n_; clear n_))
              go_roundw
              case rel => exact ⟨k + 1, by omega, by go_num, ⟨HR.out.cast (by rw [HD.out, putAll_snoc]) rfl⟩⟩
              case measure => simp [intOf]; omega
            · obtain rfl : k = 2 := by omega
              have HO := Aside0.mk (HR.out.m.cast (D' := putAll (.map []) items3) (n' := 21) rfl rfl)
              clear HR hk hlt
              go_wp2_with fail
              (have hTW : Tabs _ := HT.out.below HO.out.bel); (refine (fields4 _ hTW).mono ?_); clear hTW; rintro e w' ⟨rfl, rfl⟩
              have HF4 := Aside0.mk (FInv.start HO.out names4)
              clear HO
              go_wp2_with fail
              go_loopw [53] (fun v wr => ∃ k : Nat, k ≤ 4 ∧ v = .int .i64 k ∧ Aside0 (FInv w wr w.heap.size _ names4 (21 + k) (putAll (.map []) (items3 ++ (names4.take k).map fun x => (x, form4))))) (fun v _ => 4 - (intOf v).toNat)
              case atStart => exact ⟨0, Nat.zero_le _, rfl, ⟨HF4.out.cast (by simp) rfl⟩⟩
              case round =>
                clear HF4
                obtain ⟨k, hk, rfl, HR⟩ := hrel
                by_cases hlt : k < 4
                · have hkn : k < names4.length := hlt
                  have hc0 := HR.out.cell k hkn
                  have hD := snoc_take items3 names4 form4 k hkn
                  have h4 : ∀ y ∈ names4, y.length ≤ 4 := by decide
                  have hx4 := h4 _ (List.getElem_mem hkn)
                  generalize hx : names4[k] = x at hc0 hD hx4
                  have HD := Lib.hid hD
                  have HK := Lib.hid (keyOf_string_mk Tryz.underlying9 (s := ⟨x.toArray⟩) (by unfold maxLen; show x.length ≤ _; omega))
                  clear hD h4 hx4 hx hkn
                  go_wp2_with (first | (go_at_call 57; refine (gs1_text.calls _ _ _ _ _ _ _ rfl).mono ?_; rintro e w2 ⟨rfl, hb⟩; have n_ := Aside0.mk (HR.out.below hb); clear HR hb; have HR := n_; clear n_) | (at_mapUpdate; refine wpList_mapUpdate_own _ rfl _ _ _ 72 rfl 9 45 strLaw Tryz.underlying72 readForm _ _ _ rfl HR.out.m.own (by unfold maxLen; omega) (.string ⟨x.toArray⟩) (formV form4) (kl x) rfl rfl HK.out (formD form4) [] rfl ?_; intro w2 ho hg; have n_ := Aside0.mk (HR.out.put ho hg); clear HR ho hg; have HR := n_; clear n_))
                  go_roundw
                  case rel => exact ⟨k + 1, by omega, by go_num, ⟨HR.out.cast (by rw [HD.out, putAll_snoc]) rfl⟩⟩
                  case measure => simp [intOf]; omega
                · obtain rfl : k = 4 := by omega
                  have HO := Aside0.mk (HR.out.m.cast (D' := putAll (.map []) items4) (n' := 25) rfl rfl)
                  clear HR hk hlt
                  go_wp2_with fail
                  (have hTW : Tabs _ := HT.out.below HO.out.bel); (refine (fields5 _ hTW).mono ?_); clear hTW; rintro e w' ⟨rfl, rfl⟩
                  have HF5 := Aside0.mk (FInv.start HO.out names5)
                  clear HO
                  go_wp2_with fail
                  go_loopw [63] (fun v wr => ∃ k : Nat, k ≤ 8 ∧ v = .int .i64 k ∧ Aside0 (FInv w wr w.heap.size _ names5 (25 + k) (putAll (.map []) (items4 ++ (names5.take k).map fun x => (x, form5))))) (fun v _ => 8 - (intOf v).toNat)
                  case atStart => exact ⟨0, Nat.zero_le _, rfl, ⟨HF5.out.cast (by simp) rfl⟩⟩
                  case round =>
                    clear HF5
                    obtain ⟨k, hk, rfl, HR⟩ := hrel
                    by_cases hlt : k < 8
                    · have hkn : k < names5.length := hlt
                      have hc0 := HR.out.cell k hkn
                      have hD := snoc_take items4 names5 form5 k hkn
                      have h4 : ∀ y ∈ names5, y.length ≤ 4 := by decide
                      have hx4 := h4 _ (List.getElem_mem hkn)
                      generalize hx : names5[k] = x at hc0 hD hx4
                      have HD := Lib.hid hD
                      have HK := Lib.hid (keyOf_string_mk Tryz.underlying9 (s := ⟨x.toArray⟩) (by unfold maxLen; show x.length ≤ _; omega))
                      clear hD h4 hx4 hx hkn
                      go_wp2_with (first | (go_at_call 57; refine (gs1_text.calls _ _ _ _ _ _ _ rfl).mono ?_; rintro e w2 ⟨rfl, hb⟩; have n_ := Aside0.mk (HR.out.below hb); clear HR hb; have HR := n_; clear n_) | (at_mapUpdate; refine wpList_mapUpdate_own _ rfl _ _ _ 72 rfl 9 45 strLaw Tryz.underlying72 readForm _ _ _ rfl HR.out.m.own (by unfold maxLen; omega) (.string ⟨x.toArray⟩) (formV form5) (kl x) rfl rfl HK.out (formD form5) [] rfl ?_; intro w2 ho hg; have n_ := Aside0.mk (HR.out.put ho hg); clear HR ho hg; have HR := n_; clear n_))
                      go_roundw
                      case rel => exact ⟨k + 1, by omega, by go_num, ⟨HR.out.cast (by rw [HD.out, putAll_snoc]) rfl⟩⟩
                      case measure => simp [intOf]; omega
                    · obtain rfl : k = 8 := by omega
                      have HO := Aside0.mk (HR.out.m.cast (D' := putAll (.map []) items5) (n' := 33) rfl rfl)
                      clear HR hk hlt
                      go_wp2_with fail
                      (have hTW : Tabs _ := HT.out.below HO.out.bel); (refine (fields6 _ hTW).mono ?_); clear hTW; rintro e w' ⟨rfl, rfl⟩
                      have HF6 := Aside0.mk (FInv.start HO.out names6)
                      clear HO
                      go_wp2_with fail
                      go_loopw [73] (fun v wr => ∃ k : Nat, k ≤ 9 ∧ v = .int .i64 k ∧ Aside0 (FInv w wr w.heap.size _ names6 (33 + k) (putAll (.map []) (items5 ++ (names6.take k).map fun x => (x, form6))))) (fun v _ => 9 - (intOf v).toNat)
                      case atStart => exact ⟨0, Nat.zero_le _, rfl, ⟨HF6.out.cast (by simp) rfl⟩⟩
                      case round =>
                        clear HF6
                        obtain ⟨k, hk, rfl, HR⟩ := hrel
                        by_cases hlt : k < 9
                        · have hkn : k < names6.length := hlt
                          have hc0 := HR.out.cell k hkn
                          have hD := snoc_take items5 names6 form6 k hkn
                          have h4 : ∀ y ∈ names6, y.length ≤ 4 := by decide
                          have hx4 := h4 _ (List.getElem_mem hkn)
                          generalize hx : names6[k] = x at hc0 hD hx4
                          have HD := Lib.hid hD
                          have HK := Lib.hid (keyOf_string_mk Tryz.underlying9 (s := ⟨x.toArray⟩) (by unfold maxLen; show x.length ≤ _; omega))
                          clear hD h4 hx4 hx hkn
                          go_wp2_with (first | (go_at_call 57; refine (gs1_text.calls _ _ _ _ _ _ _ rfl).mono ?_; rintro e w2 ⟨rfl, hb⟩; have n_ := Aside0.mk (HR.out.below hb); clear HR hb; have HR := n_; clear n_) | (at_mapUpdate; refine wpList_mapUpdate_own _ rfl _ _ _ 72 rfl 9 45 strLaw Tryz.underlying72 readForm _ _ _ rfl HR.out.m.own (by unfold maxLen; omega) (.string ⟨x.toArray⟩) (formV form6) (kl x) rfl rfl HK.out (formD form6) [] rfl ?_; intro w2 ho hg; have n_ := Aside0.mk (HR.out.put ho hg); clear HR ho hg; have HR := n_; clear n_))
                          go_roundw
                          case rel => exact ⟨k + 1, by omega, by go_num, ⟨HR.out.cast (by rw [HD.out, putAll_snoc]) rfl⟩⟩
                          case measure => simp [intOf]; omega
                        · obtain rfl : k = 9 := by omega
                          have HO := Aside0.mk (HR.out.m.cast (D' := putAll (.map []) items6) (n' := 42) rfl rfl)
                          clear HR hk hlt
                          go_wp2
                          go_ret
                          exact ⟨_, rfl, ⟨HO.out.own⟩, ⟨HO.out.bel⟩⟩
end Go.Proofs.YtghlbdemlmbijaaGreatDoor.Q

/- gs1.formOf: what it answers for every string. -/
namespace Go.Proofs.YtghlbdemlmbijaaGreatDoor.Q
open Go.RowKit Go.Maps Go.WideMaps Go.Proofs.YtghlbdemlmbijaaGreatDoorW.PrintWords Go.Proofs.YtghlbdemlmbijaaGreatDoorW.PrintLast Go.Proofs.YtghlbdemlmbijaaGreatDoorW.PrintMore
set_option linter.unusedVariables false
set_option linter.unusedSimpArgs false

theorem zeroForm (w : World) : (zeroValue 45).run Tryz.prog w = .ok (formV z0) w := by kernel_rfl
theorem items6_apart : items6.Pairwise fun a b => a.1 ≠ b.1 := by decide +kernel
/-- From 310 to 316 or from 320 to 337. -/
def inRange (g : List UInt8) : Bool := (!(Op.bytesLess g [51, 49, 48]) && (Op.bytesLess g [51, 49, 54] || g == [51, 49, 54])) || (!(Op.bytesLess g [51, 50, 48]) && (Op.bytesLess g [51, 51, 55] || g == [51, 51, 55]))
def okForm (f : Form) : Int × Int × Bool × Bool × Bool × Bool := (f.1, f.2.1, f.2.2.1, f.2.2.2.1, f.2.2.2.2, true)
def noForm : Int × Int × Bool × Bool × Bool × Bool := (0, 0, false, false, false, false)
def restForm (l : List UInt8) : Int × Int × Bool × Bool × Bool × Bool :=
  if l.length = 4 then
    if l.all isDig = true then
      if inRange (l.take 3) = true ∧ (l.getD 3 0).toNat ≤ 53 then okForm (6, 6, true, false, false)
      else if l.take 3 = [51, 57, 48] ∨ l.take 3 = [51, 57, 50] then okForm (0, 15, true, false, false) else noForm
    else noForm
  else noForm
def formOfS (l : List UInt8) : Int × Int × Bool × Bool × Bool × Bool := match look items6 l with | some f => okForm f | none => restForm l
def gs1_formOf.f (a0 : ByteArray) : Option (Int × Int × Bool × Bool × Bool × Bool) := if a0.size < 4294967281 then some (formOfS (bs a0)) else none
theorem items6_at (k : List UInt8) : (∀ z, (putAll (.map []) items6).atKey (kl k) z = match look items6 k with | some f => formD f | none => (DataW.map [] : DataW Unit).atKey (kl k) z) ∧ has (putAll (.map []) items6) (kl k) = ((look items6 k).isSome || false) :=
  putAll_at items6 items6_apart k (.map []) isMap_empty

theorem bcell {W w1 : World} (hb : Below W.heap.size W w1) : (∀ b o, b < W.heap.size → w1.cell? ⟨b, o, none⟩ = W.cell? ⟨b, o, none⟩) ∧ (∀ b o, b < W.heap.size → w1.frozen? ⟨b, o, none⟩ = W.frozen? ⟨b, o, none⟩) :=
  ⟨fun b o h => hb.cell (p := ⟨b, o, none⟩) h, fun b o h => hb.frozen (p := ⟨b, o, none⟩) h⟩
set_option maxRecDepth 100000 in
set_option maxHeartbeats 4000000 in
theorem formOf_named (s : ByteArray) (f0 f1 : Int) (f2 f3 f4 : Bool) (w : World) (hT : Tabs w) (hs : s.size < 4294967281) (hl : look items6 (bs s) = some (f0, f1, f2, f3, f4)) :
    Calls Tryz.prog 22 #[.string s] w fun e w' => e = .returned (.tuple #[.agg #[.int .i64 f0, .int .i64 f1, .bool f2, .bool f3, .bool f4], .bool true]) ∧ Below w.heap.size w w' := by
  have h1 := (items6_at (bs s)).1 (formD z0)
  have h2 := (items6_at (bs s)).2
  rw [hl] at h1 h2
  have HA := Lib.hid h1
  have HH := Lib.hid h2
  have HK := Lib.hid (keyOf_string_mk Tryz.underlying9 (s := s) (by unfold maxLen; omega))
  have HT := Lib.hid hT
  clear h1 h2 hl hT
  go_enter Tryz.func22, Tryz.ntmps22
  go_wp2_with (first
    | (go_at_call 44; refine (forms_calls _ (HT.out.below (by first | exact Below.refl _ _ | exact (Below.refl _ _).alloc (Nat.le_refl _) _))).mono ?_; rintro e w' ⟨b, rfl, HO, HB⟩; obtain ⟨hc, hf⟩ := bcell HB.out; have hz : w.heap.size < w'.heap.size := by (have := HB.out.size; simp at this; omega))
    | (at_lookup; refine wpList_lookup_own_ok _ rfl _ _ 72 rfl 9 45 strLaw Tryz.underlying72 readForm (zeroForm _) (formD z0) [] rfl _ 42 _ rfl HO.out _ (kl (bs s)) rfl HK.out ?_; intro v ps hv; rw [HA.out] at hv; obtain rfl : v = .agg #[.int .i64 f0, .int .i64 f1, .bool f2, .bool f3, .bool f4] := readForm_inv hv; clear hv; rw [HH.out]))
  have B0 : Below w.heap.size w w' := below_step ((Below.refl w.heap.size w).alloc (Nat.le_refl _) _) HB.out
  refine bodyPost_ret (v := .tuple #[.agg #[.int .i64 f0, .int .i64 f1, .bool f2, .bool f3, .bool f4], .bool true]) (by simp [results, Tryz.results22, go_sem, hc, hf, hz]) rfl ⟨rfl, ?_⟩
  repeat (first | exact B0 | apply below_alloc | refine below_set ?_ (Nat.le_refl _))
theorem all_not_digits (l : List UInt8) (h : ∀ x ∈ l, isDig x = true) : l.dropWhile ((bs digitsS).contains ·) = [] := by
  induction l with
  | nil => rfl
  | cons a l ih =>
    have ha : (bs digitsS).contains a = true := by have := mem_digits a; rw [h a (by simp)] at this; simpa using this
    rw [List.dropWhile_cons_of_pos ha]
    exact ih fun x hx => h x (by simp [hx])
theorem not_digit (x : UInt8) (hd : isDig x = false) : (bs digitsS).contains x = false := by
  have := mem_digits x; rw [hd] at this; simpa using this
theorem mem_drop (x : UInt8) (hd : isDig x = false) (l : List UInt8) (h : x ∈ l) : x ∈ l.dropWhile ((bs digitsS).contains ·) := by
  induction l with
  | nil => exact h
  | cons a l ih =>
    by_cases ha : (bs digitsS).contains a = true
    · rw [List.dropWhile_cons_of_pos ha]
      rcases List.mem_cons.1 h with rfl | h
      · rw [not_digit _ hd] at ha; cases ha
      · exact ih h
    · rw [List.dropWhile_cons_of_neg (by simpa using ha)]; exact h
theorem trim_empty (l : List UInt8) : (Lib.trimS l (bs digitsS)).isEmpty = l.all isDig := by
  unfold Lib.trimS Lib.trimLeftS Lib.trimRightS
  rcases h : l.all isDig with _ | _
  · rw [List.all_eq_false] at h
    obtain ⟨x, hx, hd⟩ := h
    have hd : isDig x = false := by simpa using hd
    rw [List.isEmpty_eq_false_iff]
    exact List.ne_nil_of_mem (mem_drop x hd _ (List.mem_reverse.2 (mem_drop x hd _ (List.mem_reverse.2 hx))))
  · rw [List.all_eq_true] at h
    rw [List.isEmpty_iff]
    have : (l.reverse.dropWhile ((bs digitsS).contains ·)) = [] := all_not_digits _ fun x hx => h x (List.mem_reverse.1 hx)
    rw [this]; rfl
/-- strings.Trim of the digits: nothing is left just where all bytes are digits. -/
theorem trim_calls (s : ByteArray) (w : World) (hs : s.size ≤ 9223372036854775807) : Calls Tryz.prog 45 #[.string s, .string digitsS] w fun e w' => ∃ t : ByteArray, e = .returned (.string t) ∧ t.toList.isEmpty = allDig s ∧ Below w.heap.size w w' := by
  refine (Any.strings_Trim_laid Tryz.lays160 (by kernel_rfl) s digitsS w hs (by decide) (ascii_of_all (by decide))).mono fun e w' ⟨he, hb⟩ => ⟨_, he, ?_, hb⟩
  rw [Lib.toList_data]
  exact trim_empty (bs s)
def numV (a b : Int) (d ok : Bool) : Value := .tuple #[.agg #[.int .i64 a, .int .i64 b, .bool d, .bool false, .bool false], .bool ok]
set_option maxRecDepth 100000 in
set_option maxHeartbeats 8000000 in
theorem formOf_num (s : ByteArray) (w : World) (hT : Tabs w) (hs : s.size = 4) (hl : look items6 (bs s) = none) (hd : allDig s = true) :
    Calls Tryz.prog 22 #[.string s] w fun e w' => e = .returned (if (inRange (s.extract 0 3).toList && decide (bt s 3 ≤ 53)) = true then numV 6 6 true true else if ((s.extract 0 3).toList == [51, 57, 48] || (s.extract 0 3).toList == [51, 57, 50]) = true then numV 0 15 true true else numV 0 0 false false) ∧ Below w.heap.size w w' := by
  have h1 := (items6_at (bs s)).1 (formD z0)
  have h2 := (items6_at (bs s)).2
  rw [hl] at h1 h2
  have HA := Lib.hid (show (putAll (.map []) items6).atKey (kl (bs s)) (formD z0) = formD z0 from h1)
  have HH := Lib.hid (show has (putAll (.map []) items6) (kl (bs s)) = false from h2)
  have HK := Lib.hid (keyOf_string_mk Tryz.underlying9 (s := s) (by unfold maxLen; omega))
  have HT := Lib.hid hT
  have HD := Lib.hid hd
  clear h1 h2 hl hT hd
  have l1 : ((s.size : Int) == 4) = true := beq_iff_eq.mpr (by omega)
  have l2 : ((s.size : Int) != 4) = false := bne_eq_false_iff_eq.mpr (by omega)
  have l3 : (s.size == 4) = true := beq_iff_eq.mpr hs
  have l4 : (3 ≤ (s.size : Int)) = True := eq_true (by omega)
  have l5 : (3 ≤ s.size) = True := eq_true (by omega)
  have l6 : (3 < s.size) = True := eq_true (by omega)
  have l7 : (3 < (s.size : Int)) = True := eq_true (by omega)
  have hb3 : ∀ h : 3 < s.size, ((s[3]'h).toNat : Int) = bt s 3 := bt_at s 3
  have HS := Lib.hid hs
  clear hs
  go_enter Tryz.func22, Tryz.ntmps22
  go_upto_region 7 with (first
    | (go_at_call 44; refine (forms_calls _ (HT.out.below (by first | exact Below.refl _ _ | exact (Below.refl _ _).alloc (Nat.le_refl _) _))).mono ?_; rintro e w' ⟨b, rfl, HO, HB⟩; obtain ⟨hc, hf⟩ := bcell HB.out; have hz : w.heap.size < w'.heap.size := by (have := HB.out.size; simp at this; omega))
    | (at_lookup; refine wpList_lookup_own_ok _ rfl _ _ 72 rfl 9 45 strLaw Tryz.underlying72 readForm (zeroForm _) (formD z0) [] rfl _ 42 _ rfl HO.out _ (kl (bs s)) rfl HK.out ?_; intro v ps hv; rw [HA.out] at hv; obtain rfl : v = .agg #[.int .i64 0, .int .i64 0, .bool false, .bool false, .bool false] := readForm_inv hv; clear hv; rw [HH.out])
    | (go_at_call 45; refine (trim_calls s _ (by rw [HS.out]; omega)).mono ?_; rintro e w2 ⟨t, rfl, ht, hb2⟩; rw [HD.out] at ht; have ht2 : t.toList = [] := List.isEmpty_iff.1 ht))
  go_cut [26] (fun v26 wc => v26 = .bool (inRange (s.extract 0 3).toList && decide (bt s 3 ≤ 53)) ∧ Aside0 (wc = w2))
  case first =>
    rcases p1 : Op.bytesLess (s.extract 0 3).toList [51, 49, 48] with _ | _
    · skip
      rcases p2 : Op.bytesLess (s.extract 0 3).toList [51, 49, 54] with _ | _
      · skip
        by_cases q2 : (s.extract 0 3).toList = [51, 49, 54]
        · have q2b : ((s.extract 0 3).toList == [51, 49, 54]) = true := beq_iff_eq.mpr q2
          replace q2 := eq_true q2
          go_wp2
          go_meet
          exact ⟨by simp [inRange, p1, p2, q2, q2b], ⟨rfl⟩⟩
        · have q2b : ((s.extract 0 3).toList == [51, 49, 54]) = false := beq_eq_false_iff_ne.mpr q2
          replace q2 := eq_false q2
          rcases p3 : Op.bytesLess (s.extract 0 3).toList [51, 50, 48] with _ | _
          · skip
            rcases p4 : Op.bytesLess (s.extract 0 3).toList [51, 51, 55] with _ | _
            · skip
              by_cases q4 : (s.extract 0 3).toList = [51, 51, 55]
              · have q4b : ((s.extract 0 3).toList == [51, 51, 55]) = true := beq_iff_eq.mpr q4
                replace q4 := eq_true q4
                go_wp2
                go_meet
                exact ⟨by simp [inRange, p1, p2, q2, q2b, p3, p4, q4, q4b], ⟨rfl⟩⟩
              · have q4b : ((s.extract 0 3).toList == [51, 51, 55]) = false := beq_eq_false_iff_ne.mpr q4
                replace q4 := eq_false q4
                go_wp2
                go_meet
                exact ⟨by simp [inRange, p1, p2, q2, q2b, p3, p4, q4, q4b], ⟨rfl⟩⟩
            · skip
              go_wp2
              go_meet
              exact ⟨by simp [inRange, p1, p2, q2, q2b, p3, p4], ⟨rfl⟩⟩
          · skip
            go_wp2
            go_meet
            exact ⟨by simp [inRange, p1, p2, q2, q2b, p3], ⟨rfl⟩⟩
      · skip
        go_wp2
        go_meet
        exact ⟨by simp [inRange, p1, p2], ⟨rfl⟩⟩
    · skip
      rcases p3 : Op.bytesLess (s.extract 0 3).toList [51, 50, 48] with _ | _
      · skip
        rcases p4 : Op.bytesLess (s.extract 0 3).toList [51, 51, 55] with _ | _
        · skip
          by_cases q4 : (s.extract 0 3).toList = [51, 51, 55]
          · have q4b : ((s.extract 0 3).toList == [51, 51, 55]) = true := beq_iff_eq.mpr q4
            replace q4 := eq_true q4
            go_wp2
            go_meet
            exact ⟨by simp [inRange, p1, p3, p4, q4, q4b], ⟨rfl⟩⟩
          · have q4b : ((s.extract 0 3).toList == [51, 51, 55]) = false := beq_eq_false_iff_ne.mpr q4
            replace q4 := eq_false q4
            go_wp2
            go_meet
            exact ⟨by simp [inRange, p1, p3, p4, q4, q4b], ⟨rfl⟩⟩
        · skip
          go_wp2
          go_meet
          exact ⟨by simp [inRange, p1, p3, p4], ⟨rfl⟩⟩
      · skip
        go_wp2
        go_meet
        exact ⟨by simp [inRange, p1, p3], ⟨rfl⟩⟩
  case rest =>
    obtain ⟨rfl, ⟨rfl⟩⟩ := hcut
    have c2 : ∀ o, wc.cell? ⟨w.heap.size, o, none⟩ = w'.cell? ⟨w.heap.size, o, none⟩ := fun o => (hb2.cell (p := ⟨w.heap.size, o, none⟩) (by simp; omega)).trans (by simp [go_sem, hz])
    have f2 : ∀ o, wc.frozen? ⟨w.heap.size, o, none⟩ = w'.frozen? ⟨w.heap.size, o, none⟩ := fun o => (hb2.frozen (p := ⟨w.heap.size, o, none⟩) (by simp; omega)).trans (by simp [go_sem, hz])
    have B2 : Below w.heap.size w wc := below_step ((below_step ((Below.refl w.heap.size w).alloc (Nat.le_refl _) _) HB.out).alloc (by omega) _) hb2
    have z2 : w.heap.size < wc.heap.size := by have := hb2.size; simp at this; omega
    rcases hA : (inRange (s.extract 0 3).toList && decide (bt s 3 ≤ 53)) with _ | _
    · rcases e1 : ((s.extract 0 3).toList == [51, 57, 48]) with _ | _
      · have e1' : ((s.extract 0 3).toList = [51, 57, 48]) = False := eq_false (by simpa using e1)
        rcases e2 : ((s.extract 0 3).toList == [51, 57, 50]) with _ | _
        · have e2' : ((s.extract 0 3).toList = [51, 57, 50]) = False := eq_false (by simpa using e2)
          go_wp2
          all_goals first | exact absurd ‹(inRange (s.extract 0 3).toList && decide (bt s 3 ≤ 53)) = true› (by rw [hA]; decide) | skip
          refine bodyPost_ret (v := numV 0 0 false false) (by simp [results, Tryz.results22, go_sem, hc, hf, hz, c2, f2, z2, numV]) rfl ⟨by simp, ?_⟩
          repeat (first | exact B2 | apply below_alloc | refine below_set ?_ (Nat.le_refl _))
        · have e2' : ((s.extract 0 3).toList = [51, 57, 50]) = True := eq_true (by simpa using e2)
          go_wp2
          all_goals first | exact absurd ‹(inRange (s.extract 0 3).toList && decide (bt s 3 ≤ 53)) = true› (by rw [hA]; decide) | skip
          refine bodyPost_ret (v := numV 0 15 true true) (by simp [results, Tryz.results22, go_sem, hc, hf, hz, c2, f2, z2, numV]) rfl ⟨by simp, ?_⟩
          repeat (first | exact B2 | apply below_alloc | refine below_set ?_ (Nat.le_refl _))
      · have e1' : ((s.extract 0 3).toList = [51, 57, 48]) = True := eq_true (by simpa using e1)
        go_wp2
        all_goals first | exact absurd ‹(inRange (s.extract 0 3).toList && decide (bt s 3 ≤ 53)) = true› (by rw [hA]; decide) | skip
        refine bodyPost_ret (v := numV 0 15 true true) (by simp [results, Tryz.results22, go_sem, hc, hf, hz, c2, f2, z2, numV]) rfl ⟨by simp, ?_⟩
        repeat (first | exact B2 | apply below_alloc | refine below_set ?_ (Nat.le_refl _))
    · go_wp2_with (first
        | (go_at_call 46; refine (gs1_number.calls 6 6 6 true false false _ rfl).mono ?_; rintro e w3 ⟨rfl, hb3⟩; have B3 := below_step B2 hb3; have c3 : ∀ o, w3.cell? ⟨w.heap.size, o, none⟩ = wc.cell? ⟨w.heap.size, o, none⟩ := fun o => (hb3.cell (p := ⟨w.heap.size, o, none⟩) z2); have f3 : ∀ o, w3.frozen? ⟨w.heap.size, o, none⟩ = wc.frozen? ⟨w.heap.size, o, none⟩ := fun o => (hb3.frozen (p := ⟨w.heap.size, o, none⟩) z2); have z3 : w.heap.size < w3.heap.size := by (have := hb3.size; omega)))
      all_goals first | exact absurd hA ‹¬(inRange (s.extract 0 3).toList && decide (bt s 3 ≤ 53)) = true› | skip
      refine bodyPost_ret (v := numV 6 6 true true) (by simp [results, Tryz.results22, go_sem, hc, hf, hz, c2, f2, z2, c3, f3, z3, numV]) rfl ⟨by simp, ?_⟩
      repeat (first | exact B3 | apply below_alloc | refine below_set ?_ (Nat.le_refl _))
set_option maxRecDepth 100000 in
set_option maxHeartbeats 8000000 in
theorem formOf_nodig (s : ByteArray) (w : World) (hT : Tabs w) (hs : s.size = 4) (hl : look items6 (bs s) = none) (hd : allDig s = false) :
    Calls Tryz.prog 22 #[.string s] w fun e w' => e = .returned (numV 0 0 false false) ∧ Below w.heap.size w w' := by
  have h1 := (items6_at (bs s)).1 (formD z0)
  have h2 := (items6_at (bs s)).2
  rw [hl] at h1 h2
  have HA := Lib.hid (show (putAll (.map []) items6).atKey (kl (bs s)) (formD z0) = formD z0 from h1)
  have HH := Lib.hid (show has (putAll (.map []) items6) (kl (bs s)) = false from h2)
  have HK := Lib.hid (keyOf_string_mk Tryz.underlying9 (s := s) (by unfold maxLen; omega))
  have HT := Lib.hid hT
  have HD := Lib.hid hd
  clear h1 h2 hl hT hd
  have l1 : ((s.size : Int) == 4) = true := beq_iff_eq.mpr (by omega)
  have l2 : ((s.size : Int) != 4) = false := bne_eq_false_iff_eq.mpr (by omega)
  have l3 : (s.size == 4) = true := beq_iff_eq.mpr hs
  have HS := Lib.hid hs
  clear hs
  go_enter Tryz.func22, Tryz.ntmps22
  go_wp2_with (first
    | (go_at_call 44; refine (forms_calls _ (HT.out.below (by first | exact Below.refl _ _ | exact (Below.refl _ _).alloc (Nat.le_refl _) _))).mono ?_; rintro e w' ⟨b, rfl, HO, HB⟩; obtain ⟨hc, hf⟩ := bcell HB.out; have hz : w.heap.size < w'.heap.size := by (have := HB.out.size; simp at this; omega))
    | (at_lookup; refine wpList_lookup_own_ok _ rfl _ _ 72 rfl 9 45 strLaw Tryz.underlying72 readForm (zeroForm _) (formD z0) [] rfl _ 42 _ rfl HO.out _ (kl (bs s)) rfl HK.out ?_; intro v ps hv; rw [HA.out] at hv; obtain rfl : v = .agg #[.int .i64 0, .int .i64 0, .bool false, .bool false, .bool false] := readForm_inv hv; clear hv; rw [HH.out])
    | (go_at_call 45; refine (trim_calls s _ (by rw [HS.out]; omega)).mono ?_; rintro e w2 ⟨t, rfl, ht, hb2⟩; rw [HD.out] at ht; have ht2 : t.toList ≠ [] := List.isEmpty_eq_false_iff.1 ht; have c2 : ∀ o, w2.cell? ⟨w.heap.size, o, none⟩ = w'.cell? ⟨w.heap.size, o, none⟩ := fun o => (hb2.cell (p := ⟨w.heap.size, o, none⟩) (by simp; omega)).trans (by simp [go_sem, hz]); have f2 : ∀ o, w2.frozen? ⟨w.heap.size, o, none⟩ = w'.frozen? ⟨w.heap.size, o, none⟩ := fun o => (hb2.frozen (p := ⟨w.heap.size, o, none⟩) (by simp; omega)).trans (by simp [go_sem, hz]); have B2 : Below w.heap.size w w2 := below_step ((below_step ((Below.refl w.heap.size w).alloc (Nat.le_refl _) _) HB.out).alloc (by omega) _) hb2; have z2 : w.heap.size < w2.heap.size := by (have := hb2.size; simp at this; omega)))
  refine bodyPost_ret (v := numV 0 0 false false) (by simp [results, Tryz.results22, go_sem, hc, hf, hz, c2, f2, z2, numV]) rfl ⟨rfl, ?_⟩
  repeat (first | exact B2 | apply below_alloc | refine below_set ?_ (Nat.le_refl _))
set_option maxRecDepth 100000 in
set_option maxHeartbeats 8000000 in
theorem formOf_short (s : ByteArray) (w : World) (hT : Tabs w) (hs : s.size ≠ 4) (hm : s.size < 4294967281) (hl : look items6 (bs s) = none) :
    Calls Tryz.prog 22 #[.string s] w fun e w' => e = .returned (numV 0 0 false false) ∧ Below w.heap.size w w' := by
  have h1 := (items6_at (bs s)).1 (formD z0)
  have h2 := (items6_at (bs s)).2
  rw [hl] at h1 h2
  have HA := Lib.hid (show (putAll (.map []) items6).atKey (kl (bs s)) (formD z0) = formD z0 from h1)
  have HH := Lib.hid (show has (putAll (.map []) items6) (kl (bs s)) = false from h2)
  have HK := Lib.hid (keyOf_string_mk Tryz.underlying9 (s := s) (by unfold maxLen; omega))
  have HT := Lib.hid hT
  clear h1 h2 hl hT
  have l1 : ((s.size : Int) == 4) = false := beq_eq_false_iff_ne.mpr (by omega)
  have l2 : ((s.size : Int) != 4) = true := bne_iff_ne.mpr (by omega)
  have l3 : (s.size == 4) = false := beq_eq_false_iff_ne.mpr hs
  clear hs hm
  go_enter Tryz.func22, Tryz.ntmps22
  go_wp2_with (first
    | (go_at_call 44; refine (forms_calls _ (HT.out.below (by first | exact Below.refl _ _ | exact (Below.refl _ _).alloc (Nat.le_refl _) _))).mono ?_; rintro e w' ⟨b, rfl, HO, HB⟩; obtain ⟨hc, hf⟩ := bcell HB.out; have hz : w.heap.size < w'.heap.size := by (have := HB.out.size; simp at this; omega))
    | (at_lookup; refine wpList_lookup_own_ok _ rfl _ _ 72 rfl 9 45 strLaw Tryz.underlying72 readForm (zeroForm _) (formD z0) [] rfl _ 42 _ rfl HO.out _ (kl (bs s)) rfl HK.out ?_; intro v ps hv; rw [HA.out] at hv; obtain rfl : v = .agg #[.int .i64 0, .int .i64 0, .bool false, .bool false, .bool false] := readForm_inv hv; clear hv; rw [HH.out]))
  have B0 : Below w.heap.size w w' := below_step ((Below.refl w.heap.size w).alloc (Nat.le_refl _) _) HB.out
  refine bodyPost_ret (v := numV 0 0 false false) (by simp [results, Tryz.results22, go_sem, hc, hf, hz, numV]) rfl ⟨rfl, ?_⟩
  repeat (first | exact B0 | apply below_alloc | refine below_set ?_ (Nat.le_refl _))
theorem bt3 (s : ByteArray) (h4 : s.size = 4) : bt s 3 ≤ 53 ↔ ((bs s).getD 3 0).toNat ≤ 53 := by
  have hl : 3 < (bs s).length := by rw [bs_len]; omega
  have hb := bt_nat s 3 hl
  have hg : (bs s).getD 3 0 = (bs s)[3]'hl := by rw [List.getD_eq_getElem?_getD, List.getElem?_eq_getElem hl]; rfl
  rw [hg]
  rw [show ((3 : Nat) : Int) = 3 from rfl] at hb
  rw [hb]
  omega
/-- gs1.formOf: what it answers. -/
theorem gs1_formOf.calls (a0 : ByteArray) (r1 r2 : Int) (r3 r4 r5 r6 : Bool) (w : World) (hT : Tabs w) (h : gs1_formOf.f a0 = some (r1, r2, r3, r4, r5, r6)) :
    Calls Tryz.prog 22 #[.string a0] w fun e w' => e = .returned (.tuple #[.agg #[.int .i64 r1, .int .i64 r2, .bool r3, .bool r4, .bool r5], .bool r6]) ∧ Below w.heap.size w w' := by
  unfold gs1_formOf.f at h
  split at h
  · rename_i hs
    have h := Option.some.inj h
    unfold formOfS at h
    split at h
    · rename_i f hl
      obtain ⟨f0, f1, f2, f3, f4⟩ := f
      simp only [okForm, Prod.mk.injEq] at h
      obtain ⟨rfl, rfl, rfl, rfl, rfl, rfl⟩ := h
      exact formOf_named a0 _ _ _ _ _ w hT hs hl
    · rename_i hl
      unfold restForm at h
      rw [bs_len] at h
      by_cases h4 : a0.size = 4
      · rw [if_pos h4] at h
        by_cases hd : allDig a0 = true
        · rw [if_pos (show (bs a0).all isDig = true from hd)] at h
          refine (formOf_num a0 w hT h4 hl hd).mono fun e w' ⟨he, hb⟩ => ⟨he.trans ?_, hb⟩
          have e1 : (a0.extract 0 3).toList = (bs a0).take 3 := by rw [Lib.toList_data]; exact (bs_extract a0 0 3).trans (by simp)
          have e2 : bt a0 3 ≤ 53 ↔ ((bs a0).getD 3 0).toNat ≤ 53 := bt3 a0 h4
          rw [e1]
          by_cases c1 : inRange ((bs a0).take 3) = true ∧ ((bs a0).getD 3 0).toNat ≤ 53
          · rw [if_pos c1] at h
            have : (inRange ((bs a0).take 3) && decide (bt a0 3 ≤ 53)) = true := by rw [c1.1, Bool.true_and]; exact decide_eq_true (e2.2 c1.2)
            rw [if_pos this]
            simp only [okForm, Prod.mk.injEq] at h
            obtain ⟨rfl, rfl, rfl, rfl, rfl, rfl⟩ := h
            rfl
          · rw [if_neg c1] at h
            have : ¬ (inRange ((bs a0).take 3) && decide (bt a0 3 ≤ 53)) = true := by
              intro hh
              rw [Bool.and_eq_true] at hh
              exact c1 ⟨hh.1, e2.1 (of_decide_eq_true hh.2)⟩
            rw [if_neg this]
            by_cases c2 : (bs a0).take 3 = [51, 57, 48] ∨ (bs a0).take 3 = [51, 57, 50]
            · rw [if_pos c2] at h
              rw [if_pos (by rw [Bool.or_eq_true, beq_iff_eq, beq_iff_eq]; exact c2)]
              simp only [okForm, Prod.mk.injEq] at h
              obtain ⟨rfl, rfl, rfl, rfl, rfl, rfl⟩ := h
              rfl
            · rw [if_neg c2] at h
              rw [if_neg (by rw [Bool.or_eq_true, beq_iff_eq, beq_iff_eq]; exact c2)]
              simp only [noForm, Prod.mk.injEq] at h
              obtain ⟨rfl, rfl, rfl, rfl, rfl, rfl⟩ := h
              rfl
        · rw [if_neg (show ¬ (bs a0).all isDig = true from hd)] at h
          simp only [noForm, Prod.mk.injEq] at h
          obtain ⟨rfl, rfl, rfl, rfl, rfl, rfl⟩ := h
          exact formOf_nodig a0 w hT h4 hl (by simpa using hd)
      · rw [if_neg h4] at h
        simp only [noForm, Prod.mk.injEq] at h
        obtain ⟨rfl, rfl, rfl, rfl, rfl, rfl⟩ := h
        exact formOf_short a0 w hT h4 hs hl
  · cases h
end Go.Proofs.YtghlbdemlmbijaaGreatDoor.Q

namespace Go.Proofs.YtghlbdemlmbijaaGreatDoor.Q
open Go.RowKit Go.Proofs.YtghlbdemlmbijaaGreatDoorW.PrintWords Go.Proofs.YtghlbdemlmbijaaGreatDoorW.PrintLast Go.Proofs.YtghlbdemlmbijaaGreatDoorW.PrintMore

set_option linter.unusedVariables false
set_option linter.unusedSimpArgs false

/-! ### gs1_Fixed: function 7 -/
def gs1_Fixed.f (a0 : ByteArray) : Option (Int × Int × Int) := (gs1_formOf.f a0).bind fun bt104 => (if bt104.2.2.2.2.2 = true then (some (bt104.1, bt104.2.1, 0)) else (some (0, 0, 29)))
set_option maxHeartbeats 8000000 in
set_option maxRecDepth 100000 in
theorem gs1_Fixed.calls (a0 : ByteArray) (r1 : Int) (r2 : Int) (r3 : Int) (w : World) (hT : Tabs w) (h : gs1_Fixed.f a0 = some (r1, r2, r3)) :
  Calls Tryz.prog 7 #[.string a0] w fun e w' => e = .returned (.tuple #[.int .i64 r1, .int .i64 r2, .int .i64 r3]) ∧ Below w.heap.size w w' := by
 have hu45 := Tryz.underlying45
 have HT := Aside0.mk hT
 clear hT
 have HB := Aside0.mk (Below.refl w.heap.size w)
 have H : ((gs1_formOf.f a0).bind fun bt104 => (if bt104.2.2.2.2.2 = true then (some (bt104.1, bt104.2.1, 0)) else (some (0, 0, 29)))) = some (r1, r2, r3) := h
 clear h
 replace H := Option.bind_eq_some_iff.mp H
 obtain ⟨⟨t104, t105, t106, t107, t108, t109⟩, A20, H⟩ := H
 replace H : (if t109 = true then (some (t104, t105, 0)) else (some (0, 0, 29))) = some (r1, r2, r3) := H
 have A2 := Aside0.mk A20
 clear A20
 by_cases c3 : t109 = true
 ·subst c3
  have H1 : (some (t104, t105, 0)) = some (r1, r2, r3) := by rw [if_pos rfl] at H; exact H
  clear H
  have H := H1
  clear H1
  simp only [Option.some.injEq, Prod.mk.injEq] at H
  obtain ⟨rfl, rfl, rfl⟩ := H
  go_enter Tryz.func7, Tryz.ntmps7
  go_wp2_with (first | (go_at_call 22; (with_reducible refine (gs1_formOf.calls a0 t104 t105 t106 t107 t108 true _ ?side1 A2.out).mono ?_); (case side1 => exact Tabs.below HT.out (by repeat (first | (with_reducible first | exact HB.out | apply below_alloc | apply pw_below_drewN | apply below_drew1) | exact HB.out))); rintro e w4 ⟨rfl, hb⟩; have n0_ := Aside0.mk (below_step (by repeat (first | (with_reducible first | exact HB.out | apply below_alloc | apply pw_below_drewN | apply below_drew1) | exact HB.out)) hb); clear HB; have HB := n0_; clear n0_; (try clear hb); (try clear hb2); (try clear hk); (try clear hi)) | ((with_reducible refine gate_dst (N := 5) rfl ?_); refine box_event ?hg (N := 5) ?hd (cs := #[.int .i64 0, .int .i64 0, .bool false, .bool false, .bool false]) (t := 45) ?hr ?_; (case hd => rfl); (case hg => rfl); (case hr => first | (go_simp; done) | (go_simp; rfl)); intro gb110 hg w5 hbox hb; have n0_ := Aside0.mk (below_step (by repeat (first | (with_reducible first | exact HB.out | apply below_alloc | apply pw_below_drewN | apply below_drew1) | exact HB.out)) hb); have n1_ := Aside0.mk (hbox); have n2_ := Aside0.mk ((by rw [hg]; exact (below_size (by repeat (first | (with_reducible first | exact HB.out | apply below_alloc | apply pw_below_drewN | apply below_drew1) | exact HB.out))) : w.heap.size ≤ gb110)); have n3_ := Aside0.mk ((by rw [hg]; exact (below_size (by repeat (first | (with_reducible first | exact HB.out | apply below_alloc | apply pw_below_drewN | apply below_drew1) | exact HB.out))) : w.heap.size ≤ gb110)); clear HB; have HB := n0_; have BK110 := n1_; have GW110 := n2_; have GE110 := n3_; clear n0_ n1_ n2_ n3_; clear hb hbox hg; have hcz6_0 : w5.cell? ⟨gb110, 0, none⟩ = some (.int .i64 0) := (blk_cell BK110.out 0).trans rfl; have hcz6_1 : w5.cell? ⟨gb110, 1, none⟩ = some (.int .i64 0) := (blk_cell BK110.out 1).trans rfl; have hcz6_2 : w5.cell? ⟨gb110, 2, none⟩ = some (.bool false) := (blk_cell BK110.out 2).trans rfl; have hcz6_3 : w5.cell? ⟨gb110, 3, none⟩ = some (.bool false) := (blk_cell BK110.out 3).trans rfl; have hcz6_4 : w5.cell? ⟨gb110, 4, none⟩ = some (.bool false) := (blk_cell BK110.out 4).trans rfl; have hfz6_0 := blk_frozen BK110.out 0; have hfz6_1 := blk_frozen BK110.out 1; have hfz6_2 := blk_frozen BK110.out 2; have hfz6_3 := blk_frozen BK110.out 3; have hfz6_4 := blk_frozen BK110.out 4))
  repeat (go_quiet (first | (go_at_call 22; (with_reducible refine (gs1_formOf.calls a0 t104 t105 t106 t107 t108 true _ ?side1 A2.out).mono ?_); (case side1 => exact Tabs.below HT.out (by repeat (first | (with_reducible first | exact HB.out | apply below_alloc | apply pw_below_drewN | apply below_drew1) | exact HB.out))); rintro e w4 ⟨rfl, hb⟩; have n0_ := Aside0.mk (below_step (by repeat (first | (with_reducible first | exact HB.out | apply below_alloc | apply pw_below_drewN | apply below_drew1) | exact HB.out)) hb); clear HB; have HB := n0_; clear n0_; (try clear hb); (try clear hb2); (try clear hk); (try clear hi)) | ((with_reducible refine gate_dst (N := 5) rfl ?_); refine box_event ?hg (N := 5) ?hd (cs := #[.int .i64 0, .int .i64 0, .bool false, .bool false, .bool false]) (t := 45) ?hr ?_; (case hd => rfl); (case hg => rfl); (case hr => first | (go_simp; done) | (go_simp; rfl)); intro gb110 hg w5 hbox hb; have n0_ := Aside0.mk (below_step (by repeat (first | (with_reducible first | exact HB.out | apply below_alloc | apply pw_below_drewN | apply below_drew1) | exact HB.out)) hb); have n1_ := Aside0.mk (hbox); have n2_ := Aside0.mk ((by rw [hg]; exact (below_size (by repeat (first | (with_reducible first | exact HB.out | apply below_alloc | apply pw_below_drewN | apply below_drew1) | exact HB.out))) : w.heap.size ≤ gb110)); have n3_ := Aside0.mk ((by rw [hg]; exact (below_size (by repeat (first | (with_reducible first | exact HB.out | apply below_alloc | apply pw_below_drewN | apply below_drew1) | exact HB.out))) : w.heap.size ≤ gb110)); clear HB; have HB := n0_; have BK110 := n1_; have GW110 := n2_; have GE110 := n3_; clear n0_ n1_ n2_ n3_; clear hb hbox hg; have hcz6_0 : w5.cell? ⟨gb110, 0, none⟩ = some (.int .i64 0) := (blk_cell BK110.out 0).trans rfl; have hcz6_1 : w5.cell? ⟨gb110, 1, none⟩ = some (.int .i64 0) := (blk_cell BK110.out 1).trans rfl; have hcz6_2 : w5.cell? ⟨gb110, 2, none⟩ = some (.bool false) := (blk_cell BK110.out 2).trans rfl; have hcz6_3 : w5.cell? ⟨gb110, 3, none⟩ = some (.bool false) := (blk_cell BK110.out 3).trans rfl; have hcz6_4 : w5.cell? ⟨gb110, 4, none⟩ = some (.bool false) := (blk_cell BK110.out 4).trans rfl; have hfz6_0 := blk_frozen BK110.out 0; have hfz6_1 := blk_frozen BK110.out 1; have hfz6_2 := blk_frozen BK110.out 2; have hfz6_3 := blk_frozen BK110.out 3; have hfz6_4 := blk_frozen BK110.out 4)); try go_wp2_with (first | (go_at_call 22; (with_reducible refine (gs1_formOf.calls a0 t104 t105 t106 t107 t108 true _ ?side1 A2.out).mono ?_); (case side1 => exact Tabs.below HT.out (by repeat (first | (with_reducible first | exact HB.out | apply below_alloc | apply pw_below_drewN | apply below_drew1) | exact HB.out))); rintro e w4 ⟨rfl, hb⟩; have n0_ := Aside0.mk (below_step (by repeat (first | (with_reducible first | exact HB.out | apply below_alloc | apply pw_below_drewN | apply below_drew1) | exact HB.out)) hb); clear HB; have HB := n0_; clear n0_; (try clear hb); (try clear hb2); (try clear hk); (try clear hi)) | ((with_reducible refine gate_dst (N := 5) rfl ?_); refine box_event ?hg (N := 5) ?hd (cs := #[.int .i64 0, .int .i64 0, .bool false, .bool false, .bool false]) (t := 45) ?hr ?_; (case hd => rfl); (case hg => rfl); (case hr => first | (go_simp; done) | (go_simp; rfl)); intro gb110 hg w5 hbox hb; have n0_ := Aside0.mk (below_step (by repeat (first | (with_reducible first | exact HB.out | apply below_alloc | apply pw_below_drewN | apply below_drew1) | exact HB.out)) hb); have n1_ := Aside0.mk (hbox); have n2_ := Aside0.mk ((by rw [hg]; exact (below_size (by repeat (first | (with_reducible first | exact HB.out | apply below_alloc | apply pw_below_drewN | apply below_drew1) | exact HB.out))) : w.heap.size ≤ gb110)); have n3_ := Aside0.mk ((by rw [hg]; exact (below_size (by repeat (first | (with_reducible first | exact HB.out | apply below_alloc | apply pw_below_drewN | apply below_drew1) | exact HB.out))) : w.heap.size ≤ gb110)); clear HB; have HB := n0_; have BK110 := n1_; have GW110 := n2_; have GE110 := n3_; clear n0_ n1_ n2_ n3_; clear hb hbox hg; have hcz6_0 : w5.cell? ⟨gb110, 0, none⟩ = some (.int .i64 0) := (blk_cell BK110.out 0).trans rfl; have hcz6_1 : w5.cell? ⟨gb110, 1, none⟩ = some (.int .i64 0) := (blk_cell BK110.out 1).trans rfl; have hcz6_2 : w5.cell? ⟨gb110, 2, none⟩ = some (.bool false) := (blk_cell BK110.out 2).trans rfl; have hcz6_3 : w5.cell? ⟨gb110, 3, none⟩ = some (.bool false) := (blk_cell BK110.out 3).trans rfl; have hcz6_4 : w5.cell? ⟨gb110, 4, none⟩ = some (.bool false) := (blk_cell BK110.out 4).trans rfl; have hfz6_0 := blk_frozen BK110.out 0; have hfz6_1 := blk_frozen BK110.out 1; have hfz6_2 := blk_frozen BK110.out 2; have hfz6_3 := blk_frozen BK110.out 3; have hfz6_4 := blk_frozen BK110.out 4)))
  go_ret3
  exact ⟨by first | rfl | (simp [errW_none, errW_some] <;> rfl) | (simp [*, errW_none, errW_some] <;> rfl), by repeat (first | (with_reducible first | exact HB.out | apply below_alloc | apply pw_below_drewN | apply below_drew1 | refine below_set ?_ GE110.out) | exact HB.out)⟩
 ·replace c3 := Bool.eq_false_iff.mpr c3
  subst c3
  have H1 : (some (0, 0, 29)) = some (r1, r2, r3) := by rw [if_neg (show ¬ (false = true) by decide)] at H; exact H
  clear H
  have H := H1
  clear H1
  simp only [Option.some.injEq, Prod.mk.injEq] at H
  obtain ⟨rfl, rfl, rfl⟩ := H
  go_enter Tryz.func7, Tryz.ntmps7
  go_wp2_with (first | (go_at_call 22; (with_reducible refine (gs1_formOf.calls a0 t104 t105 t106 t107 t108 false _ ?side1 A2.out).mono ?_); (case side1 => exact Tabs.below HT.out (by repeat (first | (with_reducible first | exact HB.out | apply below_alloc | apply pw_below_drewN | apply below_drew1) | exact HB.out))); rintro e w7 ⟨rfl, hb⟩; have n0_ := Aside0.mk (below_step (by repeat (first | (with_reducible first | exact HB.out | apply below_alloc | apply pw_below_drewN | apply below_drew1) | exact HB.out)) hb); clear HB; have HB := n0_; clear n0_; (try clear hb); (try clear hb2); (try clear hk); (try clear hi)) | ((with_reducible refine gate_dst (N := 5) rfl ?_); refine box_event ?hg (N := 5) ?hd (cs := #[.int .i64 0, .int .i64 0, .bool false, .bool false, .bool false]) (t := 45) ?hr ?_; (case hd => rfl); (case hg => rfl); (case hr => first | (go_simp; done) | (go_simp; rfl)); intro gb110 hg w8 hbox hb; have n0_ := Aside0.mk (below_step (by repeat (first | (with_reducible first | exact HB.out | apply below_alloc | apply pw_below_drewN | apply below_drew1) | exact HB.out)) hb); have n1_ := Aside0.mk (hbox); have n2_ := Aside0.mk ((by rw [hg]; exact (below_size (by repeat (first | (with_reducible first | exact HB.out | apply below_alloc | apply pw_below_drewN | apply below_drew1) | exact HB.out))) : w.heap.size ≤ gb110)); have n3_ := Aside0.mk ((by rw [hg]; exact (below_size (by repeat (first | (with_reducible first | exact HB.out | apply below_alloc | apply pw_below_drewN | apply below_drew1) | exact HB.out))) : w.heap.size ≤ gb110)); clear HB; have HB := n0_; have BK110 := n1_; have GW110 := n2_; have GE110 := n3_; clear n0_ n1_ n2_ n3_; clear hb hbox hg; have hcz9_0 : w8.cell? ⟨gb110, 0, none⟩ = some (.int .i64 0) := (blk_cell BK110.out 0).trans rfl; have hcz9_1 : w8.cell? ⟨gb110, 1, none⟩ = some (.int .i64 0) := (blk_cell BK110.out 1).trans rfl; have hcz9_2 : w8.cell? ⟨gb110, 2, none⟩ = some (.bool false) := (blk_cell BK110.out 2).trans rfl; have hcz9_3 : w8.cell? ⟨gb110, 3, none⟩ = some (.bool false) := (blk_cell BK110.out 3).trans rfl; have hcz9_4 : w8.cell? ⟨gb110, 4, none⟩ = some (.bool false) := (blk_cell BK110.out 4).trans rfl; have hfz9_0 := blk_frozen BK110.out 0; have hfz9_1 := blk_frozen BK110.out 1; have hfz9_2 := blk_frozen BK110.out 2; have hfz9_3 := blk_frozen BK110.out 3; have hfz9_4 := blk_frozen BK110.out 4))
  repeat (go_quiet (first | (go_at_call 22; (with_reducible refine (gs1_formOf.calls a0 t104 t105 t106 t107 t108 false _ ?side1 A2.out).mono ?_); (case side1 => exact Tabs.below HT.out (by repeat (first | (with_reducible first | exact HB.out | apply below_alloc | apply pw_below_drewN | apply below_drew1) | exact HB.out))); rintro e w7 ⟨rfl, hb⟩; have n0_ := Aside0.mk (below_step (by repeat (first | (with_reducible first | exact HB.out | apply below_alloc | apply pw_below_drewN | apply below_drew1) | exact HB.out)) hb); clear HB; have HB := n0_; clear n0_; (try clear hb); (try clear hb2); (try clear hk); (try clear hi)) | ((with_reducible refine gate_dst (N := 5) rfl ?_); refine box_event ?hg (N := 5) ?hd (cs := #[.int .i64 0, .int .i64 0, .bool false, .bool false, .bool false]) (t := 45) ?hr ?_; (case hd => rfl); (case hg => rfl); (case hr => first | (go_simp; done) | (go_simp; rfl)); intro gb110 hg w8 hbox hb; have n0_ := Aside0.mk (below_step (by repeat (first | (with_reducible first | exact HB.out | apply below_alloc | apply pw_below_drewN | apply below_drew1) | exact HB.out)) hb); have n1_ := Aside0.mk (hbox); have n2_ := Aside0.mk ((by rw [hg]; exact (below_size (by repeat (first | (with_reducible first | exact HB.out | apply below_alloc | apply pw_below_drewN | apply below_drew1) | exact HB.out))) : w.heap.size ≤ gb110)); have n3_ := Aside0.mk ((by rw [hg]; exact (below_size (by repeat (first | (with_reducible first | exact HB.out | apply below_alloc | apply pw_below_drewN | apply below_drew1) | exact HB.out))) : w.heap.size ≤ gb110)); clear HB; have HB := n0_; have BK110 := n1_; have GW110 := n2_; have GE110 := n3_; clear n0_ n1_ n2_ n3_; clear hb hbox hg; have hcz9_0 : w8.cell? ⟨gb110, 0, none⟩ = some (.int .i64 0) := (blk_cell BK110.out 0).trans rfl; have hcz9_1 : w8.cell? ⟨gb110, 1, none⟩ = some (.int .i64 0) := (blk_cell BK110.out 1).trans rfl; have hcz9_2 : w8.cell? ⟨gb110, 2, none⟩ = some (.bool false) := (blk_cell BK110.out 2).trans rfl; have hcz9_3 : w8.cell? ⟨gb110, 3, none⟩ = some (.bool false) := (blk_cell BK110.out 3).trans rfl; have hcz9_4 : w8.cell? ⟨gb110, 4, none⟩ = some (.bool false) := (blk_cell BK110.out 4).trans rfl; have hfz9_0 := blk_frozen BK110.out 0; have hfz9_1 := blk_frozen BK110.out 1; have hfz9_2 := blk_frozen BK110.out 2; have hfz9_3 := blk_frozen BK110.out 3; have hfz9_4 := blk_frozen BK110.out 4)); try go_wp2_with (first | (go_at_call 22; (with_reducible refine (gs1_formOf.calls a0 t104 t105 t106 t107 t108 false _ ?side1 A2.out).mono ?_); (case side1 => exact Tabs.below HT.out (by repeat (first | (with_reducible first | exact HB.out | apply below_alloc | apply pw_below_drewN | apply below_drew1) | exact HB.out))); rintro e w7 ⟨rfl, hb⟩; have n0_ := Aside0.mk (below_step (by repeat (first | (with_reducible first | exact HB.out | apply below_alloc | apply pw_below_drewN | apply below_drew1) | exact HB.out)) hb); clear HB; have HB := n0_; clear n0_; (try clear hb); (try clear hb2); (try clear hk); (try clear hi)) | ((with_reducible refine gate_dst (N := 5) rfl ?_); refine box_event ?hg (N := 5) ?hd (cs := #[.int .i64 0, .int .i64 0, .bool false, .bool false, .bool false]) (t := 45) ?hr ?_; (case hd => rfl); (case hg => rfl); (case hr => first | (go_simp; done) | (go_simp; rfl)); intro gb110 hg w8 hbox hb; have n0_ := Aside0.mk (below_step (by repeat (first | (with_reducible first | exact HB.out | apply below_alloc | apply pw_below_drewN | apply below_drew1) | exact HB.out)) hb); have n1_ := Aside0.mk (hbox); have n2_ := Aside0.mk ((by rw [hg]; exact (below_size (by repeat (first | (with_reducible first | exact HB.out | apply below_alloc | apply pw_below_drewN | apply below_drew1) | exact HB.out))) : w.heap.size ≤ gb110)); have n3_ := Aside0.mk ((by rw [hg]; exact (below_size (by repeat (first | (with_reducible first | exact HB.out | apply below_alloc | apply pw_below_drewN | apply below_drew1) | exact HB.out))) : w.heap.size ≤ gb110)); clear HB; have HB := n0_; have BK110 := n1_; have GW110 := n2_; have GE110 := n3_; clear n0_ n1_ n2_ n3_; clear hb hbox hg; have hcz9_0 : w8.cell? ⟨gb110, 0, none⟩ = some (.int .i64 0) := (blk_cell BK110.out 0).trans rfl; have hcz9_1 : w8.cell? ⟨gb110, 1, none⟩ = some (.int .i64 0) := (blk_cell BK110.out 1).trans rfl; have hcz9_2 : w8.cell? ⟨gb110, 2, none⟩ = some (.bool false) := (blk_cell BK110.out 2).trans rfl; have hcz9_3 : w8.cell? ⟨gb110, 3, none⟩ = some (.bool false) := (blk_cell BK110.out 3).trans rfl; have hcz9_4 : w8.cell? ⟨gb110, 4, none⟩ = some (.bool false) := (blk_cell BK110.out 4).trans rfl; have hfz9_0 := blk_frozen BK110.out 0; have hfz9_1 := blk_frozen BK110.out 1; have hfz9_2 := blk_frozen BK110.out 2; have hfz9_3 := blk_frozen BK110.out 3; have hfz9_4 := blk_frozen BK110.out 4)))
  go_ret3
  exact ⟨by first | rfl | (simp [errW_none, errW_some] <;> rfl) | (simp [*, errW_none, errW_some] <;> rfl), by repeat (first | (with_reducible first | exact HB.out | apply below_alloc | apply pw_below_drewN | apply below_drew1 | refine below_set ?_ GE110.out) | exact HB.out)⟩

end Go.Proofs.YtghlbdemlmbijaaGreatDoor.Q

/- What both tables answer, and that they agree. -/
namespace Go.Proofs.YtghlbdemlmbijaaGreatDoor.Q
open Go.RowKit Go.Proofs.YtghlbdemlmbijaaGreatDoorW.PrintWords Go.Proofs.YtghlbdemlmbijaaGreatDoorW.PrintLast Go.Proofs.YtghlbdemlmbijaaGreatDoorW.PrintMore
set_option linter.unusedVariables false
set_option linter.unusedSimpArgs false
/-! ### From some number of rounds on -/
def Ev {α : Type} (F : Nat → Option α) (r : α) : Prop := ∃ K, ∀ k, K ≤ k → F k = some r
section
variable {α β : Type} {F G : Nat → Option α} {r : α} {a : β} {c : Prop} [Decidable c]
theorem Ev.const {o : Option α} (h : o = some r) : Ev (fun _ => o) r := ⟨0, fun _ _ => h⟩
theorem Ev.bind {F : Nat → Option β} {G : β → Nat → Option α} (h : Ev F a) (g : Ev (G a) r) : Ev (fun k => (F k).bind fun x => G x k) r := by
  obtain ⟨K1, h1⟩ := h
  obtain ⟨K2, h2⟩ := g
  refine ⟨max K1 K2, fun k hk => ?_⟩
  show (F k).bind (fun x => G x k) = some r
  rw [h1 k (by omega)]
  exact h2 k (by omega)
theorem Ev.succ (h : Ev (fun k => F (k + 1)) r) : Ev F r := by
  obtain ⟨K, h⟩ := h
  refine ⟨K + 1, fun k hk => ?_⟩
  obtain ⟨j, rfl⟩ : ∃ j, k = j + 1 := ⟨k - 1, by omega⟩
  exact h j (by omega)
theorem Ev.pos (hc : c) (h : Ev F r) : Ev (fun k => if c then F k else G k) r := by
  simpa [hc] using h
theorem Ev.neg (hc : ¬ c) (h : Ev G r) : Ev (fun k => if c then F k else G k) r := by
  simpa [hc] using h
theorem Ev.congr (h : Ev F r) (e : ∀ k, G k = F k) : Ev G r := by
  obtain ⟨K, h⟩ := h
  exact ⟨K, fun k hk => (e k).trans (h k hk)⟩
theorem Ev.of (K : Nat) (h : ∀ k, K ≤ k → F k = some r) : Ev F r := ⟨K, h⟩
theorem Ev.get (h : Ev F r) : ∃ k, F k = some r := by
  obtain ⟨K, h⟩ := h
  exact ⟨K, h K (Nat.le_refl _)⟩
end
/-! ### Digits -/
theorem digit_f (c : UInt8) : barscanref14_digit.f (c.toNat : Int) = some (isDig c) := by
  unfold barscanref14_digit.f isDig
  by_cases h : 48 ≤ c.toNat
  · rw [if_pos (by omega), decide_eq_true h, Bool.true_and]
    congr 1
    by_cases h2 : c.toNat ≤ 57
    · rw [decide_eq_true h2, decide_eq_true (by omega)]
    · rw [decide_eq_false h2, decide_eq_false (by omega)]
  · rw [if_neg (by omega), decide_eq_false h, Bool.false_and]
theorem digits_l (s : ByteArray) (hs : s.size < 4611686018427387904) (d : Nat) : ∀ k i : Nat, i + d = (bs s).length → d < k → barscanref14_digits.l0 k s i = some (((bs s).drop i).all isDig) := by
  have hl := bs_len s
  induction d with
  | zero =>
    intro k i h1 h2
    obtain ⟨k, rfl⟩ : ∃ m, k = m + 1 := ⟨k - 1, by omega⟩
    simp only [barscanref14_digits.l0]
    rw [if_neg (by omega), List.drop_of_length_le (by omega)]
    rfl
  | succ d ih =>
    intro k i h1 h2
    obtain ⟨k, rfl⟩ : ∃ m, k = m + 1 := ⟨k - 1, by omega⟩
    have hlt : i < (bs s).length := by omega
    have hd : (bs s).drop i = (bs s)[i] :: (bs s).drop (i + 1) := List.drop_eq_getElem_cons hlt
    simp only [barscanref14_digits.l0]
    rw [if_pos (by omega), if_pos (by omega), bt_nat s i hlt, digit_f, Option.bind_some, hd, List.all_cons, wrap_up i (by omega)]
    rcases hm : isDig (bs s)[i] with _ | _
    · rw [if_neg (by simp), Bool.false_and]
    · rw [if_pos rfl, ih k (i + 1) (by omega) (by omega), Bool.true_and]
theorem digits_ev (s : ByteArray) (hs : s.size < 4611686018427387904) : ∀ k, s.size + 1 ≤ k → barscanref14_digits.f k s = some ((bs s).all isDig) := by
  intro k hk
  have := digits_l s hs (bs s).length k 0 (by omega) (by rw [bs_len]; omega)
  simpa [barscanref14_digits.f] using this
/-! ### The reference's table -/
def tableR (l : List UInt8) : Int × Int :=
  if l.all isDig = true then
    if l.length = 2 ∧ (!(Op.bytesLess l [57, 48] || l == [57, 48])) = true then (5, 90)
    else if l.length = 3 ∧ (!(Op.bytesLess l [52, 49, 48]) && (Op.bytesLess l [52, 49, 55] || l == [52, 49, 55])) = true then (2, 13)
    else if l.length = 4 ∧ (l.take 3 = [51, 57, 48] ∨ l.take 3 = [51, 57, 50]) then (4, 15)
    else if l.length = 4 ∧ (l.getD 3 0).toNat ≤ 53 ∧ inRange (l.take 3) = true then (1, 6)
    else (0, 0)
  else (0, 0)
def tableS (l : List UInt8) : Int × Int :=
  if l = [48, 48] then (2, 18)
  else if l = [48, 49] then (2, 14) else if l = [48, 50] then (2, 14)
  else if l = [49, 49] then (3, 6) else if l = [49, 50] then (3, 6) else if l = [49, 51] then (3, 6) else if l = [49, 53] then (3, 6) else if l = [49, 54] then (3, 6) else if l = [49, 55] then (3, 6)
  else if l = [50, 48] then (1, 2)
  else if l = [51, 48] then (4, 8) else if l = [51, 55] then (4, 8)
  else if l = [49, 48] then (5, 20) else if l = [50, 49] then (5, 20) else if l = [50, 50] then (5, 20) else if l = [50, 53, 52] then (5, 20)
  else if l = [56, 48, 50, 48] then (5, 25)
  else if l = [50, 52, 48] then (5, 30) else if l = [50, 52, 49] then (5, 30) else if l = [50, 53, 48] then (5, 30) else if l = [50, 53, 49] then (5, 30)
  else if l = [52, 48, 48] then (5, 30) else if l = [52, 48, 49] then (5, 30) else if l = [52, 48, 51] then (5, 30) else if l = [57, 48] then (5, 30)
  else tableR l
theorem take3 (s : ByteArray) : (s.extract 0 3).toList = (bs s).take 3 := by rw [Lib.toList_data]; exact (bs_extract s 0 3).trans (by simp)
theorem table_tail (a : ByteArray) (k : Nat) (hs : a.size < 4611686018427387904) (hk : a.size + 10 ≤ k) :
    ((barscanref14_digits.f (k + 3) a).bind fun t112 => (if t112 = true then (if (a.size : Int) = 2 then (barscanref14_table.j4 (k + 3) a (!(Op.bytesLess a.toList ([57, 48] : List UInt8) || a.toList == ([57, 48] : List UInt8)))) else (barscanref14_table.j4 (k + 3) a false)) else (some (0, 0)))) = some (tableR (bs a)) := by
  rw [digits_ev a hs (k + 3) (by omega), Option.bind_some]
  have hl := bs_len a
  rw [bs_toList]
  unfold tableR
  by_cases hd : (bs a).all isDig = true
  · rw [if_pos hd, if_pos hd]
    by_cases h2 : a.size = 2
    · rcases e1 : Op.bytesLess (bs a) [57, 48] with _ | _ <;> by_cases e2 : bs a = [57, 48] <;> simp [barscanref14_table.j4, barscanref14_table.j5, barscanref14_table.j6, h2, hl, e1, e2]
    · by_cases h3 : a.size = 3
      · rcases e1 : Op.bytesLess (bs a) [52, 49, 48] with _ | _ <;> rcases e2 : Op.bytesLess (bs a) [52, 49, 55] with _ | _ <;> by_cases e3 : bs a = [52, 49, 55] <;> simp [barscanref14_table.j4, barscanref14_table.j5, barscanref14_table.j6, h3, hl, e1, e2, e3, bs_toList] <;> (rw [e3] at e1; exact e1)
      · by_cases h4 : a.size = 4
        · have e5 := bt3 a h4
          have e6 := take3 a
          by_cases c6 : ((bs a).getD 3 0).toNat ≤ 53
          · have c7 : bt a 3 ≤ 53 := e5.2 c6
            by_cases c4 : (bs a).take 3 = [51, 57, 48]
            · simp [barscanref14_table.j4, barscanref14_table.j5, barscanref14_table.j6, h4, hl, e6, c4]
            · by_cases c5 : (bs a).take 3 = [51, 57, 50]
              · simp [barscanref14_table.j4, barscanref14_table.j5, barscanref14_table.j6, h4, hl, e6, c4, c5]
              · unfold inRange
                rcases p1 : Op.bytesLess ((bs a).take 3) [51, 49, 48] with _ | _ <;> rcases p2 : Op.bytesLess ((bs a).take 3) [51, 50, 48] with _ | _ <;> rcases p3 : (Op.bytesLess ((bs a).take 3) [51, 49, 54] || (bs a).take 3 == [51, 49, 54]) with _ | _ <;> rcases p4 : (Op.bytesLess ((bs a).take 3) [51, 51, 55] || (bs a).take 3 == [51, 51, 55]) with _ | _ <;> simp only [barscanref14_table.j4, barscanref14_table.j5, barscanref14_table.j6, h4, hl, e6, c4, c5, c6, c7, p1, p2, p3, p4] <;> simp [c4, c5]
          · have c7 : ¬ bt a 3 ≤ 53 := fun h => c6 (e5.1 h)
            by_cases c4 : (bs a).take 3 = [51, 57, 48]
            · simp [barscanref14_table.j4, barscanref14_table.j5, barscanref14_table.j6, h4, hl, e6, c4]
            · by_cases c5 : (bs a).take 3 = [51, 57, 50]
              · simp [barscanref14_table.j4, barscanref14_table.j5, barscanref14_table.j6, h4, hl, e6, c4, c5]
              · simp only [barscanref14_table.j4, barscanref14_table.j5, barscanref14_table.j6, h4, hl, e6, c4, c5, c6, c7]
                simp [c4, c5]
        · simp [barscanref14_table.j4, barscanref14_table.j5, barscanref14_table.j6, h2, h3, h4, hl, show ¬ (a.size : Int) = 2 by omega, show ¬ (a.size : Int) = 3 by omega, show ¬ (a.size : Int) = 4 by omega]
  · rw [if_neg hd, if_neg hd]
set_option maxHeartbeats 4000000 in
theorem table_ev (a : ByteArray) (hs : a.size < 4611686018427387904) (k : Nat) (hk : a.size + 20 ≤ k) : barscanref14_table.f k a = some (tableS (bs a)) := by
  obtain ⟨k, rfl⟩ : ∃ j, k = j + 7 := ⟨k - 7, by omega⟩
  have ht := table_tail a k hs (by omega)
  have e := bs_toList a
  rw [e] at ht
  unfold tableS barscanref14_table.f
  rw [e]
  by_cases h0 : bs a = [48, 48]
  · simp [barscanref14_table.j0, barscanref14_table.j1, barscanref14_table.j2, barscanref14_table.j3, e, h0]
  by_cases h1 : bs a = [48, 49]
  · simp [barscanref14_table.j0, barscanref14_table.j1, barscanref14_table.j2, barscanref14_table.j3, e, h1]
  by_cases h2 : bs a = [48, 50]
  · simp [barscanref14_table.j0, barscanref14_table.j1, barscanref14_table.j2, barscanref14_table.j3, e, h2]
  by_cases h3 : bs a = [49, 49]
  · simp [barscanref14_table.j0, barscanref14_table.j1, barscanref14_table.j2, barscanref14_table.j3, e, h3]
  by_cases h4 : bs a = [49, 50]
  · simp [barscanref14_table.j0, barscanref14_table.j1, barscanref14_table.j2, barscanref14_table.j3, e, h4]
  by_cases h5 : bs a = [49, 51]
  · simp [barscanref14_table.j0, barscanref14_table.j1, barscanref14_table.j2, barscanref14_table.j3, e, h5]
  by_cases h6 : bs a = [49, 53]
  · simp [barscanref14_table.j0, barscanref14_table.j1, barscanref14_table.j2, barscanref14_table.j3, e, h6]
  by_cases h7 : bs a = [49, 54]
  · simp [barscanref14_table.j0, barscanref14_table.j1, barscanref14_table.j2, barscanref14_table.j3, e, h7]
  by_cases h8 : bs a = [49, 55]
  · simp [barscanref14_table.j0, barscanref14_table.j1, barscanref14_table.j2, barscanref14_table.j3, e, h8]
  by_cases h9 : bs a = [50, 48]
  · simp [barscanref14_table.j0, barscanref14_table.j1, barscanref14_table.j2, barscanref14_table.j3, e, h9]
  by_cases h10 : bs a = [51, 48]
  · simp [barscanref14_table.j0, barscanref14_table.j1, barscanref14_table.j2, barscanref14_table.j3, e, h10]
  by_cases h11 : bs a = [51, 55]
  · simp [barscanref14_table.j0, barscanref14_table.j1, barscanref14_table.j2, barscanref14_table.j3, e, h11]
  by_cases h12 : bs a = [49, 48]
  · simp [barscanref14_table.j0, barscanref14_table.j1, barscanref14_table.j2, barscanref14_table.j3, e, h12]
  by_cases h13 : bs a = [50, 49]
  · simp [barscanref14_table.j0, barscanref14_table.j1, barscanref14_table.j2, barscanref14_table.j3, e, h13]
  by_cases h14 : bs a = [50, 50]
  · simp [barscanref14_table.j0, barscanref14_table.j1, barscanref14_table.j2, barscanref14_table.j3, e, h14]
  by_cases h15 : bs a = [50, 53, 52]
  · simp [barscanref14_table.j0, barscanref14_table.j1, barscanref14_table.j2, barscanref14_table.j3, e, h15]
  by_cases h16 : bs a = [56, 48, 50, 48]
  · simp [barscanref14_table.j0, barscanref14_table.j1, barscanref14_table.j2, barscanref14_table.j3, e, h16]
  by_cases h17 : bs a = [50, 52, 48]
  · simp [barscanref14_table.j0, barscanref14_table.j1, barscanref14_table.j2, barscanref14_table.j3, e, h17]
  by_cases h18 : bs a = [50, 52, 49]
  · simp [barscanref14_table.j0, barscanref14_table.j1, barscanref14_table.j2, barscanref14_table.j3, e, h18]
  by_cases h19 : bs a = [50, 53, 48]
  · simp [barscanref14_table.j0, barscanref14_table.j1, barscanref14_table.j2, barscanref14_table.j3, e, h19]
  by_cases h20 : bs a = [50, 53, 49]
  · simp [barscanref14_table.j0, barscanref14_table.j1, barscanref14_table.j2, barscanref14_table.j3, e, h20]
  by_cases h21 : bs a = [52, 48, 48]
  · simp [barscanref14_table.j0, barscanref14_table.j1, barscanref14_table.j2, barscanref14_table.j3, e, h21]
  by_cases h22 : bs a = [52, 48, 49]
  · simp [barscanref14_table.j0, barscanref14_table.j1, barscanref14_table.j2, barscanref14_table.j3, e, h22]
  by_cases h23 : bs a = [52, 48, 51]
  · simp [barscanref14_table.j0, barscanref14_table.j1, barscanref14_table.j2, barscanref14_table.j3, e, h23]
  by_cases h24 : bs a = [57, 48]
  · simp [barscanref14_table.j0, barscanref14_table.j1, barscanref14_table.j2, barscanref14_table.j3, e, h24]
  simp only [barscanref14_table.j0, barscanref14_table.j1, barscanref14_table.j2, barscanref14_table.j3, e, beq_iff_eq, h0, h1, h2, h3, h4, h5, h6, h7, h8, h9, h10, h11, h12, h13, h14, h15, h16, h17, h18, h19, h20, h21, h22, h23, h24, if_false, Bool.false_eq_true]
  exact ht
/-! ### The program's own table says the same -/
def conv (t : Int × Int) : Int × Int × Bool × Bool × Bool × Bool :=
  if t.1 = 1 then (t.2, t.2, true, false, false, true)
  else if t.1 = 2 then (t.2, t.2, true, true, false, true)
  else if t.1 = 3 then (t.2, t.2, true, false, true, true)
  else if t.1 = 4 then (0, t.2, true, false, false, true)
  else if t.1 = 5 then (0, t.2, false, false, false, true)
  else (0, 0, false, false, false, false)
set_option maxRecDepth 100000 in
theorem named_conv : ∀ p ∈ items6, okForm p.2 = conv (tableS p.1) := by decide +kernel
theorem look_some {m : List (List UInt8 × Form)} {k : List UInt8} {f : Form} (h : look m k = some f) : (k, f) ∈ m := by
  unfold look at h
  obtain ⟨p, hp, rfl⟩ := Option.map_eq_some_iff.1 h
  have h1 := List.find?_some hp
  have h2 := List.mem_of_find?_eq_some hp
  have h3 : p.1 = k := beq_iff_eq.1 h1
  rw [← h3]
  exact h2
theorem look_none {m : List (List UInt8 × Form)} {k : List UInt8} (h : look m k = none) : ∀ p ∈ m, p.1 ≠ k := by
  unfold look at h
  have h1 := Option.map_eq_none_iff.1 h
  rw [List.find?_eq_none] at h1
  exact fun p hp he => h1 p hp (beq_iff_eq.2 he)
theorem dig_of {c : UInt8} (h : isDig c = true) : ∃ n : Fin 10, c = UInt8.ofNat (48 + n.val) := by
  have h2 : 48 ≤ c.toNat ∧ c.toNat ≤ 57 := by unfold isDig at h; simpa using h
  refine ⟨⟨c.toNat - 48, by omega⟩, ?_⟩
  show c = UInt8.ofNat (48 + (c.toNat - 48))
  rw [show 48 + (c.toNat - 48) = c.toNat by omega, UInt8.ofNat_toNat]
def namedAI (l : List UInt8) : Bool := items6.any fun p => p.1 == l
theorem namedAI_of {l : List UInt8} (h : namedAI l = true) : ∃ p ∈ items6, p.1 = l := by
  unfold namedAI at h
  obtain ⟨p, hp, he⟩ := List.any_eq_true.1 h
  exact ⟨p, hp, beq_iff_eq.1 he⟩
set_option maxRecDepth 100000 in
theorem two_all : ∀ n m : Fin 10, (Op.bytesLess [UInt8.ofNat (48 + n.val), UInt8.ofNat (48 + m.val)] [57, 48] || [UInt8.ofNat (48 + n.val), UInt8.ofNat (48 + m.val)] == [57, 48]) || namedAI [UInt8.ofNat (48 + n.val), UInt8.ofNat (48 + m.val)] = true := by decide +kernel
set_option maxRecDepth 100000 in
theorem three_all : ∀ n m o : Fin 10, (!(!(Op.bytesLess [UInt8.ofNat (48 + n.val), UInt8.ofNat (48 + m.val), UInt8.ofNat (48 + o.val)] [52, 49, 48]) && (Op.bytesLess [UInt8.ofNat (48 + n.val), UInt8.ofNat (48 + m.val), UInt8.ofNat (48 + o.val)] [52, 49, 55] || [UInt8.ofNat (48 + n.val), UInt8.ofNat (48 + m.val), UInt8.ofNat (48 + o.val)] == [52, 49, 55]))) || namedAI [UInt8.ofNat (48 + n.val), UInt8.ofNat (48 + m.val), UInt8.ofNat (48 + o.val)] = true := by decide +kernel
theorem two_dig {l : List UInt8} (hl : l.length = 2) (hd : l.all isDig = true) (h : (!(Op.bytesLess l [57, 48] || l == [57, 48])) = true) : ∃ p ∈ items6, p.1 = l := by
  match l, hl with
  | [a, b], _ =>
    simp only [List.all_cons, List.all_nil, Bool.and_true, Bool.and_eq_true] at hd
    obtain ⟨n, rfl⟩ := dig_of hd.1
    obtain ⟨m, rfl⟩ := dig_of hd.2
    have := two_all n m
    refine namedAI_of ?_
    rcases hx : (Op.bytesLess [UInt8.ofNat (48 + n.val), UInt8.ofNat (48 + m.val)] [57, 48] || [UInt8.ofNat (48 + n.val), UInt8.ofNat (48 + m.val)] == [57, 48]) with _ | _
    · rw [hx] at this; simpa using this
    · rw [hx] at h; cases h
theorem three_dig {l : List UInt8} (hl : l.length = 3) (hd : l.all isDig = true) (h : (!(Op.bytesLess l [52, 49, 48]) && (Op.bytesLess l [52, 49, 55] || l == [52, 49, 55])) = true) : ∃ p ∈ items6, p.1 = l := by
  match l, hl with
  | [a, b, c], _ =>
    simp only [List.all_cons, List.all_nil, Bool.and_true, Bool.and_eq_true] at hd
    obtain ⟨n, rfl⟩ := dig_of hd.1
    obtain ⟨m, rfl⟩ := dig_of hd.2.1
    obtain ⟨o, rfl⟩ := dig_of hd.2.2
    have := three_all n m o
    rw [h] at this
    exact namedAI_of (by simpa using this)
set_option maxRecDepth 100000 in
theorem tableS_other {l : List UInt8} (h : ∀ p ∈ items6, p.1 ≠ l) : tableS l = tableR l := by
  unfold tableS
  rw [if_neg (fun e => absurd (namedAI_of (l := l) (by rw [e]; decide +kernel)) (fun ⟨p, hp, he⟩ => h p hp he))]
  rw [if_neg (fun e => absurd (namedAI_of (l := l) (by rw [e]; decide +kernel)) (fun ⟨p, hp, he⟩ => h p hp he))]
  rw [if_neg (fun e => absurd (namedAI_of (l := l) (by rw [e]; decide +kernel)) (fun ⟨p, hp, he⟩ => h p hp he))]
  rw [if_neg (fun e => absurd (namedAI_of (l := l) (by rw [e]; decide +kernel)) (fun ⟨p, hp, he⟩ => h p hp he))]
  rw [if_neg (fun e => absurd (namedAI_of (l := l) (by rw [e]; decide +kernel)) (fun ⟨p, hp, he⟩ => h p hp he))]
  rw [if_neg (fun e => absurd (namedAI_of (l := l) (by rw [e]; decide +kernel)) (fun ⟨p, hp, he⟩ => h p hp he))]
  rw [if_neg (fun e => absurd (namedAI_of (l := l) (by rw [e]; decide +kernel)) (fun ⟨p, hp, he⟩ => h p hp he))]
  rw [if_neg (fun e => absurd (namedAI_of (l := l) (by rw [e]; decide +kernel)) (fun ⟨p, hp, he⟩ => h p hp he))]
  rw [if_neg (fun e => absurd (namedAI_of (l := l) (by rw [e]; decide +kernel)) (fun ⟨p, hp, he⟩ => h p hp he))]
  rw [if_neg (fun e => absurd (namedAI_of (l := l) (by rw [e]; decide +kernel)) (fun ⟨p, hp, he⟩ => h p hp he))]
  rw [if_neg (fun e => absurd (namedAI_of (l := l) (by rw [e]; decide +kernel)) (fun ⟨p, hp, he⟩ => h p hp he))]
  rw [if_neg (fun e => absurd (namedAI_of (l := l) (by rw [e]; decide +kernel)) (fun ⟨p, hp, he⟩ => h p hp he))]
  rw [if_neg (fun e => absurd (namedAI_of (l := l) (by rw [e]; decide +kernel)) (fun ⟨p, hp, he⟩ => h p hp he))]
  rw [if_neg (fun e => absurd (namedAI_of (l := l) (by rw [e]; decide +kernel)) (fun ⟨p, hp, he⟩ => h p hp he))]
  rw [if_neg (fun e => absurd (namedAI_of (l := l) (by rw [e]; decide +kernel)) (fun ⟨p, hp, he⟩ => h p hp he))]
  rw [if_neg (fun e => absurd (namedAI_of (l := l) (by rw [e]; decide +kernel)) (fun ⟨p, hp, he⟩ => h p hp he))]
  rw [if_neg (fun e => absurd (namedAI_of (l := l) (by rw [e]; decide +kernel)) (fun ⟨p, hp, he⟩ => h p hp he))]
  rw [if_neg (fun e => absurd (namedAI_of (l := l) (by rw [e]; decide +kernel)) (fun ⟨p, hp, he⟩ => h p hp he))]
  rw [if_neg (fun e => absurd (namedAI_of (l := l) (by rw [e]; decide +kernel)) (fun ⟨p, hp, he⟩ => h p hp he))]
  rw [if_neg (fun e => absurd (namedAI_of (l := l) (by rw [e]; decide +kernel)) (fun ⟨p, hp, he⟩ => h p hp he))]
  rw [if_neg (fun e => absurd (namedAI_of (l := l) (by rw [e]; decide +kernel)) (fun ⟨p, hp, he⟩ => h p hp he))]
  rw [if_neg (fun e => absurd (namedAI_of (l := l) (by rw [e]; decide +kernel)) (fun ⟨p, hp, he⟩ => h p hp he))]
  rw [if_neg (fun e => absurd (namedAI_of (l := l) (by rw [e]; decide +kernel)) (fun ⟨p, hp, he⟩ => h p hp he))]
  rw [if_neg (fun e => absurd (namedAI_of (l := l) (by rw [e]; decide +kernel)) (fun ⟨p, hp, he⟩ => h p hp he))]
  rw [if_neg (fun e => absurd (namedAI_of (l := l) (by rw [e]; decide +kernel)) (fun ⟨p, hp, he⟩ => h p hp he))]
theorem inRange_not {l : List UInt8} (h : l = [51, 57, 48] ∨ l = [51, 57, 50]) : inRange l = false := by
  rcases h with rfl | rfl <;> decide +kernel
/-- The program's table is the reference's, in other words. -/
theorem formOfS_table (l : List UInt8) : formOfS l = conv (tableS l) := by
  unfold formOfS
  split
  · rename_i f hl
    exact named_conv (l, f) (look_some hl)
  · rename_i hl
    have hn := look_none hl
    rw [tableS_other hn]
    unfold restForm tableR
    by_cases hd : l.all isDig = true
    · rw [if_pos hd]
      have n2 : ¬ (l.length = 2 ∧ (!(Op.bytesLess l [57, 48] || l == [57, 48])) = true) := fun h => by
        obtain ⟨p, hp, he⟩ := two_dig h.1 hd h.2
        exact hn p hp he
      have n3 : ¬ (l.length = 3 ∧ (!(Op.bytesLess l [52, 49, 48]) && (Op.bytesLess l [52, 49, 55] || l == [52, 49, 55])) = true) := fun h => by
        obtain ⟨p, hp, he⟩ := three_dig h.1 hd h.2
        exact hn p hp he
      rw [if_neg n2, if_neg n3]
      by_cases h4 : l.length = 4
      · rw [if_pos h4, if_pos hd]
        by_cases c1 : l.take 3 = [51, 57, 48] ∨ l.take 3 = [51, 57, 50]
        · rw [if_neg (show ¬ (inRange (l.take 3) = true ∧ (l.getD 3 0).toNat ≤ 53) from fun h => by have := h.1; rw [inRange_not c1] at this; cases this), if_pos c1, if_pos (show l.length = 4 ∧ (l.take 3 = [51, 57, 48] ∨ l.take 3 = [51, 57, 50]) from ⟨h4, c1⟩)]
          rfl
        · rw [if_neg (show ¬ (l.length = 4 ∧ _) from fun h => c1 h.2)]
          by_cases c2 : (l.getD 3 0).toNat ≤ 53 ∧ inRange (l.take 3) = true
          · rw [if_pos (show inRange (l.take 3) = true ∧ (l.getD 3 0).toNat ≤ 53 from ⟨c2.2, c2.1⟩), if_pos (show l.length = 4 ∧ _ from ⟨h4, c2⟩)]
            rfl
          · rw [if_neg (show ¬ (inRange (l.take 3) = true ∧ (l.getD 3 0).toNat ≤ 53) from fun h => c2 ⟨h.2, h.1⟩), if_neg c1, if_neg (show ¬ (l.length = 4 ∧ _) from fun h => c2 h.2)]
            rfl
      · simp only [h4, hd, false_and, if_false, if_true]
        rfl
    · rw [if_neg hd]
      split <;> rfl
theorem ite_mem {α : Type} {c : Prop} [Decidable c] {x y : α} {L : List α} (hx : x ∈ L) (hy : y ∈ L) : (if c then x else y) ∈ L := by split <;> assumption
theorem tableS_form (l : List UInt8) : tableS l ∈ [(2, 18), (2, 14), (3, 6), (1, 2), (4, 8), (5, 20), (5, 25), (5, 30), (5, 90), (2, 13), (4, 15), (1, 6), ((0 : Int), (0 : Int))] := by
  unfold tableS tableR
  repeat' (with_reducible refine ite_mem ?_ ?_)
  all_goals simp
def fixedS (l : List UInt8) : Int × Int × Int := if (tableS l).1 = 0 then (0, 0, 29) else if (tableS l).1 = 4 ∨ (tableS l).1 = 5 then (0, (tableS l).2, 0) else ((tableS l).2, (tableS l).2, 0)
theorem ref_fixed_ev (a : ByteArray) (hs : a.size < 4611686018427387904) (k : Nat) (hk : a.size + 20 ≤ k) : barscanref14_Fixed.f k a = some (fixedS (bs a)) := by
  unfold barscanref14_Fixed.f fixedS
  rw [table_ev a hs k hk, Option.bind_some]
  by_cases h0 : (tableS (bs a)).1 = 0
  · rw [if_pos h0, if_pos h0]
  · rw [if_neg h0, if_neg h0]
    by_cases h4 : (tableS (bs a)).1 = 4
    · rw [if_pos h4, if_pos (Or.inl h4)]
    · rw [if_neg h4]
      by_cases h5 : (tableS (bs a)).1 = 5
      · rw [if_pos h5, if_pos (Or.inr h5)]
      · rw [if_neg h5, if_neg (by omega)]
theorem form_at (a : ByteArray) (hs : a.size < 4294967281) : gs1_formOf.f a = some (conv (tableS (bs a))) := by
  unfold gs1_formOf.f
  rw [if_pos hs, formOfS_table]
theorem fixed_at (a : ByteArray) (hs : a.size < 4294967281) : gs1_Fixed.f a = some (fixedS (bs a)) := by
  unfold gs1_Fixed.f fixedS
  rw [form_at a hs, Option.bind_some]
  have h := tableS_form (bs a)
  simp only [List.mem_cons, List.not_mem_nil, or_false] at h
  rcases h with h | h | h | h | h | h | h | h | h | h | h | h | h <;> rw [h] <;> rfl
end Go.Proofs.YtghlbdemlmbijaaGreatDoor.Q

namespace Go.Proofs.YtghlbdemlmbijaaGreatDoor.Q
open Go.RowKit Go.Proofs.YtghlbdemlmbijaaGreatDoorW.PrintWords Go.Proofs.YtghlbdemlmbijaaGreatDoorW.PrintLast Go.Proofs.YtghlbdemlmbijaaGreatDoorW.PrintMore

set_option linter.unusedVariables false
set_option linter.unusedSimpArgs false

/-! ### gs1_within: function 48 -/
def gs1_within.l0 : Nat → ByteArray → ByteArray → Int → Int → Option (Bool)
 | 0, _, _, _, _ => none
 | k + 1, x0, x1, x7, x8 => if x8 < x7 then (if 0 ≤ x8 then (if x8 < (x0.size : Int) then ((strings_IndexByte.f x1 (bt x0 x8)).bind fun t115 => (if t115 < 0 then (some false) else (gs1_within.l0 k x0 x1 x7 (wrap64 (x8 + 1))))) else (none)) else (none)) else (some true)
def gs1_within.f (k : Nat) (a0 : ByteArray) (a1 : ByteArray) : Option (Bool) := gs1_within.l0 k a0 a1 (a0.size : Int) 0
theorem gs1_within.mono_l : ∀ k, (∀ y0 y1 y2 y3, LeO (gs1_within.l0 k y0 y1 y2 y3) (gs1_within.l0 (k + 1) y0 y1 y2 y3))
 | 0 => fun _ _ _ _ r h => by simp [gs1_within.l0] at h
 | k + 1 => by
  have ih0 := gs1_within.mono_l k
  ·intro y0 y1 y2 y3
   unfold gs1_within.l0
   repeat' first
   | (with_reducible exact ih0 _ _ _ _)
   | (with_reducible exact LeO.refl _)
   | (with_reducible exact LeO.none _)
   | (with_reducible refine LeO.ite ?_ ?_)
   | (with_reducible refine LeO.bind ?_ (fun _ => ?_))
   | exact ih0 _ _ _ _
   | exact LeO.none _
   | refine LeO.ite ?_ ?_
   | refine LeO.bind ?_ (fun _ => ?_)
theorem gs1_within.mono : ∀ a0 a1 k, LeO (gs1_within.f k a0 a1) (gs1_within.f (k + 1) a0 a1) := by
 intro a0 a1 k
 have ih0 := gs1_within.mono_l k
 unfold gs1_within.f
 repeat' first
   | (with_reducible exact ih0 _ _ _ _)
   | (with_reducible exact LeO.refl _)
   | (with_reducible exact LeO.none _)
   | (with_reducible refine LeO.ite ?_ ?_)
   | (with_reducible refine LeO.bind ?_ (fun _ => ?_))
   | exact ih0 _ _ _ _
   | exact LeO.none _
   | refine LeO.ite ?_ ?_
   | refine LeO.bind ?_ (fun _ => ?_)
set_option maxHeartbeats 8000000 in
set_option maxRecDepth 100000 in
theorem gs1_within.calls (k : Nat) (a0 : ByteArray) (a1 : ByteArray) (r : Bool) (w : World) (h : gs1_within.f k a0 a1 = some r) :
  Calls Tryz.prog 48 #[.string a0, .string a1] w fun e w' => e = .returned (.bool r) ∧ Drawn0 w w' := by
 have H : (gs1_within.l0 k a0 a1 (a0.size : Int) 0) = some r := h
 clear h
 have H' := Aside0.mk H
 clear H
 go_enter Tryz.func48, Tryz.ntmps48
 go_wp2
 go_loopg [8] k (fun kq v8 w' => ∃ (x8_1 : Int), v8 = .int .i64 x8_1 ∧ Aside0 (gs1_within.l0 kq a0 a1 (a0.size : Int) x8_1 = some r) ∧ Aside0 (kq ≤ k) ∧ Drawn0 w w')
 case atStart => exact ⟨(0), (by first | rfl | (simp; done) | (simp [*]; done)), H', ⟨Nat.le_refl _⟩, by repeat (first | exact Drawn0.refl _ | apply Drawn0.step)⟩
 case round =>
  clear H'
  obtain ⟨x8_1, rfl, HA, HK1, ⟨m1, rfl⟩⟩ := hrel
  cases gk with
  | zero => exact absurd HA.out (by simp [gs1_within.l0])
  | succ k1 =>
   have H := HA.out
   clear HA
   simp only [gs1_within.l0] at H
   by_cases c3 : x8_1 < (a0.size : Int)
   ·rw [if_pos c3] at H
    have c3b0 : decide (x8_1 < (a0.size : Int)) = true := decide_eq_true c3
    clear c3
    by_cases c4 : 0 ≤ x8_1
    ·rw [if_pos c4] at H
     have c4b0 : decide (0 ≤ x8_1) = true := decide_eq_true c4
     clear c4
     by_cases c5 : x8_1 < (a0.size : Int)
     ·rw [if_pos c5] at H
      have c5b0 : decide (x8_1 < (a0.size : Int)) = true := decide_eq_true c5
      clear c5
      replace H := Option.bind_eq_some_iff.mp H
      obtain ⟨t115, A70, H⟩ := H
      replace H : (if t115 < 0 then (some false) else (gs1_within.l0 k1 a0 a1 (a0.size : Int) (wrap64 (x8_1 + 1)))) = some r := H
      have A7 := Aside0.mk A70
      clear A70
      by_cases c8 : t115 < 0
      ·rw [if_pos c8] at H
       have c8b0 : decide (t115 < 0) = true := decide_eq_true c8
       clear c8
       obtain rfl := Option.some.inj H
       have p6 : 0 ≤ (x8_1 : Int) := of_decide_eq_true (by first | (with_reducible assumption) | assumption)
       have q6 : x8_1 < (a0.size : Int) := of_decide_eq_true (by first | (with_reducible assumption) | assumption)
       have hx6 := bt_at a0 x8_1
       replace p6 := eq_true p6
       replace q6 := eq_true q6
       go_wp2_with (first | ((with_reducible refine gate_callee (f := 29) rfl ?_); refine goesL_ (some 15) rfl rfl Tryz.func29 (by kernel_rfl) rfl #[.string a1, .int .u8 (bt a0 x8_1)] rfl (by (try simp only [List.map_toArray, List.map_cons, List.map_nil]); first | done | rfl | (simp only [List.length_drop, List.length_take]; rfl)) ?_; (with_reducible refine (strings_IndexByte.calls a1 (bt a0 x8_1) t115 _ A7.out).mono ?_); rintro e w' ⟨rfl, ⟨nd, rfl⟩⟩; refine ⟨_, rfl, ?_⟩))
       go_ret
       exact ⟨by first | rfl | (simp; done) | (simp [*]; done), by repeat (first | exact Drawn0.refl _ | apply Drawn0.step)⟩
      ·rw [if_neg c8] at H
       have c8b0 : decide (t115 < 0) = false := decide_eq_false c8
       clear c8
       have H' := Aside0.mk H
       clear H
       have p6 : 0 ≤ (x8_1 : Int) := of_decide_eq_true (by first | (with_reducible assumption) | assumption)
       have q6 : x8_1 < (a0.size : Int) := of_decide_eq_true (by first | (with_reducible assumption) | assumption)
       have hx6 := bt_at a0 x8_1
       replace p6 := eq_true p6
       replace q6 := eq_true q6
       go_wp2_with (first | ((with_reducible refine gate_callee (f := 29) rfl ?_); refine goesL_ (some 15) rfl rfl Tryz.func29 (by kernel_rfl) rfl #[.string a1, .int .u8 (bt a0 x8_1)] rfl (by (try simp only [List.map_toArray, List.map_cons, List.map_nil]); first | done | rfl | (simp only [List.length_drop, List.length_take]; rfl)) ?_; (with_reducible refine (strings_IndexByte.calls a1 (bt a0 x8_1) t115 _ A7.out).mono ?_); rintro e w' ⟨rfl, ⟨nd, rfl⟩⟩; refine ⟨_, rfl, ?_⟩))
       go_roundg k1
       case measure => have := HK1.out; omega
       case rel => exact ⟨(wrap64 (x8_1 + 1)), (by first | rfl | (simp; done) | (simp [*]; done)), H', ⟨by have := HK1.out; omega⟩, by repeat (first | exact Drawn0.refl _ | apply Drawn0.step)⟩
     ·rw [if_neg c5] at H
      exact absurd H (by simp)
    ·rw [if_neg c4] at H
     exact absurd H (by simp)
   ·rw [if_neg c3] at H
    have c3b0 : decide (x8_1 < (a0.size : Int)) = false := decide_eq_false c3
    clear c3
    obtain rfl := Option.some.inj H
    go_wp2
    go_ret
    exact ⟨by first | rfl | (simp; done) | (simp [*]; done), by repeat (first | exact Drawn0.refl _ | apply Drawn0.step)⟩

end Go.Proofs.YtghlbdemlmbijaaGreatDoor.Q

namespace Go.Proofs.YtghlbdemlmbijaaGreatDoor.Q
open Go.RowKit Go.Proofs.YtghlbdemlmbijaaGreatDoorW.PrintWords Go.Proofs.YtghlbdemlmbijaaGreatDoorW.PrintLast Go.Proofs.YtghlbdemlmbijaaGreatDoorW.PrintMore

set_option linter.unusedVariables false
set_option linter.unusedSimpArgs false

/-! ### gs1_two: function 66 -/
def gs1_two.f (a0 : ByteArray) : Option (Int) := if 0 < (a0.size : Int) then (if 1 < (a0.size : Int) then (some ((10 * (((bt a0 0) - 48) % 256)) + (((bt a0 1) - 48) % 256))) else (none)) else (none)
set_option maxHeartbeats 8000000 in
set_option maxRecDepth 100000 in
theorem gs1_two.calls (a0 : ByteArray) (r : Int) (w : World) (h : gs1_two.f a0 = some r) :
  Calls Tryz.prog 66 #[.string a0] w fun e w' => e = .returned (.int .i64 r) ∧ Drawn0 w w' := by
 have H : (if 0 < (a0.size : Int) then (if 1 < (a0.size : Int) then (some ((10 * (((bt a0 0) - 48) % 256)) + (((bt a0 1) - 48) % 256))) else (none)) else (none)) = some r := h
 clear h
 by_cases c2 : 0 < (a0.size : Int)
 ·rw [if_pos c2] at H
  have c2b0 : decide (0 < (a0.size : Int)) = true := decide_eq_true c2
  have c2b1 : decide (0 < a0.size) = true := decide_eq_true (by omega)
  clear c2
  by_cases c4 : 1 < (a0.size : Int)
  ·rw [if_pos c4] at H
   have c4b0 : decide (1 < (a0.size : Int)) = true := decide_eq_true c4
   have c4b1 : decide (1 < a0.size) = true := decide_eq_true (by omega)
   clear c4
   obtain rfl := Option.some.inj H
   have p3 : 0 ≤ (0 : Int) := (by omega)
   have q3 : 0 < a0.size := (by have : (0 : Int) < (a0.size : Int) := of_decide_eq_true (by first | (with_reducible assumption) | assumption); omega)
   have hx3 : ∀ h : 0 < a0.size, ((a0[0]'h).toNat : Int) = bt a0 0 := bt_at a0 0
   clear p3
   have qi3 : (0 < (a0.size : Int)) = True := eq_true (of_decide_eq_true (by first | (with_reducible assumption) | assumption))
   replace q3 := eq_true q3
   have p5 : 0 ≤ (1 : Int) := (by omega)
   have q5 : 1 < a0.size := (by have : (1 : Int) < (a0.size : Int) := of_decide_eq_true (by first | (with_reducible assumption) | assumption); omega)
   have hx5 : ∀ h : 1 < a0.size, ((a0[1]'h).toNat : Int) = bt a0 1 := bt_at a0 1
   clear p5
   have qi5 : (1 < (a0.size : Int)) = True := eq_true (of_decide_eq_true (by first | (with_reducible assumption) | assumption))
   replace q5 := eq_true q5
   go_enter Tryz.func66, Tryz.ntmps66
   go_wp2
   repeat (go_quiet (fail); try go_wp2)
   go_ret
   exact ⟨by first | rfl | (simp; done) | (simp [*]; done), by repeat (first | exact Drawn0.refl _ | apply Drawn0.step)⟩
  ·rw [if_neg c4] at H
   exact absurd H (by simp)
 ·rw [if_neg c2] at H
  exact absurd H (by simp)

end Go.Proofs.YtghlbdemlmbijaaGreatDoor.Q

namespace Go.Proofs.YtghlbdemlmbijaaGreatDoor.Q
open Go.RowKit Go.Proofs.YtghlbdemlmbijaaGreatDoorW.PrintWords Go.Proofs.YtghlbdemlmbijaaGreatDoorW.PrintLast Go.Proofs.YtghlbdemlmbijaaGreatDoorW.PrintMore

set_option linter.unusedVariables false
set_option linter.unusedSimpArgs false

/-! ### gs1_date: function 49 -/
def gs1_date.j0 : Nat → List Int → Int → Int → Int → Bool → Option (Bool)
 | 0, _, _, _, _, _ => none
 | k + 1, x3, x4, x5, x6, x23 => if x23 = true then (some false) else (if 0 ≤ (wrap64 (x5 - 1)) then (if (wrap64 (x5 - 1)) < (x3.length : Int) then (if x5 = 2 then (if (Int.tmod x4 4) = 0 then (some (decide (x6 ≤ (wrap64 ((rd x3 (wrap64 (x5 - 1))) + 1))))) else (some (decide (x6 ≤ (rd x3 (wrap64 (x5 - 1))))))) else (some (decide (x6 ≤ (rd x3 (wrap64 (x5 - 1))))))) else (none)) else (none))
def gs1_date.f (k : Nat) (a0 : ByteArray) : Option (Bool) := (some (([31, 28, 31, 30, 31, 30, 31, 31, 30, 31, 30, 31] : List Int) : List Int)).bind fun y116 => (if 0 ≤ 2 then (if 2 ≤ (a0.size : Int) then ((gs1_two.f (a0.extract 0 2)).bind fun t119 => (if 2 ≤ 4 then (if 4 ≤ (a0.size : Int) then ((gs1_two.f (a0.extract 2 4)).bind fun t120 => ((gs1_two.f (a0.extract 4 a0.size)).bind fun t121 => (if t120 < 1 then (gs1_date.j0 k y116 t119 t120 t121 true) else (gs1_date.j0 k y116 t119 t120 t121 (decide (t120 > 12)))))) else (none)) else (none))) else (none)) else (none))
theorem gs1_date.mono_l : ∀ k, (∀ y0 y1 y2 y3 y4, LeO (gs1_date.j0 k y0 y1 y2 y3 y4) (gs1_date.j0 (k + 1) y0 y1 y2 y3 y4))
 | 0 => fun _ _ _ _ _ r h => by simp [gs1_date.j0] at h
 | k + 1 => by
  have ih0 := gs1_date.mono_l k
  ·intro y0 y1 y2 y3 y4
   unfold gs1_date.j0
   repeat' first
   | (with_reducible exact ih0 _ _ _ _ _)
   | (with_reducible exact LeO.refl _)
   | (with_reducible exact LeO.none _)
   | (with_reducible refine LeO.ite ?_ ?_)
   | (with_reducible refine LeO.bind ?_ (fun _ => ?_))
   | exact ih0 _ _ _ _ _
   | exact LeO.none _
   | refine LeO.ite ?_ ?_
   | refine LeO.bind ?_ (fun _ => ?_)
theorem gs1_date.mono : ∀ a0 k, LeO (gs1_date.f k a0) (gs1_date.f (k + 1) a0) := by
 intro a0 k
 have ih0 := gs1_date.mono_l k
 unfold gs1_date.f
 repeat' first
   | (with_reducible exact ih0 _ _ _ _ _)
   | (with_reducible exact LeO.refl _)
   | (with_reducible exact LeO.none _)
   | (with_reducible refine LeO.ite ?_ ?_)
   | (with_reducible refine LeO.bind ?_ (fun _ => ?_))
   | exact ih0 _ _ _ _ _
   | exact LeO.none _
   | refine LeO.ite ?_ ?_
   | refine LeO.bind ?_ (fun _ => ?_)
set_option maxHeartbeats 8000000 in
set_option maxRecDepth 100000 in
theorem gs1_date.calls (k : Nat) (a0 : ByteArray) (r : Bool) (w : World) (h : gs1_date.f k a0 = some r) :
  Calls Tryz.prog 49 #[.string a0] w fun e w' => e = .returned (.bool r) ∧ Below w.heap.size w w' := by
 have HB := Aside0.mk (Below.refl w.heap.size w)
 have H : ((some (([31, 28, 31, 30, 31, 30, 31, 31, 30, 31, 30, 31] : List Int) : List Int)).bind fun y116 => (if 0 ≤ 2 then (if 2 ≤ (a0.size : Int) then ((gs1_two.f (a0.extract 0 2)).bind fun t119 => (if 2 ≤ 4 then (if 4 ≤ (a0.size : Int) then ((gs1_two.f (a0.extract 2 4)).bind fun t120 => ((gs1_two.f (a0.extract 4 a0.size)).bind fun t121 => (if t120 < 1 then (gs1_date.j0 k y116 t119 t120 t121 true) else (gs1_date.j0 k y116 t119 t120 t121 (decide (t120 > 12)))))) else (none)) else (none))) else (none)) else (none))) = some r := h
 clear h
 obtain ⟨y116, hy116⟩ : ∃ y_ : List Int, y_ = (([31, 28, 31, 30, 31, 30, 31, 31, 30, 31, 30, 31] : List Int)) := ⟨_, rfl⟩
 replace H : (if 0 ≤ 2 then (if 2 ≤ (a0.size : Int) then ((gs1_two.f (a0.extract 0 2)).bind fun t119 => (if 2 ≤ 4 then (if 4 ≤ (a0.size : Int) then ((gs1_two.f (a0.extract 2 4)).bind fun t120 => ((gs1_two.f (a0.extract 4 a0.size)).bind fun t121 => (if t120 < 1 then (gs1_date.j0 k y116 t119 t120 t121 true) else (gs1_date.j0 k y116 t119 t120 t121 (decide (t120 > 12)))))) else (none)) else (none))) else (none)) else (none)) = some r := by first | (rw [hy116]; with_reducible exact H) | (have H2_ := (Option.bind_some _ _).symm.trans H; rw [hy116]; with_reducible exact H2_) | (have H2_ := (Option.bind_some _ _).symm.trans H; with_reducible exact H2_) | with_reducible exact H | (rw [hy116]; exact H) | exact H
 have Ny116 := Aside0.mk hy116
 clear hy116
 by_cases c2 : 0 ≤ 2
 ·rw [if_pos c2] at H
  have c2b0 := eq_true c2
  have c2b1 : decide (0 ≤ 2) = true := decide_eq_true c2
  clear c2
  by_cases c3 : 2 ≤ (a0.size : Int)
  ·rw [if_pos c3] at H
   have c3b0 := eq_true c3
   have c3b1 : decide (2 ≤ (a0.size : Int)) = true := decide_eq_true c3
   clear c3
   replace H := Option.bind_eq_some_iff.mp H
   obtain ⟨t119, A40, H⟩ := H
   replace H : (if 2 ≤ 4 then (if 4 ≤ (a0.size : Int) then ((gs1_two.f (a0.extract 2 4)).bind fun t120 => ((gs1_two.f (a0.extract 4 a0.size)).bind fun t121 => (if t120 < 1 then (gs1_date.j0 k y116 t119 t120 t121 true) else (gs1_date.j0 k y116 t119 t120 t121 (decide (t120 > 12)))))) else (none)) else (none)) = some r := H
   have A4 := Aside0.mk A40
   clear A40
   by_cases c5 : 2 ≤ 4
   ·rw [if_pos c5] at H
    have c5b0 := eq_true c5
    have c5b1 : decide (2 ≤ 4) = true := decide_eq_true c5
    clear c5
    by_cases c6 : 4 ≤ (a0.size : Int)
    ·rw [if_pos c6] at H
     have c6b0 := eq_true c6
     have c6b1 : decide (4 ≤ (a0.size : Int)) = true := decide_eq_true c6
     clear c6
     replace H := Option.bind_eq_some_iff.mp H
     obtain ⟨t120, A70, H⟩ := H
     replace H : ((gs1_two.f (a0.extract 4 a0.size)).bind fun t121 => (if t120 < 1 then (gs1_date.j0 k y116 t119 t120 t121 true) else (gs1_date.j0 k y116 t119 t120 t121 (decide (t120 > 12))))) = some r := H
     have A7 := Aside0.mk A70
     clear A70
     have c8b0 := eq_true (of_decide_eq_true (by first | (with_reducible assumption) | assumption) : 4 ≤ (a0.size : Int))
     replace H := Option.bind_eq_some_iff.mp H
     obtain ⟨t121, A90, H⟩ := H
     replace H : (if t120 < 1 then (gs1_date.j0 k y116 t119 t120 t121 true) else (gs1_date.j0 k y116 t119 t120 t121 (decide (t120 > 12)))) = some r := H
     have A9 := Aside0.mk A90
     clear A90
     have HC10 := Aside0.mk H
     clear H
     go_enter Tryz.func49, Tryz.ntmps49
     go_upto_region 3 with (first | ((with_reducible refine gate_dst (N := 8) rfl ?_); refine Kd.R_lit (Kd.int .i64) _ 3 ?hg (N := 8) ?hd (xs := ([31, 28, 31, 30, 31, 30, 31, 31, 30, 31, 30, 31] : List Int)) (inner := [.int .i64 31, .int .i64 28, .int .i64 31, .int .i64 30, .int .i64 31, .int .i64 30, .int .i64 31, .int .i64 31, .int .i64 30, .int .i64 31, .int .i64 30, .int .i64 31]) (ok := fun _ => True) (okp := fun _ => True) ?hr ?hp (fun _ hk => hk) trivial (Below.refl _ _) (Nat.le_refl _) (by simp) ?_; (case hd => rfl); (case hg => rfl); (case hr => first | (go_simp; done) | (go_simp; rfl)); (case hp => exact (Reps.one (show Kd.M (Kd.int .i64) _ _ _ 31 [.int .i64 31] from rfl) (Reps.one (show Kd.M (Kd.int .i64) _ _ _ 28 [.int .i64 28] from rfl) (Reps.one (show Kd.M (Kd.int .i64) _ _ _ 31 [.int .i64 31] from rfl) (Reps.one (show Kd.M (Kd.int .i64) _ _ _ 30 [.int .i64 30] from rfl) (Reps.one (show Kd.M (Kd.int .i64) _ _ _ 31 [.int .i64 31] from rfl) (Reps.one (show Kd.M (Kd.int .i64) _ _ _ 30 [.int .i64 30] from rfl) (Reps.one (show Kd.M (Kd.int .i64) _ _ _ 31 [.int .i64 31] from rfl) (Reps.one (show Kd.M (Kd.int .i64) _ _ _ 31 [.int .i64 31] from rfl) (Reps.one (show Kd.M (Kd.int .i64) _ _ _ 30 [.int .i64 30] from rfl) (Reps.one (show Kd.M (Kd.int .i64) _ _ _ 31 [.int .i64 31] from rfl) (Reps.one (show Kd.M (Kd.int .i64) _ _ _ 30 [.int .i64 30] from rfl) (Reps.one (show Kd.M (Kd.int .i64) _ _ _ 31 [.int .i64 31] from rfl) (Reps.none _ _)))))))))))))); intro v117 w11 ho12 hb hg_ hnew_; clear hg_ hnew_; (first | rw [← Ny116.out] at ho12 | (simp only [Int.reduceToNat] at ho12; rw [← Ny116.out] at ho12)); have n0_ := Aside0.mk (Kd.R_lower ho12 (below_size (by repeat (first | (with_reducible first | exact HB.out | apply below_alloc | apply pw_below_drewN | apply below_drew1) | exact HB.out)))); have n1_ := Aside0.mk (below_step (by repeat (first | (with_reducible first | exact HB.out | apply below_alloc | apply pw_below_drewN | apply below_drew1) | exact HB.out)) hb); clear HB; have HO118 := n0_; have HB := n1_; clear n0_ n1_; clear hb ho12) | (go_at_call 66; (with_reducible refine (gs1_two.calls (a0.extract 0 2) t119 _ A4.out).mono ?_); rintro e w' ⟨rfl, ⟨nd, rfl⟩⟩; (try first | exact ⟨rfl, _, World.drewN_drewN _ _ _⟩ | exact ⟨rfl, _, Eq.trans (World.drewN_drewN _ _ _) (congrArg (World.drewN _) (Nat.add_assoc _ _ _))⟩)) | (go_at_call 66; (with_reducible refine (gs1_two.calls (a0.extract 2 4) t120 _ A7.out).mono ?_); rintro e w' ⟨rfl, ⟨nd, rfl⟩⟩; (try first | exact ⟨rfl, _, World.drewN_drewN _ _ _⟩ | exact ⟨rfl, _, Eq.trans (World.drewN_drewN _ _ _) (congrArg (World.drewN _) (Nat.add_assoc _ _ _))⟩)) | (go_at_call 66; (with_reducible refine (gs1_two.calls (a0.extract 4 a0.size) t121 _ A9.out).mono ?_); rintro e w' ⟨rfl, ⟨nd, rfl⟩⟩; (try first | exact ⟨rfl, _, World.drewN_drewN _ _ _⟩ | exact ⟨rfl, _, Eq.trans (World.drewN_drewN _ _ _) (congrArg (World.drewN _) (Nat.add_assoc _ _ _))⟩)))
     repeat (go_quiet (first | ((with_reducible refine gate_dst (N := 8) rfl ?_); refine Kd.R_lit (Kd.int .i64) _ 3 ?hg (N := 8) ?hd (xs := ([31, 28, 31, 30, 31, 30, 31, 31, 30, 31, 30, 31] : List Int)) (inner := [.int .i64 31, .int .i64 28, .int .i64 31, .int .i64 30, .int .i64 31, .int .i64 30, .int .i64 31, .int .i64 31, .int .i64 30, .int .i64 31, .int .i64 30, .int .i64 31]) (ok := fun _ => True) (okp := fun _ => True) ?hr ?hp (fun _ hk => hk) trivial (Below.refl _ _) (Nat.le_refl _) (by simp) ?_; (case hd => rfl); (case hg => rfl); (case hr => first | (go_simp; done) | (go_simp; rfl)); (case hp => exact (Reps.one (show Kd.M (Kd.int .i64) _ _ _ 31 [.int .i64 31] from rfl) (Reps.one (show Kd.M (Kd.int .i64) _ _ _ 28 [.int .i64 28] from rfl) (Reps.one (show Kd.M (Kd.int .i64) _ _ _ 31 [.int .i64 31] from rfl) (Reps.one (show Kd.M (Kd.int .i64) _ _ _ 30 [.int .i64 30] from rfl) (Reps.one (show Kd.M (Kd.int .i64) _ _ _ 31 [.int .i64 31] from rfl) (Reps.one (show Kd.M (Kd.int .i64) _ _ _ 30 [.int .i64 30] from rfl) (Reps.one (show Kd.M (Kd.int .i64) _ _ _ 31 [.int .i64 31] from rfl) (Reps.one (show Kd.M (Kd.int .i64) _ _ _ 31 [.int .i64 31] from rfl) (Reps.one (show Kd.M (Kd.int .i64) _ _ _ 30 [.int .i64 30] from rfl) (Reps.one (show Kd.M (Kd.int .i64) _ _ _ 31 [.int .i64 31] from rfl) (Reps.one (show Kd.M (Kd.int .i64) _ _ _ 30 [.int .i64 30] from rfl) (Reps.one (show Kd.M (Kd.int .i64) _ _ _ 31 [.int .i64 31] from rfl) (Reps.none _ _)))))))))))))); intro v117 w11 ho12 hb hg_ hnew_; clear hg_ hnew_; (first | rw [← Ny116.out] at ho12 | (simp only [Int.reduceToNat] at ho12; rw [← Ny116.out] at ho12)); have n0_ := Aside0.mk (Kd.R_lower ho12 (below_size (by repeat (first | (with_reducible first | exact HB.out | apply below_alloc | apply pw_below_drewN | apply below_drew1) | exact HB.out)))); have n1_ := Aside0.mk (below_step (by repeat (first | (with_reducible first | exact HB.out | apply below_alloc | apply pw_below_drewN | apply below_drew1) | exact HB.out)) hb); clear HB; have HO118 := n0_; have HB := n1_; clear n0_ n1_; clear hb ho12) | (go_at_call 66; (with_reducible refine (gs1_two.calls (a0.extract 0 2) t119 _ A4.out).mono ?_); rintro e w' ⟨rfl, ⟨nd, rfl⟩⟩; (try first | exact ⟨rfl, _, World.drewN_drewN _ _ _⟩ | exact ⟨rfl, _, Eq.trans (World.drewN_drewN _ _ _) (congrArg (World.drewN _) (Nat.add_assoc _ _ _))⟩)) | (go_at_call 66; (with_reducible refine (gs1_two.calls (a0.extract 2 4) t120 _ A7.out).mono ?_); rintro e w' ⟨rfl, ⟨nd, rfl⟩⟩; (try first | exact ⟨rfl, _, World.drewN_drewN _ _ _⟩ | exact ⟨rfl, _, Eq.trans (World.drewN_drewN _ _ _) (congrArg (World.drewN _) (Nat.add_assoc _ _ _))⟩)) | (go_at_call 66; (with_reducible refine (gs1_two.calls (a0.extract 4 a0.size) t121 _ A9.out).mono ?_); rintro e w' ⟨rfl, ⟨nd, rfl⟩⟩; (try first | exact ⟨rfl, _, World.drewN_drewN _ _ _⟩ | exact ⟨rfl, _, Eq.trans (World.drewN_drewN _ _ _) (congrArg (World.drewN _) (Nat.add_assoc _ _ _))⟩))); go_upto_region 3 with (first | ((with_reducible refine gate_dst (N := 8) rfl ?_); refine Kd.R_lit (Kd.int .i64) _ 3 ?hg (N := 8) ?hd (xs := ([31, 28, 31, 30, 31, 30, 31, 31, 30, 31, 30, 31] : List Int)) (inner := [.int .i64 31, .int .i64 28, .int .i64 31, .int .i64 30, .int .i64 31, .int .i64 30, .int .i64 31, .int .i64 31, .int .i64 30, .int .i64 31, .int .i64 30, .int .i64 31]) (ok := fun _ => True) (okp := fun _ => True) ?hr ?hp (fun _ hk => hk) trivial (Below.refl _ _) (Nat.le_refl _) (by simp) ?_; (case hd => rfl); (case hg => rfl); (case hr => first | (go_simp; done) | (go_simp; rfl)); (case hp => exact (Reps.one (show Kd.M (Kd.int .i64) _ _ _ 31 [.int .i64 31] from rfl) (Reps.one (show Kd.M (Kd.int .i64) _ _ _ 28 [.int .i64 28] from rfl) (Reps.one (show Kd.M (Kd.int .i64) _ _ _ 31 [.int .i64 31] from rfl) (Reps.one (show Kd.M (Kd.int .i64) _ _ _ 30 [.int .i64 30] from rfl) (Reps.one (show Kd.M (Kd.int .i64) _ _ _ 31 [.int .i64 31] from rfl) (Reps.one (show Kd.M (Kd.int .i64) _ _ _ 30 [.int .i64 30] from rfl) (Reps.one (show Kd.M (Kd.int .i64) _ _ _ 31 [.int .i64 31] from rfl) (Reps.one (show Kd.M (Kd.int .i64) _ _ _ 31 [.int .i64 31] from rfl) (Reps.one (show Kd.M (Kd.int .i64) _ _ _ 30 [.int .i64 30] from rfl) (Reps.one (show Kd.M (Kd.int .i64) _ _ _ 31 [.int .i64 31] from rfl) (Reps.one (show Kd.M (Kd.int .i64) _ _ _ 30 [.int .i64 30] from rfl) (Reps.one (show Kd.M (Kd.int .i64) _ _ _ 31 [.int .i64 31] from rfl) (Reps.none _ _)))))))))))))); intro v117 w11 ho12 hb hg_ hnew_; clear hg_ hnew_; (first | rw [← Ny116.out] at ho12 | (simp only [Int.reduceToNat] at ho12; rw [← Ny116.out] at ho12)); have n0_ := Aside0.mk (Kd.R_lower ho12 (below_size (by repeat (first | (with_reducible first | exact HB.out | apply below_alloc | apply pw_below_drewN | apply below_drew1) | exact HB.out)))); have n1_ := Aside0.mk (below_step (by repeat (first | (with_reducible first | exact HB.out | apply below_alloc | apply pw_below_drewN | apply below_drew1) | exact HB.out)) hb); clear HB; have HO118 := n0_; have HB := n1_; clear n0_ n1_; clear hb ho12) | (go_at_call 66; (with_reducible refine (gs1_two.calls (a0.extract 0 2) t119 _ A4.out).mono ?_); rintro e w' ⟨rfl, ⟨nd, rfl⟩⟩; (try first | exact ⟨rfl, _, World.drewN_drewN _ _ _⟩ | exact ⟨rfl, _, Eq.trans (World.drewN_drewN _ _ _) (congrArg (World.drewN _) (Nat.add_assoc _ _ _))⟩)) | (go_at_call 66; (with_reducible refine (gs1_two.calls (a0.extract 2 4) t120 _ A7.out).mono ?_); rintro e w' ⟨rfl, ⟨nd, rfl⟩⟩; (try first | exact ⟨rfl, _, World.drewN_drewN _ _ _⟩ | exact ⟨rfl, _, Eq.trans (World.drewN_drewN _ _ _) (congrArg (World.drewN _) (Nat.add_assoc _ _ _))⟩)) | (go_at_call 66; (with_reducible refine (gs1_two.calls (a0.extract 4 a0.size) t121 _ A9.out).mono ?_); rintro e w' ⟨rfl, ⟨nd, rfl⟩⟩; (try first | exact ⟨rfl, _, World.drewN_drewN _ _ _⟩ | exact ⟨rfl, _, Eq.trans (World.drewN_drewN _ _ _) (congrArg (World.drewN _) (Nat.add_assoc _ _ _))⟩))))
     (try simp only [Act.put, List.setIfInBounds_toArray, List.set_cons_zero, List.set_cons_succ])
     go_cut [23] (fun v23 wc => ∃ (kq : Nat) (x23_9 : Bool), v23 = .bool x23_9 ∧ Aside0 (gs1_date.j0 kq y116 t119 t120 t121 x23_9 = some r) ∧ Aside0 (kq ≤ k) ∧ Aside0 (Kd.R (Kd.int .i64) 3 wc w.heap.size (fun _ => True) v117 y116) ∧ Aside0 (Below w.heap.size w wc))
     case first =>
      have H := HC10.out
      clear HC10
      by_cases c13 : t120 < 1
      ·rw [if_pos c13] at H
       have c13b0 : decide (t120 < 1) = true := decide_eq_true c13
       clear c13
       (first | rw [c13b0] | (simp only [i64_w, i32_w]; rw [c13b0]) | skip)
       have H' := Aside0.mk H
       clear H
       go_wp2
       repeat (go_quiet (fail); try go_wp2)
       go_meet
       case rel => exact ⟨_, (true), (by first | rfl | (simp; done) | (simp [*]; done)), H', ⟨by first | omega | exact Nat.le_refl _⟩, ⟨by (with_reducible repeat (first | apply Kd.R_alloc | apply Kd.R_drewN | apply Kd.R_drew)); exact HO118.out⟩, ⟨by repeat (first | (with_reducible first | exact HB.out | apply below_alloc | apply pw_below_drewN | apply below_drew1) | exact HB.out)⟩⟩
      ·rw [if_neg c13] at H
       have c13b0 : decide (t120 < 1) = false := decide_eq_false c13
       clear c13
       (first | rw [c13b0] | (simp only [i64_w, i32_w]; rw [c13b0]) | skip)
       have H' := Aside0.mk H
       clear H
       go_wp2
       repeat (go_quiet (fail); try go_wp2)
       go_meet
       case rel => exact ⟨_, (decide (t120 > 12)), (by first | rfl | (simp; done) | (simp [*]; done)), H', ⟨by first | omega | exact Nat.le_refl _⟩, ⟨by (with_reducible repeat (first | apply Kd.R_alloc | apply Kd.R_drewN | apply Kd.R_drew)); exact HO118.out⟩, ⟨by repeat (first | (with_reducible first | exact HB.out | apply below_alloc | apply pw_below_drewN | apply below_drew1) | exact HB.out)⟩⟩
     case rest =>
      clear HC10
      obtain ⟨kq, x23_9, rfl, HA, HJ9, HO_3, HB⟩ := hcut
      cases kq with
      | zero => exact absurd HA.out (by simp [gs1_date.j0])
      | succ kj9 =>
       have H := HA.out
       clear HA
       simp only [gs1_date.j0] at H
       by_cases c14 : x23_9 = true
       ·subst c14
        have H1 : (some false) = some r := by rw [if_pos rfl] at H; exact H
        clear H
        have H := H1
        clear H1
        obtain rfl := Option.some.inj H
        go_wp2
        repeat (go_quiet (fail); try go_wp2)
        go_ret
        exact ⟨by first | rfl | (simp [errW_none, errW_some] <;> rfl) | (simp [*, errW_none, errW_some] <;> rfl), by repeat (first | (with_reducible first | exact HB.out | apply below_alloc | apply pw_below_drewN | apply below_drew1) | exact HB.out)⟩
       ·replace c14 := Bool.eq_false_iff.mpr c14
        subst c14
        have H1 : (if 0 ≤ (wrap64 (t120 - 1)) then (if (wrap64 (t120 - 1)) < (y116.length : Int) then (if t120 = 2 then (if (Int.tmod t119 4) = 0 then (some (decide (t121 ≤ (wrap64 ((rd y116 (wrap64 (t120 - 1))) + 1))))) else (some (decide (t121 ≤ (rd y116 (wrap64 (t120 - 1))))))) else (some (decide (t121 ≤ (rd y116 (wrap64 (t120 - 1))))))) else (none)) else (none)) = some r := by rw [if_neg (show ¬ (false = true) by decide)] at H; exact H
        clear H
        have H := H1
        clear H1
        obtain ⟨ji15, hji15⟩ : ∃ j_ : Int, (wrap64 (t120 - 1)) = j_ := ⟨_, rfl⟩
        replace H : (if 0 ≤ (ji15) then (if (ji15) < (y116.length : Int) then (if t120 = 2 then (if (Int.tmod t119 4) = 0 then (some (decide (t121 ≤ (wrap64 ((rd y116 (ji15)) + 1))))) else (some (decide (t121 ≤ (rd y116 (ji15)))))) else (some (decide (t121 ≤ (rd y116 (ji15)))))) else (none)) else (none)) = some r := by first | (rw [hji15] at H; exact H) | (simp only [hji15] at H ⊢; exact H)
        have hji15w : (IntKind.i64.wrap (t120 - 1)) = ji15 := (i64_w _).trans hji15
        by_cases c16 : 0 ≤ (ji15)
        ·rw [if_pos c16] at H
         have c16b0 : decide (0 ≤ (ji15)) = true := decide_eq_true c16
         clear c16
         by_cases c17 : (ji15) < (y116.length : Int)
         ·rw [if_pos c17] at H
          have c17b0 : decide ((ji15) < (y116.length : Int)) = true := decide_eq_true c17
          clear c17
          by_cases c18 : t120 = 2
          ·rw [if_pos c18] at H
           have c18b0 : (t120 == 2) = true := beq_iff_eq.mpr c18
           have c18b1 : (t120 != 2) = false := bne_eq_false_iff_eq.mpr c18
           clear c18
           by_cases c19 : (Int.tmod t119 4) = 0
           ·rw [if_pos c19] at H
            have c19b0 : ((Int.tmod t119 4) == 0) = true := beq_iff_eq.mpr c19
            have c19b1 : ((Int.tmod t119 4) != 0) = false := bne_eq_false_iff_eq.mpr c19
            clear c19
            obtain rfl := Option.some.inj H
            obtain ⟨Ao20, co20, eo20⟩ := Kd.R_slice HO_3.out
            subst eo20
            have p122 : 0 ≤ ((ji15) : Int) := of_decide_eq_true (by first | (with_reducible assumption) | assumption)
            have q122 : (ji15) < (y116.length : Int) := of_decide_eq_true (by first | (with_reducible assumption) | assumption)
            obtain ⟨ad122, e122, hx122_0⟩ := Kd.at_int (Kd.R_reads' HO_3.out).2.2 (ji15) p122 q122
            cases e122
            replace p122 := eq_true p122
            replace q122 := eq_true q122
            go_wp2
            repeat (go_quiet (fail); try go_wp2)
            go_ret
            exact ⟨by first | rfl | (simp [errW_none, errW_some] <;> rfl) | (simp only [← hji15]; first | rfl | (simp [errW_none, errW_some] <;> rfl)) | (simp [*, errW_none, errW_some] <;> rfl), by repeat (first | (with_reducible first | exact HB.out | apply below_alloc | apply pw_below_drewN | apply below_drew1) | exact HB.out)⟩
           ·rw [if_neg c19] at H
            have c19b0 : ((Int.tmod t119 4) == 0) = false := beq_eq_false_iff_ne.mpr c19
            have c19b1 : ((Int.tmod t119 4) != 0) = true := bne_iff_ne.mpr c19
            obtain rfl := Option.some.inj H
            obtain ⟨Ao21, co21, eo21⟩ := Kd.R_slice HO_3.out
            subst eo21
            have p122 : 0 ≤ ((ji15) : Int) := of_decide_eq_true (by first | (with_reducible assumption) | assumption)
            have q122 : (ji15) < (y116.length : Int) := of_decide_eq_true (by first | (with_reducible assumption) | assumption)
            obtain ⟨ad122, e122, hx122_0⟩ := Kd.at_int (Kd.R_reads' HO_3.out).2.2 (ji15) p122 q122
            cases e122
            replace p122 := eq_true p122
            replace q122 := eq_true q122
            go_wp2
            repeat (go_quiet (fail); try go_wp2)
            go_ret
            exact ⟨by first | rfl | (simp [errW_none, errW_some] <;> rfl) | (simp only [← hji15]; first | rfl | (simp [errW_none, errW_some] <;> rfl)) | (simp [*, errW_none, errW_some] <;> rfl), by repeat (first | (with_reducible first | exact HB.out | apply below_alloc | apply pw_below_drewN | apply below_drew1) | exact HB.out)⟩
          ·rw [if_neg c18] at H
           have c18b0 : (t120 == 2) = false := beq_eq_false_iff_ne.mpr c18
           have c18b1 : (t120 != 2) = true := bne_iff_ne.mpr c18
           obtain rfl := Option.some.inj H
           obtain ⟨Ao22, co22, eo22⟩ := Kd.R_slice HO_3.out
           subst eo22
           have p122 : 0 ≤ ((ji15) : Int) := of_decide_eq_true (by first | (with_reducible assumption) | assumption)
           have q122 : (ji15) < (y116.length : Int) := of_decide_eq_true (by first | (with_reducible assumption) | assumption)
           obtain ⟨ad122, e122, hx122_0⟩ := Kd.at_int (Kd.R_reads' HO_3.out).2.2 (ji15) p122 q122
           cases e122
           replace p122 := eq_true p122
           replace q122 := eq_true q122
           go_wp2
           repeat (go_quiet (fail); try go_wp2)
           go_ret
           exact ⟨by first | rfl | (simp [errW_none, errW_some] <;> rfl) | (simp only [← hji15]; first | rfl | (simp [errW_none, errW_some] <;> rfl)) | (simp [*, errW_none, errW_some] <;> rfl), by repeat (first | (with_reducible first | exact HB.out | apply below_alloc | apply pw_below_drewN | apply below_drew1) | exact HB.out)⟩
         ·rw [if_neg c17] at H
          exact absurd H (by simp)
        ·rw [if_neg c16] at H
         exact absurd H (by simp)
    ·rw [if_neg c6] at H
     exact absurd H (by simp)
   ·rw [if_neg c5] at H
    exact absurd H (by simp)
  ·rw [if_neg c3] at H
   exact absurd H (by simp)
 ·rw [if_neg c2] at H
  exact absurd H (by simp)

end Go.Proofs.YtghlbdemlmbijaaGreatDoor.Q

namespace Go.Proofs.YtghlbdemlmbijaaGreatDoor.Q
open Go.RowKit Go.Proofs.YtghlbdemlmbijaaGreatDoorW.PrintWords Go.Proofs.YtghlbdemlmbijaaGreatDoorW.PrintLast Go.Proofs.YtghlbdemlmbijaaGreatDoorW.PrintMore

set_option linter.unusedVariables false
set_option linter.unusedSimpArgs false

/-! ### checkdigit_within: function 70 -/
def checkdigit_within.l0 : Nat → ByteArray → ByteArray → Int → Int → Option (Bool)
 | 0, _, _, _, _ => none
 | k + 1, x0, x1, x7, x8 => if x8 < x7 then (if 0 ≤ x8 then (if x8 < (x0.size : Int) then ((strings_IndexByte.f x1 (bt x0 x8)).bind fun t123 => (if t123 < 0 then (some false) else (checkdigit_within.l0 k x0 x1 x7 (wrap64 (x8 + 1))))) else (none)) else (none)) else (some true)
def checkdigit_within.f (k : Nat) (a0 : ByteArray) (a1 : ByteArray) : Option (Bool) := checkdigit_within.l0 k a0 a1 (a0.size : Int) 0
theorem checkdigit_within.mono_l : ∀ k, (∀ y0 y1 y2 y3, LeO (checkdigit_within.l0 k y0 y1 y2 y3) (checkdigit_within.l0 (k + 1) y0 y1 y2 y3))
 | 0 => fun _ _ _ _ r h => by simp [checkdigit_within.l0] at h
 | k + 1 => by
  have ih0 := checkdigit_within.mono_l k
  ·intro y0 y1 y2 y3
   unfold checkdigit_within.l0
   repeat' first
   | (with_reducible exact ih0 _ _ _ _)
   | (with_reducible exact LeO.refl _)
   | (with_reducible exact LeO.none _)
   | (with_reducible refine LeO.ite ?_ ?_)
   | (with_reducible refine LeO.bind ?_ (fun _ => ?_))
   | exact ih0 _ _ _ _
   | exact LeO.none _
   | refine LeO.ite ?_ ?_
   | refine LeO.bind ?_ (fun _ => ?_)
theorem checkdigit_within.mono : ∀ a0 a1 k, LeO (checkdigit_within.f k a0 a1) (checkdigit_within.f (k + 1) a0 a1) := by
 intro a0 a1 k
 have ih0 := checkdigit_within.mono_l k
 unfold checkdigit_within.f
 repeat' first
   | (with_reducible exact ih0 _ _ _ _)
   | (with_reducible exact LeO.refl _)
   | (with_reducible exact LeO.none _)
   | (with_reducible refine LeO.ite ?_ ?_)
   | (with_reducible refine LeO.bind ?_ (fun _ => ?_))
   | exact ih0 _ _ _ _
   | exact LeO.none _
   | refine LeO.ite ?_ ?_
   | refine LeO.bind ?_ (fun _ => ?_)
set_option maxHeartbeats 8000000 in
set_option maxRecDepth 100000 in
theorem checkdigit_within.calls (k : Nat) (a0 : ByteArray) (a1 : ByteArray) (r : Bool) (w : World) (h : checkdigit_within.f k a0 a1 = some r) :
  Calls Tryz.prog 70 #[.string a0, .string a1] w fun e w' => e = .returned (.bool r) ∧ Drawn0 w w' := by
 have H : (checkdigit_within.l0 k a0 a1 (a0.size : Int) 0) = some r := h
 clear h
 have H' := Aside0.mk H
 clear H
 go_enter Tryz.func70, Tryz.ntmps70
 go_wp2
 go_loopg [8] k (fun kq v8 w' => ∃ (x8_1 : Int), v8 = .int .i64 x8_1 ∧ Aside0 (checkdigit_within.l0 kq a0 a1 (a0.size : Int) x8_1 = some r) ∧ Aside0 (kq ≤ k) ∧ Drawn0 w w')
 case atStart => exact ⟨(0), (by first | rfl | (simp; done) | (simp [*]; done)), H', ⟨Nat.le_refl _⟩, by repeat (first | exact Drawn0.refl _ | apply Drawn0.step)⟩
 case round =>
  clear H'
  obtain ⟨x8_1, rfl, HA, HK1, ⟨m1, rfl⟩⟩ := hrel
  cases gk with
  | zero => exact absurd HA.out (by simp [checkdigit_within.l0])
  | succ k1 =>
   have H := HA.out
   clear HA
   simp only [checkdigit_within.l0] at H
   by_cases c3 : x8_1 < (a0.size : Int)
   ·rw [if_pos c3] at H
    have c3b0 : decide (x8_1 < (a0.size : Int)) = true := decide_eq_true c3
    clear c3
    by_cases c4 : 0 ≤ x8_1
    ·rw [if_pos c4] at H
     have c4b0 : decide (0 ≤ x8_1) = true := decide_eq_true c4
     clear c4
     by_cases c5 : x8_1 < (a0.size : Int)
     ·rw [if_pos c5] at H
      have c5b0 : decide (x8_1 < (a0.size : Int)) = true := decide_eq_true c5
      clear c5
      replace H := Option.bind_eq_some_iff.mp H
      obtain ⟨t123, A70, H⟩ := H
      replace H : (if t123 < 0 then (some false) else (checkdigit_within.l0 k1 a0 a1 (a0.size : Int) (wrap64 (x8_1 + 1)))) = some r := H
      have A7 := Aside0.mk A70
      clear A70
      by_cases c8 : t123 < 0
      ·rw [if_pos c8] at H
       have c8b0 : decide (t123 < 0) = true := decide_eq_true c8
       clear c8
       obtain rfl := Option.some.inj H
       have p6 : 0 ≤ (x8_1 : Int) := of_decide_eq_true (by first | (with_reducible assumption) | assumption)
       have q6 : x8_1 < (a0.size : Int) := of_decide_eq_true (by first | (with_reducible assumption) | assumption)
       have hx6 := bt_at a0 x8_1
       replace p6 := eq_true p6
       replace q6 := eq_true q6
       go_wp2_with (first | ((with_reducible refine gate_callee (f := 29) rfl ?_); refine goesL_ (some 15) rfl rfl Tryz.func29 (by kernel_rfl) rfl #[.string a1, .int .u8 (bt a0 x8_1)] rfl (by (try simp only [List.map_toArray, List.map_cons, List.map_nil]); first | done | rfl | (simp only [List.length_drop, List.length_take]; rfl)) ?_; (with_reducible refine (strings_IndexByte.calls a1 (bt a0 x8_1) t123 _ A7.out).mono ?_); rintro e w' ⟨rfl, ⟨nd, rfl⟩⟩; refine ⟨_, rfl, ?_⟩))
       go_ret
       exact ⟨by first | rfl | (simp; done) | (simp [*]; done), by repeat (first | exact Drawn0.refl _ | apply Drawn0.step)⟩
      ·rw [if_neg c8] at H
       have c8b0 : decide (t123 < 0) = false := decide_eq_false c8
       clear c8
       have H' := Aside0.mk H
       clear H
       have p6 : 0 ≤ (x8_1 : Int) := of_decide_eq_true (by first | (with_reducible assumption) | assumption)
       have q6 : x8_1 < (a0.size : Int) := of_decide_eq_true (by first | (with_reducible assumption) | assumption)
       have hx6 := bt_at a0 x8_1
       replace p6 := eq_true p6
       replace q6 := eq_true q6
       go_wp2_with (first | ((with_reducible refine gate_callee (f := 29) rfl ?_); refine goesL_ (some 15) rfl rfl Tryz.func29 (by kernel_rfl) rfl #[.string a1, .int .u8 (bt a0 x8_1)] rfl (by (try simp only [List.map_toArray, List.map_cons, List.map_nil]); first | done | rfl | (simp only [List.length_drop, List.length_take]; rfl)) ?_; (with_reducible refine (strings_IndexByte.calls a1 (bt a0 x8_1) t123 _ A7.out).mono ?_); rintro e w' ⟨rfl, ⟨nd, rfl⟩⟩; refine ⟨_, rfl, ?_⟩))
       go_roundg k1
       case measure => have := HK1.out; omega
       case rel => exact ⟨(wrap64 (x8_1 + 1)), (by first | rfl | (simp; done) | (simp [*]; done)), H', ⟨by have := HK1.out; omega⟩, by repeat (first | exact Drawn0.refl _ | apply Drawn0.step)⟩
     ·rw [if_neg c5] at H
      exact absurd H (by simp)
    ·rw [if_neg c4] at H
     exact absurd H (by simp)
   ·rw [if_neg c3] at H
    have c3b0 : decide (x8_1 < (a0.size : Int)) = false := decide_eq_false c3
    clear c3
    obtain rfl := Option.some.inj H
    go_wp2
    go_ret
    exact ⟨by first | rfl | (simp; done) | (simp [*]; done), by repeat (first | exact Drawn0.refl _ | apply Drawn0.step)⟩

end Go.Proofs.YtghlbdemlmbijaaGreatDoor.Q

namespace Go.Proofs.YtghlbdemlmbijaaGreatDoor.Q
open Go.RowKit Go.Proofs.YtghlbdemlmbijaaGreatDoorW.PrintWords Go.Proofs.YtghlbdemlmbijaaGreatDoorW.PrintLast Go.Proofs.YtghlbdemlmbijaaGreatDoorW.PrintMore

set_option linter.unusedVariables false
set_option linter.unusedSimpArgs false

/-! ### checkdigit_backward: function 108 -/
def checkdigit_backward.l0 : Nat → ByteArray → List Int → Int → Option (List Int)
 | 0, _, _, _ => none
 | k + 1, x0, x3, x4 => if x4 ≥ 0 then (if 0 ≤ x4 then (if x4 < (x0.size : Int) then (if x3.length < 17592186044416 then (checkdigit_backward.l0 k x0 (x3 ++ [((bt x0 x4) - 48) % 256]) (wrap64 (x4 - 1))) else (none)) else (none)) else (none)) else (some x3)
def checkdigit_backward.f (k : Nat) (a0 : ByteArray) : Option (List Int) := checkdigit_backward.l0 k a0 ([] : List Int) (wrap64 ((a0.size : Int) - 1))
theorem checkdigit_backward.mono_l : ∀ k, (∀ y0 y1 y2, LeO (checkdigit_backward.l0 k y0 y1 y2) (checkdigit_backward.l0 (k + 1) y0 y1 y2))
 | 0 => fun _ _ _ r h => by simp [checkdigit_backward.l0] at h
 | k + 1 => by
  have ih0 := checkdigit_backward.mono_l k
  ·intro y0 y1 y2
   unfold checkdigit_backward.l0
   repeat' first
   | (with_reducible exact ih0 _ _ _)
   | (with_reducible exact LeO.refl _)
   | (with_reducible exact LeO.none _)
   | (with_reducible refine LeO.ite ?_ ?_)
   | (with_reducible refine LeO.bind ?_ (fun _ => ?_))
   | exact ih0 _ _ _
   | exact LeO.none _
   | refine LeO.ite ?_ ?_
   | refine LeO.bind ?_ (fun _ => ?_)
theorem checkdigit_backward.mono : ∀ a0 k, LeO (checkdigit_backward.f k a0) (checkdigit_backward.f (k + 1) a0) := by
 intro a0 k
 have ih0 := checkdigit_backward.mono_l k
 unfold checkdigit_backward.f
 repeat' first
   | (with_reducible exact ih0 _ _ _)
   | (with_reducible exact LeO.refl _)
   | (with_reducible exact LeO.none _)
   | (with_reducible refine LeO.ite ?_ ?_)
   | (with_reducible refine LeO.bind ?_ (fun _ => ?_))
   | exact ih0 _ _ _
   | exact LeO.none _
   | refine LeO.ite ?_ ?_
   | refine LeO.bind ?_ (fun _ => ?_)
set_option maxHeartbeats 8000000 in
set_option maxRecDepth 100000 in
theorem checkdigit_backward.calls (k : Nat) (a0 : ByteArray) (r : List Int) (w : World) (h : checkdigit_backward.f k a0 = some r) :
  Calls Tryz.prog 108 #[.string a0] w fun e w' => ∃ v0_ : Value, e = .returned (v0_) ∧ Kd.R (Kd.int .i64) 3 w' w.heap.size (fun _ => True) v0_ r ∧ Below w.heap.size w w' := by
 have HB := Aside0.mk (Below.refl w.heap.size w)
 have H : (checkdigit_backward.l0 k a0 ([] : List Int) (wrap64 ((a0.size : Int) - 1))) = some r := h
 clear h
 have H' := Aside0.mk H
 clear H
 go_enter Tryz.func108, Tryz.ntmps108
 go_wp2
 go_loopg [3, 4] k (fun kq v3 v4 w' => ∃ (x3_1 : List Int) (x4_1 : Int), v4 = .int .i64 x4_1 ∧ Aside0 (checkdigit_backward.l0 kq a0 x3_1 x4_1 = some r) ∧ Aside0 (kq ≤ k) ∧ Aside0 (Kd.R (Kd.int .i64) 3 w' w.heap.size (fun _ => True) v3 x3_1) ∧ Aside0 (Below w.heap.size w w'))
 case atStart => exact ⟨(([] : List Int)), (wrap64 ((a0.size : Int) - 1)), (by first | rfl | (simp; done) | (simp [*]; done)), H', ⟨Nat.le_refl _⟩, ⟨by first | exact Kd.R_nil _ _ _ _ _ | exact Kd.N_nil _ _ _ _ _ | exact Kd.V_nil _ _ _ _ _ | exact Kd.Q_nil _ _ _ _ _ | exact Kd.S_nil _ _ _ _ _⟩, ⟨by repeat (first | (with_reducible first | exact HB.out | apply below_alloc | apply pw_below_drewN | apply below_drew1) | exact HB.out)⟩⟩
 case round =>
  clear H'
  obtain ⟨x3_1, x4_1, rfl, HA, HK1, HO_3, HB⟩ := hrel
  cases gk with
  | zero => exact absurd HA.out (by simp [checkdigit_backward.l0])
  | succ k1 =>
   have H := HA.out
   clear HA
   simp only [checkdigit_backward.l0] at H
   by_cases c2 : x4_1 ≥ 0
   ·rw [if_pos c2] at H
    have c2b0 : decide (0 ≤ x4_1) = true := decide_eq_true c2
    clear c2
    by_cases c3 : 0 ≤ x4_1
    ·rw [if_pos c3] at H
     have c3b0 : decide (0 ≤ x4_1) = true := decide_eq_true c3
     clear c3
     by_cases c4 : x4_1 < (a0.size : Int)
     ·rw [if_pos c4] at H
      have c4b0 : decide (x4_1 < (a0.size : Int)) = true := decide_eq_true c4
      clear c4
      by_cases c6 : x3_1.length < 17592186044416
      ·rw [if_pos c6] at H
       have LMc6 := Aside0.mk c6
       clear c6
       obtain ⟨y124, hy124⟩ : ∃ y_ : List Int, y_ = (x3_1 ++ [((bt a0 x4_1) - 48) % 256]) := ⟨_, rfl⟩
       replace H : (checkdigit_backward.l0 k1 a0 y124 (wrap64 (x4_1 - 1))) = some r := by first | (rw [hy124]; with_reducible exact H) | (have H2_ := (Option.bind_some _ _).symm.trans H; rw [hy124]; with_reducible exact H2_) | (have H2_ := (Option.bind_some _ _).symm.trans H; with_reducible exact H2_) | with_reducible exact H | (rw [hy124]; exact H) | exact H
       have Ny124 := Aside0.mk hy124
       clear hy124
       have H' := Aside0.mk H
       clear H
       have p5 : 0 ≤ (x4_1 : Int) := of_decide_eq_true (by first | (with_reducible assumption) | assumption)
       have q5 : x4_1 < (a0.size : Int) := of_decide_eq_true (by first | (with_reducible assumption) | assumption)
       have hx5 := bt_at a0 x4_1
       replace p5 := eq_true p5
       replace q5 := eq_true q5
       go_wp2_with (first | ((with_reducible refine gate_builtin (b := .append) (xs := #[.tmp 12, .tmp 18]) rfl ?_); at_builtin; refine Kd.R_append (Kd.int .i64) (w0 := w) w.heap.size rfl (.tmp 12) (.tmp 18) 37 3 (.int .i64 0) 8 rfl Tryz.underlying37 info3 rfl (by decide) (by omega) u3 x3_1 (((bt a0 x4_1) - 48) % 256) [.int .i64 (((bt a0 x4_1) - 48) % 256)] (fun _ => True) (fun _ => False) rfl rfl ?aP (fun _ hk => hk.elim) ?aF ?aO ?aB ?aS ?aL ?_; (case aP => exact rfl); (case aB => exact (by repeat (first | (with_reducible first | exact HB.out | apply below_alloc | apply pw_below_drewN | apply below_drew1) | exact HB.out))); (case aF => exact (fun _ _ => trivial)); (case aO => exact (by (with_reducible repeat (first | apply Kd.R_alloc | apply Kd.R_drewN | apply Kd.R_drew)); exact HO_3.out)); (case aS => exact (below_size (by repeat (first | (with_reducible first | exact HB.out | apply below_alloc | apply pw_below_drewN | apply below_drew1) | exact HB.out)))); (case aL => have := LMc6.out; omega); intro v125 w7 ho hb hg hat; rw [← Ny124.out] at ho; have n0_ := Aside0.mk (hb); have n1_ := Aside0.mk (ho); clear HB; clear HO_3; have HB := n0_; have HO126 := n1_; clear n0_ n1_; clear ho hb hg hat))
       go_roundg k1
       case measure => have := HK1.out; omega
       case rel => exact ⟨(y124), (wrap64 (x4_1 - 1)), (by first | rfl | (simp; done) | (simp [*]; done)), H', ⟨by have := HK1.out; omega⟩, ⟨by (with_reducible repeat (first | apply Kd.R_alloc | apply Kd.R_drewN | apply Kd.R_drew)); exact HO126.out⟩, ⟨by repeat (first | (with_reducible first | exact HB.out | apply below_alloc | apply pw_below_drewN | apply below_drew1) | exact HB.out)⟩⟩
      ·rw [if_neg c6] at H
       exact absurd H (by simp)
     ·rw [if_neg c4] at H
      exact absurd H (by simp)
    ·rw [if_neg c3] at H
     exact absurd H (by simp)
   ·rw [if_neg c2] at H
    have c2b0 : decide (0 ≤ x4_1) = false := decide_eq_false c2
    clear c2
    obtain rfl := Option.some.inj H
    go_wp2
    go_ret
    exact ⟨_, by first | rfl | (simp [errW_none, errW_some] <;> rfl) | (simp [*, errW_none, errW_some] <;> rfl), by (with_reducible repeat (first | apply Kd.R_alloc | apply Kd.R_drewN | apply Kd.R_drew)); exact HO_3.out, by repeat (first | (with_reducible first | exact HB.out | apply below_alloc | apply pw_below_drewN | apply below_drew1) | exact HB.out)⟩

end Go.Proofs.YtghlbdemlmbijaaGreatDoor.Q

namespace Go.Proofs.YtghlbdemlmbijaaGreatDoor.Q
open Go.RowKit Go.Proofs.YtghlbdemlmbijaaGreatDoorW.PrintWords Go.Proofs.YtghlbdemlmbijaaGreatDoorW.PrintLast Go.Proofs.YtghlbdemlmbijaaGreatDoorW.PrintMore

set_option linter.unusedVariables false
set_option linter.unusedSimpArgs false

/-! ### checkdigit_digit: function 109 -/
def checkdigit_digit.f (a0 : Int) : Option (ByteArray) := if a0 = 10 then (some (⟨#[88]⟩ : ByteArray)) else ((strconv_Itoa.f a0).bind fun t127 => (some t127))
set_option maxHeartbeats 8000000 in
set_option maxRecDepth 100000 in
theorem checkdigit_digit.calls (a0 : Int) (r : ByteArray) (w : World) (h : checkdigit_digit.f a0 = some r) :
  Calls Tryz.prog 109 #[.int .i64 a0] w fun e w' => e = .returned (.string r) ∧ Drawn0 w w' := by
 have H : (if a0 = 10 then (some (⟨#[88]⟩ : ByteArray)) else ((strconv_Itoa.f a0).bind fun t127 => (some t127))) = some r := h
 clear h
 by_cases c2 : a0 = 10
 ·rw [if_pos c2] at H
  have c2b0 : (a0 == 10) = true := beq_iff_eq.mpr c2
  have c2b1 : (a0 != 10) = false := bne_eq_false_iff_eq.mpr c2
  clear c2
  obtain rfl := Option.some.inj H
  go_enter Tryz.func109, Tryz.ntmps109
  go_wp2
  go_ret
  exact ⟨by first | rfl | (simp; done) | (simp [*]; done), by repeat (first | exact Drawn0.refl _ | apply Drawn0.step)⟩
 ·rw [if_neg c2] at H
  have c2b0 : (a0 == 10) = false := beq_eq_false_iff_ne.mpr c2
  have c2b1 : (a0 != 10) = true := bne_iff_ne.mpr c2
  replace H := Option.bind_eq_some_iff.mp H
  obtain ⟨t127, A30, H⟩ := H
  replace H : (some t127) = some r := H
  have A3 := Aside0.mk A30
  clear A30
  obtain rfl := Option.some.inj H
  go_enter Tryz.func109, Tryz.ntmps109
  go_wp2_with (first | ((with_reducible refine gate_callee (f := 110) rfl ?_); refine goesL_ (some 6) rfl rfl Tryz.func110 (by kernel_rfl) rfl #[.int .i64 a0] rfl (by (try simp only [List.map_toArray, List.map_cons, List.map_nil]); first | done | rfl | (simp only [List.length_drop, List.length_take]; rfl)) ?_; (with_reducible refine (strconv_Itoa.calls a0 t127 _ A3.out).mono ?_); rintro e w' ⟨rfl, ⟨nd, rfl⟩⟩; refine ⟨_, rfl, ?_⟩))
  go_ret
  exact ⟨by first | rfl | (simp; done) | (simp [*]; done), by repeat (first | exact Drawn0.refl _ | apply Drawn0.step)⟩

end Go.Proofs.YtghlbdemlmbijaaGreatDoor.Q

/- checkdigit.Verify at CheckGS1: what it answers for every string. -/
namespace Go.Proofs.YtghlbdemlmbijaaGreatDoor.Q
open Go.RowKit Go.Proofs.YtghlbdemlmbijaaGreatDoorW.PrintWords Go.Proofs.YtghlbdemlmbijaaGreatDoorW.PrintLast Go.Proofs.YtghlbdemlmbijaaGreatDoorW.PrintMore
set_option linter.unusedVariables false
set_option linter.unusedSimpArgs false

abbrev gsys : Value := .iface 107 (.agg #[])
theorem sys_calls (w : World) : Calls Tryz.prog 67 #[.int .i64 1] w fun e w' => e = .returned gsys ∧ w = w' := by
  go_enter Tryz.func67, Tryz.ntmps67
  go_wp2
  go_ret
  exact ⟨rfl, rfl⟩
theorem size_calls (w : World) : Calls Tryz.prog 69 #[.int .i64 1] w fun e w' => e = .returned (.int .i64 1) ∧ w = w' := by
  go_enter Tryz.func69, Tryz.ntmps69
  go_wp2
  go_ret
  exact ⟨rfl, rfl⟩
theorem alphabet_calls (w : World) : Calls Tryz.prog 104 #[.agg #[]] w fun e w' => e = .returned (.string ⟨#[48, 49, 50, 51, 52, 53, 54, 55, 56, 57]⟩) ∧ Below w.heap.size w w' := by
  go_enter Tryz.func104, Tryz.ntmps104
  go_wp2
  go_ret
  exact ⟨rfl, (Below.refl _ _).alloc (Nat.le_refl _) _⟩
theorem extra_calls (w : World) : Calls Tryz.prog 105 #[.agg #[]] w fun e w' => e = .returned (.string ⟨#[]⟩) ∧ Below w.heap.size w w' := by
  go_enter Tryz.func105, Tryz.ntmps105
  go_wp2
  go_ret
  exact ⟨rfl, (Below.refl _ _).alloc (Nat.le_refl _) _⟩
theorem length_calls (w : World) : Calls Tryz.prog 106 #[.agg #[]] w fun e w' => e = .returned (.int .i64 0) ∧ Below w.heap.size w w' := by
  go_enter Tryz.func106, Tryz.ntmps106
  go_wp2
  go_ret
  exact ⟨rfl, (Below.refl _ _).alloc (Nat.le_refl _) _⟩
set_option maxRecDepth 100000 in
theorem wrong_calls (n : Int) (w : World) : Calls Tryz.prog 68 #[.int .i64 1, gsys, .int .i64 n] w fun e w' => e = .returned (.bool (decide (n ≤ 1))) ∧ Below w.heap.size w w' := by
  have hm : ∀ w : World, (method 274 107 (.agg #[]) "barscan/checkdigit.length").run Tryz.prog w = .ok (106, .agg #[]) w := fun _ => by kernel_rfl
  by_cases h : n ≤ 1
  · have h1 : decide (n ≤ 1) = true := decide_eq_true h
    go_enter Tryz.func68, Tryz.ntmps68
    go_wp2
    go_ret
    exact ⟨by rw [h1]; rfl, Below.refl _ _⟩
  · have h1 : decide (n ≤ 1) = false := decide_eq_false h
    go_enter Tryz.func68, Tryz.ntmps68
    go_wp2_with (first | (go_at_call 69; refine (size_calls _).mono ?_; rintro e w' ⟨rfl, rfl⟩) | (go_at_call 106; refine (length_calls _).mono ?_; rintro e w' ⟨rfl, hb⟩))
    go_ret
    exact ⟨by rw [h1]; rfl, by assumption⟩
/-- The digits from the right, times 3, 1, 3, .. : the sum of the first k. -/
def gsumTo (l : List Int) : Nat → Int
  | 0 => 0
  | k + 1 => gsumTo l k + (3 - (k : Int) % 2 * 2) * rd l k
theorem gsumTo_bd (l : List Int) (hb : ∀ j, 0 ≤ rd l j ∧ rd l j ≤ 255) : ∀ k : Nat, 0 ≤ gsumTo l k ∧ gsumTo l k ≤ 765 * k
  | 0 => by simp [gsumTo]
  | k + 1 => by
    have ih := gsumTo_bd l hb k
    have h := hb k
    simp only [gsumTo]
    rcases (show (k : Int) % 2 = 0 ∨ (k : Int) % 2 = 1 by omega) with e | e <;> rw [e] <;> omega
theorem gsumTo_even (l : List Int) (k : Nat) (e : (k : Int) % 2 = 0) : gsumTo l (k + 1) = gsumTo l k + 3 * rd l k := by simp only [gsumTo, e]; omega
theorem gsumTo_odd (l : List Int) (k : Nat) (e : (k : Int) % 2 = 1) : gsumTo l (k + 1) = gsumTo l k + rd l k := by simp only [gsumTo, e]; omega
theorem ret_str (a b : ByteArray) (h : a = b) : Ending.returned (.string a) = .returned (.string b) := by rw [h]
set_option maxRecDepth 100000 in
set_option maxHeartbeats 1000000 in
theorem gcheck_calls (k : Nat) (s : ByteArray) (l : List Int) (r : ByteArray) (w : World) (hl : checkdigit_backward.f k s = some l) (hb : ∀ j, 0 ≤ rd l j ∧ rd l j ≤ 255) (hn : l.length ≤ 4096)
    (hr : checkdigit_digit.f (-(gsumTo l l.length % 10) % 10) = some r) :
    Calls Tryz.prog 107 #[.agg #[], .string s] w fun e w' => e = .returned (.string r) ∧ Below w.heap.size w w' := by
  have HL := Lib.hid hl
  have HB := Lib.hid hb
  have HR := Lib.hid hr
  clear hl hb hr
  go_enter Tryz.func107, Tryz.ntmps107
  go_wp2_with fail
  refine (checkdigit_backward.calls k s l _ HL.out).mono ?_
  rintro e w1 ⟨v0, rfl, ho, hbel⟩
  obtain ⟨A, c, rfl, hc, hC⟩ := Kd.R_reads ho
  have HC := Lib.hid hC
  have HBel := Aside0.mk ((Below.refl w.heap.size w).alloc (Nat.le_refl _) (.cells #[] 107) |>.trans ⟨hbel.os, hbel.tape, hbel.output, Nat.le_trans (by simp) hbel.size, fun i hi => hbel.block i (by simp; omega)⟩)
  clear hC ho hbel
  go_wp2_with fail
  go_loop [5, 11] (fun v5 v11 => ∃ k : Nat, k ≤ l.length ∧ v11 = .int .i64 k ∧ v5 = .int .i64 (gsumTo l k)) (fun _ v11 => l.length - (intOf v11).toNat)
  case atStart => exact ⟨0, Nat.zero_le _, rfl, rfl⟩
  case round =>
    obtain ⟨k, hk, rfl, rfl⟩ := hrel
    have bd := gsumTo_bd l HB.out k
    have bk := HB.out k
    have bn := gsumTo_bd l HB.out l.length
    by_cases hlt : k < l.length
    · obtain ⟨ad, hA, hcell⟩ := Kd.at_int HC.out (k : Int) (by omega) (by omega)
      cases hA
      rw [Int.toNat_natCast] at hcell
      rcases (show (k : Int) % 2 = 0 ∨ (k : Int) % 2 = 1 by omega) with e | e
      · have HS := Lib.hid (gsumTo_even l k e)
        go_wp2
        go_round
        case rel => exact ⟨k + 1, by omega, by go_num, by rw [HS.out]⟩
        case measure => simp [intOf]; omega
      · have HS := Lib.hid (gsumTo_odd l k e)
        go_wp2
        go_round
        case rel => exact ⟨k + 1, by omega, by go_num, by rw [HS.out]⟩
        case measure => simp [intOf]; omega
    · obtain rfl : k = l.length := by omega
      go_wp2_with fail
      refine (checkdigit_digit.calls _ r _ HR.out).mono ?_; rintro e w' ⟨rfl, ⟨nd, rfl⟩⟩
      go_wp2
      go_ret
      exact ⟨rfl, by first | exact HBel.out | exact pw_below_drewN HBel.out _⟩
/-- The check character of a text of digits, as Go makes it. -/
def backL (s : ByteArray) : List Int := (bs s).reverse.map fun c => ((c.toNat : Int) - 48) % 256
def gchk (s : ByteArray) : ByteArray := ⟨(Lib.decDigits (-(gsumTo (backL s) (backL s).length % 10) % 10).toNat).toArray⟩
def checkdigit_Verify.f (a0 : Int) (a1 : ByteArray) : Option Int :=
  if a0 = 1 then some (if 4096 < a1.size then 4 else if a1.size ≤ 1 then 7 else if allDig a1 then (if gchk (a1.extract 0 (a1.size - 1)) = a1.extract (a1.size - 1) a1.size then 0 else 8) else 6) else none
theorem within_l (s c : ByteArray) (hs : s.size < 4611686018427387904) (d : Nat) : ∀ k i : Nat, i + d = (bs s).length → d < k → checkdigit_within.l0 k s c (s.size : Int) i = some (((bs s).drop i).all fun x => decide (x ∈ bs c)) := by
  have hl := bs_len s
  induction d with
  | zero =>
    intro k i h1 h2
    obtain ⟨k, rfl⟩ : ∃ m, k = m + 1 := ⟨k - 1, by omega⟩
    simp only [checkdigit_within.l0]
    rw [if_neg (by omega), List.drop_of_length_le (by omega)]
    rfl
  | succ d ih =>
    intro k i h1 h2
    obtain ⟨k, rfl⟩ : ∃ m, k = m + 1 := ⟨k - 1, by omega⟩
    have hlt : i < (bs s).length := by omega
    have hd : (bs s).drop i = (bs s)[i] :: (bs s).drop (i + 1) := List.drop_eq_getElem_cons hlt
    simp only [checkdigit_within.l0, strings_IndexByte.f, Option.bind_some]
    rw [if_pos (by omega), if_pos (by omega), if_pos (by omega), bt_nat s i hlt, u8_back, hd, List.all_cons]
    by_cases hm : (bs s)[i] ∈ bs c
    · rw [if_neg (fun h => (indexByte_iff _ _).1 h hm), wrap_up i (by omega), ih k (i + 1) (by omega) (by omega)]
      rw [decide_eq_true hm, Bool.true_and]
    · rw [if_pos ((indexByte_iff _ _).2 hm), decide_eq_false hm, Bool.false_and]
theorem within_ok (s c : ByteArray) (hs : s.size < 4611686018427387904) : checkdigit_within.f ((bs s).length + 1) s c = some ((bs s).all fun x => decide (x ∈ bs c)) := by
  have := within_l s c hs (bs s).length ((bs s).length + 1) 0 (by omega) (by omega)
  simpa [checkdigit_within.f] using this
theorem back_l (s : ByteArray) (hs : s.size < 17592186044416) (d : Nat) : ∀ (k : Nat) (acc : List Int), d ≤ (bs s).length → d < k → acc.length + d < 17592186044416 →
    checkdigit_backward.l0 k s acc ((d : Int) - 1) = some (acc ++ ((bs s).take d).reverse.map fun c => ((c.toNat : Int) - 48) % 256) := by
  have hl := bs_len s
  induction d with
  | zero =>
    intro k acc h1 h2 h3
    obtain ⟨k, rfl⟩ : ∃ m, k = m + 1 := ⟨k - 1, by omega⟩
    simp only [checkdigit_backward.l0]
    rw [if_neg (by omega)]
    simp
  | succ d ih =>
    intro k acc h1 h2 h3
    obtain ⟨k, rfl⟩ : ∃ m, k = m + 1 := ⟨k - 1, by omega⟩
    have hlt : d < (bs s).length := by omega
    rw [show (((d + 1 : Nat) : Int) - 1) = (d : Int) by omega]
    simp only [checkdigit_backward.l0]
    rw [if_pos (by omega), if_pos (by omega), if_pos (by omega), if_pos (by omega), bt_nat s d hlt, wrap_dn d (by omega), ih k _ (by omega) (by omega) (by simp; omega)]
    rw [List.take_succ_eq_append_getElem hlt, List.reverse_append, List.reverse_singleton, List.singleton_append, List.map_cons, List.append_assoc]
    rfl
theorem back_ok (s : ByteArray) (hs : s.size < 17592186044416) : checkdigit_backward.f ((bs s).length + 1) s = some (backL s) := by
  have hl := bs_len s
  unfold checkdigit_backward.f
  rw [← hl, wrap_id _ (by omega) (by omega), back_l s hs (bs s).length _ [] (by omega) (by omega) (by simp; omega)]
  rw [List.take_length]
  rfl
theorem backL_bd (s : ByteArray) (j : Int) : 0 ≤ rd (backL s) j ∧ rd (backL s) j ≤ 255 := by
  unfold rd
  rw [List.getD_eq_getElem?_getD]
  cases h : (backL s)[j.toNat]? with
  | none => simp
  | some x =>
    have hm := List.mem_of_getElem? h
    simp only [backL, List.mem_map] at hm
    obtain ⟨c, _, rfl⟩ := hm
    simp only [Option.getD_some]
    omega
theorem backL_len (s : ByteArray) : (backL s).length = s.size := by rw [← bs_len]; simp [backL]
theorem digit_ok (x : Int) : checkdigit_digit.f (-(x % 10) % 10) = some ⟨(Lib.decDigits (-(x % 10) % 10).toNat).toArray⟩ := by
  unfold checkdigit_digit.f strconv_Itoa.f
  rw [if_neg (by omega), if_pos (by omega), if_pos (by omega)]
  rfl
/-- The check of a text of digits: its check character. -/
theorem check_calls (s : ByteArray) (w : World) (hs : s.size ≤ 4096) : Calls Tryz.prog 107 #[.agg #[], .string s] w fun e w' => e = .returned (.string (gchk s)) ∧ Below w.heap.size w w' :=
  gcheck_calls _ s (backL s) _ w (back_ok s (by omega)) (backL_bd s) (by rw [backL_len]; exact hs) (digit_ok _)
end Go.Proofs.YtghlbdemlmbijaaGreatDoor.Q
