/- HartSteps, walked. -/
import Derived.Test.YtapgojgcmlnbgabKHS942
import Derived.Test.YtapgojgcmlnbgabKHS925
set_option linter.unusedSimpArgs false
set_option linter.unusedVariables false

namespace Go.Proofs.Ytapgojgcmlnbgab
open Go.RowKit

theorem step_no (h : Hart) (A : Option Addr) (cap : Nat) (m : List Int) (w : World) (hh : h.Wf) (hl : m.length ≤ 140737488351232) (hm : Bytes m) (hA : IntsAt w w.heap.size .u8 A m) (hnil : A = none → m = []) (hno : okS h m = false) :
    Calls Try.prog 35 #[.agg h.cells, .slice A m.length cap] w fun e w' => e = .returned (.tuple #[.agg com0.cells, .agg hart0.cells, .slice none 0 0, .bool false]) ∧ Below w.heap.size w w' := by
  refine (step_any h A cap m w hh (by omega) hm hA hnil).mono ?_
  rintro e w' ⟨hb, v, rfl, _, hv⟩
  obtain rfl := hv hno
  unfold stepC stepH
  rw [hno]
  exact ⟨rfl, hb⟩
theorem step_ok (h : Hart) (A : Option Addr) (cap : Nat) (m : List Int) (w : World) (hh : h.Wf) (hl : m.length ≤ 140737488351232) (hm : Bytes m) (hA : IntsAt w w.heap.size .u8 A m) (hnil : A = none → m = []) (hok : okS h m = true) :
    Calls Try.prog 35 #[.agg h.cells, .slice A m.length cap] w fun e w' => ∃ A2 c2, e = .returned (.tuple #[.agg (comP h m).cells, .agg (goH h m).cells, .slice A2 (goM h m).length c2, .bool true]) ∧ Below w.heap.size w w' ∧ IntsAt w' w'.heap.size .u8 A2 (goM h m) ∧ (A2 = none → goM h m = []) := by
  refine (step_any h A cap m w hh (by omega) hm hA hnil).mono ?_
  rintro e w' ⟨hb, v, rfl, ho, _⟩
  replace ho := ho hok
  obtain ⟨A2, c2, rfl⟩ := own_value ho
  unfold stepC stepH
  rw [hok]
  exact ⟨A2, c2, by rw [show (goM h m).length = m.length from applyM_length _ _]; rfl, hb, IntsAt.own ho, own_nil ho⟩
theorem rstep_ok (h : Hart) (A : Option Addr) (cap : Nat) (m : List Int) (w : World) (hh : h.Wf) (hst : h.state = 0) (hca : h.cause = 0) (hl : m.length ≤ 140737488351232) (hm : Bytes m) (hA : IntsAt w w.heap.size .u8 A m) (hnil : A = none → m = []) :
    Calls Try.prog 36 #[.agg h.cells, .slice A m.length cap] w fun e w' => ∃ A2 c2, e = .returned (.agg (didC (comP h m) (goH h m) (.slice A2 (goM h m).length c2))) ∧ Below w.heap.size w w' ∧ IntsAt w' w'.heap.size .u8 A2 (goM h m) ∧ (A2 = none → goM h m = []) := by
  refine (rstep_any h A cap m w hh hst hca hl hm hA hnil).mono ?_
  rintro e w' ⟨A2, c2, rfl, hb, h1, h2, _⟩
  exact ⟨A2, c2, by rw [show (goM h m).length = m.length from applyM_length _ _], hb, h1, h2⟩
set_option maxHeartbeats 2000000 in
set_option maxRecDepth 100000 in
theorem hartSteps_no (h : Hart) (A : Option Addr) (cap : Nat) (m : List Int) (w : World) (hh : h.Wf) (hl : m.length ≤ 140737488351232) (hm : Bytes m) (hA : IntsAt w w.heap.size .u8 A m) (hnil : A = none → m = []) (hno : okS h m = false) (may : Bool) (hmay : mayH h = may) :
    Calls Try.prog 10 #[.agg h.cells, .slice A m.length cap] w fun e w' => e = .returned (.bool true) ∧ Below w.heap.size w w' := by
  have Hmay := Lib.hid hmay
  have CS := Lib.hid (fun W hW => step_no h A cap m W hh hl hm hW hnil hno)
  have p2 := (Hart.cells_pc hh.len).2.1
  have CM := Lib.hid (fun W => hmay_any h W hh.len)
  have CR := Lib.hid (fun W => rmay_any h W hh.len)
  go_enter Try.func10, Try.ntmps10
  go_upto_region 1 with (fail)
  go_simp
  refine wp_gen fun wa hq => ?_
  have hH : Blk wa w.heap.size 51 h.cells := by rw [hq]; exact Blk.new w _ _
  have hbl : Below w.heap.size w wa := by rw [hq]; exact (Below.refl _ _).alloc (Nat.le_refl _) _
  clear hq
  have e1 : (may == may) = true := by simp
  go_upto_region 4 with (first
    | (refine wpList_load_all rfl 51 _ rfl w.heap.size rfl 51 _ _ hH Try.underlying51 rfl (hart_info hh.len) ?_)
    | (go_at_call 33; (with_reducible refine (CM.out _).mono ?_); rintro e w2 ⟨rfl, hb2⟩; rw [Hmay.out]; replace hbl := hbl.trans (hb2.mono hbl.size); replace hH := hH.ext hb2; clear hb2)
    | (go_at_call 34; (with_reducible refine (CR.out _).mono ?_); rintro e w3 ⟨rfl, hb2⟩; rw [Hmay.out]; replace hbl := hbl.trans (hb2.mono hbl.size); replace hH := hH.ext hb2; clear hb2))
  try go_simp
  have hAa := (hA.below hbl).mono hbl.size
  go_upto_region 5 with (first
    | (refine wpList_load_all rfl 51 _ rfl w.heap.size rfl 51 _ _ hH Try.underlying51 rfl (hart_info hh.len) ?_)
    | (go_at_call 35; (with_reducible refine (CS.out _ hAa).mono ?_); rintro e w4 ⟨rfl, hb2⟩; replace hbl := hbl.trans (hb2.mono hbl.size); replace hH := hH.ext hb2; clear hb2)
    | (refine wpList_store_all rfl 54 _ _ rfl w4.heap.size com0.cells rfl rfl 54 _ ((Blk.new w4 _ _).alloc _) com_info rfl (cells_one com0) ?_; intro w5 hC hg5)
    | (refine wpList_store_all rfl 51 _ _ rfl (w4.heap.size + 1) hart0.cells rfl rfl 51 _ ((Blk.newAt (w4.alloc _) _ _ (by simp)).grown hg5 (fun e => by injection e; omega)) (hart_info hart0_len) rfl (hart_one hart0) ?_; intro w6 hX hg6))
  try go_simp
  have hz4 := hH.lt
  replace hC := hC.grown hg6 (fun e => by injection e; omega)
  replace hH := (((hH.alloc _).alloc _).grown hg5 (fun e => by injection e; omega)).grown hg6 (fun e => by injection e; omega)
  replace hbl := below_grown (below_grown ((hbl.alloc hbl.size _).alloc (by simp; have := hbl.size; omega) _) hg5 (by simp; have := hbl.size; omega) hbl.size) hg6 (by have := hg5.size; simp at this; have := hbl.size; omega) (by have := hbl.size; omega)
  clear hg5 hg6 hAa CM CR CS
  have c33 := (hH.cell 33).trans p2
  rcases may with _ | _
  · clear hno Hmay hmay e1
    go_upto_region 6 with (fail)
    try go_simp
    go_wp2_with (refine wpList_wanted rfl fun K hK => ?_; first
      | (refine wp_load_all 54 _ rfl w4.heap.size rfl 54 _ _ hC Try.underlying54 rfl com_info ?_; refine hK _ _ ?_)
      | (refine wp_load_all 51 _ rfl (w4.heap.size + 1) rfl 51 _ _ hX Try.underlying51 rfl (hart_info hart0_len) ?_; refine hK _ _ ?_)
      | (refine wp_build_to 54 _ rfl [] rfl _ built_com0 ?_; refine hK _ _ ?_)
      | (refine wp_build_to 51 _ rfl [] rfl _ built_hart0 ?_; refine hK _ _ ?_)
      | (refine wp_eql_self 54 _ _ _ rfl com0.cells rfl rfl com_guard (com_eql com0_wf _) ?_; refine hK _ _ ?_)
      | (refine wp_eql_self 51 _ _ _ rfl hart0.cells rfl rfl hart_guard (hart_eql hart0_wf hart0_num _) ?_; refine hK _ _ ?_))
    go_ret
    exact ⟨rfl, hbl⟩
  · by_cases hs : h.state = 0
    · have hlen : ¬ m.length ≤ 4096 := fun hle => by
        unfold okS at hno
        rw [Hmay.out, decide_eq_true hs, decide_eq_true hle] at hno
        cases hno
      have f1 : decide ((4096 : Int) < (m.length : Int)) = true := decide_eq_true (by omega)
      have f2 : (h.state != 0) = false := by simpa using hs
      clear hs hlen hno Hmay hmay e1
      go_upto_region 6 with (fail)
      try go_simp
      go_wp2_with (refine wpList_wanted rfl fun K hK => ?_; first
        | (refine wp_load_all 54 _ rfl w4.heap.size rfl 54 _ _ hC Try.underlying54 rfl com_info ?_; refine hK _ _ ?_)
        | (refine wp_load_all 51 _ rfl (w4.heap.size + 1) rfl 51 _ _ hX Try.underlying51 rfl (hart_info hart0_len) ?_; refine hK _ _ ?_)
        | (refine wp_build_to 54 _ rfl [] rfl _ built_com0 ?_; refine hK _ _ ?_)
        | (refine wp_build_to 51 _ rfl [] rfl _ built_hart0 ?_; refine hK _ _ ?_)
        | (refine wp_eql_self 54 _ _ _ rfl com0.cells rfl rfl com_guard (com_eql com0_wf _) ?_; refine hK _ _ ?_)
        | (refine wp_eql_self 51 _ _ _ rfl hart0.cells rfl rfl hart_guard (hart_eql hart0_wf hart0_num _) ?_; refine hK _ _ ?_))
      go_ret
      exact ⟨rfl, hbl⟩
    · have f2 : (h.state != 0) = true := by simpa using hs
      clear hs hno Hmay hmay e1
      go_upto_region 6 with (fail)
      try go_simp
      go_wp2_with (refine wpList_wanted rfl fun K hK => ?_; first
        | (refine wp_load_all 54 _ rfl w4.heap.size rfl 54 _ _ hC Try.underlying54 rfl com_info ?_; refine hK _ _ ?_)
        | (refine wp_load_all 51 _ rfl (w4.heap.size + 1) rfl 51 _ _ hX Try.underlying51 rfl (hart_info hart0_len) ?_; refine hK _ _ ?_)
        | (refine wp_build_to 54 _ rfl [] rfl _ built_com0 ?_; refine hK _ _ ?_)
        | (refine wp_build_to 51 _ rfl [] rfl _ built_hart0 ?_; refine hK _ _ ?_)
        | (refine wp_eql_self 54 _ _ _ rfl com0.cells rfl rfl com_guard (com_eql com0_wf _) ?_; refine hK _ _ ?_)
        | (refine wp_eql_self 51 _ _ _ rfl hart0.cells rfl rfl hart_guard (hart_eql hart0_wf hart0_num _) ?_; refine hK _ _ ?_))
      go_ret
      exact ⟨rfl, hbl⟩

theorem did_com (c : Com) (h : Hart) (v : Value) : (didC c h v).extract 0 (0 + 11) = c.cells := by
  apply Array.toList_inj.1
  unfold didC
  rw [Array.toList_extract]
  simp only [List.extract_eq_take_drop]
  simp [Com.cells]
theorem did_hart (c : Com) (h : Hart) (v : Value) (hl : h.regs.length = 32) : (didC c h v).extract 11 (11 + 35) = h.cells := by
  have hs : h.cells.toList.length = 35 := by rw [hart_cells_list]; simp [hl]
  apply Array.toList_inj.1
  unfold didC
  rw [Array.toList_extract]
  simp only [List.extract_eq_take_drop]
  have : (c.cells.toList ++ h.cells.toList ++ [v]).drop 11 = h.cells.toList ++ [v] := by simp [Com.cells]
  rw [this]
  exact List.take_left' hs
theorem did_mem (c : Com) (h : Hart) (v : Value) (hl : h.regs.length = 32) : (didC c h v)[46]? = some v := by
  have hs : h.cells.toList.length = 35 := by rw [hart_cells_list]; simp [hl]
  unfold didC
  rw [List.getElem?_toArray, List.getElem?_append_right (by simp [Com.cells] at hs ⊢; omega)]
  have : 46 - (c.cells.toList ++ h.cells.toList).length = 0 := by rw [List.length_append, hs]; simp [Com.cells]
  rw [this]
  rfl
theorem did_typeInfo : (Try.prog.info? 58).map (·.size) = some 47 := by kernel_rfl
def did00 : Array Value := didC com0 hart0 (.slice none 0 0)
set_option maxHeartbeats 2000000 in
set_option maxRecDepth 100000 in
theorem hartSteps_ok (h : Hart) (A : Option Addr) (cap : Nat) (m : List Int) (w : World) (hh : h.Wf) (hl : m.length ≤ 140737488351232) (hm : Bytes m) (hA : IntsAt w w.heap.size .u8 A m) (hnil : A = none → m = []) (hok : okS h m = true) (may : Bool) (hmay' : mayH h = may) :
    Calls Try.prog 10 #[.agg h.cells, .slice A m.length cap] w fun e w' => e = .returned (.bool true) ∧ Below w.heap.size w w' := by
  obtain ⟨⟨hmay, hst⟩, hle⟩ : (mayH h = true ∧ h.state = 0) ∧ m.length ≤ 4096 := by unfold okS at hok; simpa using hok
  obtain rfl : may = true := hmay'.symm.trans hmay
  have Hmay := Lib.hid hmay
  have hca : h.cause = 0 := by unfold mayH at hmay; simp at hmay; omega
  have CS := Lib.hid (fun W hW => step_ok h A cap m W hh hl hm hW hnil hok)
  have CR4 := Lib.hid (fun W hW => rstep_ok h A cap m W hh hst hca hl hm hW hnil)
  have hcw := comP_wf hh hm
  have hgw : (goH h m).Wf := applyH_wf hcw hh
  have hgm : mayH (goH h m) = true := applyH_may hcw hmay
  have hgn := may_num hgm
  have EC := Lib.hid (fun W => com_eql hcw W)
  have EH := Lib.hid (fun W => hart_eql hgw hgn W)
  have hgl := hgw.len
  have hml : (goM h m).length = m.length := applyM_length _ _
  have p2 := (Hart.cells_pc hh.len).2.1
  rw [hst] at p2
  generalize comP h m = C at *
  generalize goH h m = X at *
  generalize goM h m = M at *
  clear hcw hgm hgn hgw hmay' hok
  have HML := Lib.hid hml
  clear hml
  have CM := Lib.hid (fun W => hmay_any h W hh.len)
  have CR := Lib.hid (fun W => rmay_any h W hh.len)
  go_enter Try.func10, Try.ntmps10
  go_upto_region 1 with (fail)
  go_simp
  refine wp_gen fun wa hq => ?_
  have hH : Blk wa w.heap.size 51 h.cells := by rw [hq]; exact Blk.new w _ _
  have hbl : Below w.heap.size w wa := by rw [hq]; exact (Below.refl _ _).alloc (Nat.le_refl _) _
  clear hq
  have e1 : True := by simp
  go_upto_region 4 with (first
    | (refine wpList_load_all rfl 51 _ rfl w.heap.size rfl 51 _ _ hH Try.underlying51 rfl (hart_info hh.len) ?_)
    | (go_at_call 33; (with_reducible refine (CM.out _).mono ?_); rintro e w2 ⟨rfl, hb2⟩; rw [Hmay.out]; replace hbl := hbl.trans (hb2.mono hbl.size); replace hH := hH.ext hb2; clear hb2)
    | (go_at_call 34; (with_reducible refine (CR.out _).mono ?_); rintro e w3 ⟨rfl, hb2⟩; rw [Hmay.out]; replace hbl := hbl.trans (hb2.mono hbl.size); replace hH := hH.ext hb2; clear hb2))
  try go_simp
  have hAa := (hA.below hbl).mono hbl.size
  go_upto_region 5 with (first
    | (refine wpList_load_all rfl 51 _ rfl w.heap.size rfl 51 _ _ hH Try.underlying51 rfl (hart_info hh.len) ?_)
    | (go_at_call 35; (with_reducible refine (CS.out _ hAa).mono ?_); rintro e w4 ⟨A2, c2, rfl, hb2, hM2, hN2⟩; replace hbl := hbl.trans (hb2.mono hbl.size); replace hH := hH.ext hb2; clear hb2)
    | (refine wpList_store_all rfl 54 _ _ rfl w4.heap.size C.cells rfl rfl 54 _ ((Blk.new w4 _ _).alloc _) com_info rfl (cells_one C) ?_; intro w5 hC hg5)
    | (refine wpList_store_all rfl 51 _ _ rfl (w4.heap.size + 1) X.cells rfl rfl 51 _ ((Blk.newAt (w4.alloc _) _ _ (by simp)).grown hg5 (fun e => by injection e; omega)) (hart_info hgl) (by rw [Hart.cells_size hgl]; rfl) (hart_one X) ?_; intro w6 hX hg6))
  try go_simp
  have hz4 := hH.lt
  have hz5 := hg5.size
  have hz6 := hg6.size
  simp only [World.size_alloc] at hz5
  have hM5 : IntsAt w6 w4.heap.size .u8 A2 M := ((hM2.below (Below.refl _ _)).mono (Nat.le_refl _)).below (((((Below.refl w4.heap.size w4).alloc (Nat.le_refl _) _).alloc (by simp) _).grown hg5 (by simp <;> omega) (fun k hk => by cases hk; exact Nat.le_refl _)).grown hg6 (by omega) (fun k hk => by cases hk; omega))
  replace hC := hC.grown hg6 (fun e => by injection e; omega)
  replace hH := (((hH.alloc _).alloc _).grown hg5 (fun e => by injection e; omega)).grown hg6 (fun e => by injection e; omega)
  replace hbl := below_grown (below_grown ((hbl.alloc hbl.size _).alloc (by simp; have := hbl.size; omega) _) hg5 (by simp; have := hbl.size; omega) hbl.size) hg6 (by have := hbl.size; omega) (by have := hbl.size; omega)
  clear hg5 hg6 CM CR CS hM2
  have hAa := (hA.below hbl).mono hbl.size
  have c33 := (hH.cell 33).trans p2
  have f1 : decide ((4096 : Int) < (m.length : Int)) = false := decide_eq_false (by omega)
  go_upto_region 7 with (fail)
  try go_simp
  clear f1 c33 e1
  go_upto_region 8 with (first
    | (refine wpList_load_all rfl 51 _ rfl w.heap.size rfl 51 _ _ hH Try.underlying51 rfl (hart_info hh.len) ?_)
    | (go_at_call 36; (with_reducible refine (CR4.out _ hAa).mono ?_); rintro e w7 ⟨A3, c3, rfl, hb7, hM7, hN7⟩; replace hbl := hbl.trans (hb7.mono hbl.size); replace hC := hC.ext hb7; replace hX := hX.ext hb7; replace hM5 := hM5.below (hb7.mono (by omega)))
    | (refine wpList_store_all rfl 58 _ _ rfl w7.heap.size (didC C X (.slice A3 M.length c3)) rfl rfl 58 _ (Blk.new w7 _ _) (by rw [didC_size hgl]; exact did_typeInfo) (by rw [didC_size hgl]; rfl) (did_one C X rfl) ?_; intro w8 hD hg8))
  try go_simp
  have hz8 := hg8.size
  simp only [World.size_alloc] at hz8
  have hM8 : IntsAt w8 w7.heap.size .u8 A3 M := hM7.below (((Below.refl w7.heap.size w7).alloc (Nat.le_refl _) _).grown hg8 (by simp <;> omega) (fun k hk => by cases hk; exact Nat.le_refl _))
  have hM6 : IntsAt w8 w4.heap.size .u8 A2 M := hM5.below (((Below.refl w4.heap.size w7).alloc (by have := hb7.size; omega) _).grown hg8 (by have := hb7.size; simp; omega) (fun k hk => by cases hk; have := hb7.size; omega))
  have hz7 := hb7.size
  have hzC := hC.lt
  replace hC := (hC.alloc (.cells did00 58)).grown hg8 (fun e => by injection e; omega)
  replace hX := (hX.alloc (.cells did00 58)).grown hg8 (fun e => by injection e; omega)
  replace hbl := below_grown (hbl.alloc hbl.size (.cells did00 58)) hg8 (by have := hbl.size; simp; omega) (by have := hbl.size; omega)
  have hDm := (hD.cell 46).trans (did_mem C X (.slice A3 M.length c3) hgl)
  have hDs := didC_size (c := C) (v := .slice A3 M.length c3) hgl
  have hD0 := did_com C X (.slice A3 M.length c3)
  have hD1 := did_hart C X (.slice A3 M.length c3) hgl
  generalize didC C X (.slice A3 M.length c3) = D at *
  have HD0 := Lib.hid hD0
  have HD1 := Lib.hid hD1
  have HDs := Lib.hid hDs
  clear hD0 hD1 hDs hg8 hb7 CR4 hM5 hM7 hAa
  go_wp2_with (first
    | (refine wpList_wanted rfl fun K hK => ?_; first
      | (refine wp_load_all 54 _ rfl w4.heap.size rfl 54 _ _ hC Try.underlying54 rfl com_info ?_; refine hK _ _ ?_)
      | (refine wp_load_all 51 _ rfl (w4.heap.size + 1) rfl 51 _ _ hX Try.underlying51 rfl (hart_info hgl) ?_; refine hK _ _ ?_)
      | (refine wp_load_blk 54 _ rfl w7.heap.size 0 rfl 58 D 11 _ hD Try.underlying54 rfl (com_info (a := undef) (b := undef) (c := undef) (d := undef) (e := undef) (f := undef) (g := undef) (h := undef) (i := undef) (j := undef) (k := undef)) (by rw [HDs.out]; omega) ?_; rw [HD0.out]; refine hK _ _ ?_)
      | (refine wp_load_blk 51 _ rfl w7.heap.size 11 rfl 58 D 35 _ hD Try.underlying51 rfl ((hart_info hgl).trans (by rw [Hart.cells_size hgl])) (by rw [HDs.out]; omega) ?_; rw [HD1.out]; refine hK _ _ ?_)
      | (refine wp_eql_self 54 _ _ _ rfl C.cells rfl rfl com_guard (EC.out _) ?_; refine hK _ _ ?_)
      | (refine wp_eql_self 51 _ _ _ rfl X.cells rfl rfl hart_guard (EH.out _) ?_; refine hK _ _ ?_))
    | (go_at_call 37; (with_reducible refine (bytes_same A2 A3 c2 c3 M _ w4.heap.size w7.heap.size hM6 hN2 hM8 hN7).mono ?_); rintro e w9 ⟨rfl, rfl⟩))
  go_ret
  exact ⟨rfl, hbl⟩
end Go.Proofs.Ytapgojgcmlnbgab
