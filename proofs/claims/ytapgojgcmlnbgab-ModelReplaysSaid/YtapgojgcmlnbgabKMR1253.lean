/- ModelReplays, walked. -/
import Derived.Test.YtapgojgcmlnbgabKMS1151
import Derived.Test.YtapgojgcmlnbgabKHT946
set_option linter.unusedSimpArgs false
set_option linter.unusedVariables false

namespace Go.Proofs.Ytapgojgcmlnbgab
open Go.RowKit

theorem runP_nth : ∀ (N i : Nat) (h : Hart) (m : List Int) (c : Com), (runP N h m).1[i]? = some c → (runP i h m).2.1.state = 0 ∧ c = comP (runP i h m).2.1 (runP i h m).2.2 ∧ (runP (i + 1) h m).2 = (goH (runP i h m).2.1 (runP i h m).2.2, goM (runP i h m).2.1 (runP i h m).2.2)
  | 0, _, _, _, _, hc => by cases hc
  | N + 1, i, h, m, c, hc => by
    by_cases hs : h.state = 0
    · rw [runP_step hs] at hc
      cases i with
      | zero =>
        simp at hc
        subst hc
        refine ⟨hs, rfl, ?_⟩
        rw [runP_step hs]
        rfl
      | succ i =>
        have := runP_nth N i (goH h m) (goM h m) c (by simpa using hc)
        rw [runP_step hs, runP_step hs]
        exact this
    · rw [runP_stop hs] at hc
      cases hc
theorem runP_last : ∀ (N : Nat) (h : Hart) (m : List Int), (runP (runP N h m).1.length h m).2 = (runP N h m).2
  | 0, h, m => rfl
  | N + 1, h, m => by
    by_cases hs : h.state = 0
    · rw [runP_step hs, List.length_cons, runP_step hs]
      exact runP_last N _ _
    · rw [runP_stop hs, runP_stop hs]
set_option maxHeartbeats 2000000 in
set_option maxRecDepth 100000 in
theorem modelReplays_no (h : Hart) (A : Option Addr) (cap : Nat) (m : List Int) (steps : Int) (w : World) (hh : h.Wf) (hl : m.length ≤ 140737488351232) (s0 : -9223372036854775808 ≤ steps) (s1 : steps ≤ 9223372036854775807) (hno : wrongP h m steps ≠ 0) :
    Calls Try.prog 13 #[.agg h.cells, .slice A m.length cap, .int .i64 steps] w fun e w' => e = .returned (.bool true) ∧ Below w.heap.size w w' := by
  have CR := Lib.hid (fun W => run_no h A cap m steps W hh hl s0 s1 hno)
  generalize wrongP h m steps = X at *
  have e2 : (X != 0) = true := by simpa using hno
  clear hno
  go_enter Try.func13, Try.ntmps13
  go_upto_region 1 with (fail)
  go_simp
  refine wp_gen fun wa hq => ?_
  have hH : Blk wa w.heap.size 51 h.cells := by rw [hq]; exact Blk.new w _ _
  have hbl : Below w.heap.size w wa := by rw [hq]; exact (Below.refl _ _).alloc (Nat.le_refl _) _
  clear hq
  go_upto_region 2 with (first
    | (refine wpList_load_all rfl 51 _ rfl w.heap.size rfl 51 _ _ hH Try.underlying51 rfl (hart_info hh.len) ?_)
    | (go_at_call 39; (with_reducible refine (CR.out _).mono ?_); rintro e w2 ⟨rfl, hb2⟩; replace hbl := hbl.trans (hb2.mono hbl.size); clear hb2)
    | (refine wpList_store_all rfl 51 _ _ rfl w2.heap.size hart0.cells rfl rfl 51 _ (Blk.new w2 _ _) (hart_info hart0_len) rfl (hart_one hart0) ?_; intro w3 hX hg3))
  try go_simp
  replace hbl := below_grown (hbl.alloc hbl.size (.cells hart0.cells 51)) hg3 (by have := hbl.size; simp; omega) hbl.size
  go_wp2
  go_ret
  exact ⟨rfl, hbl⟩
set_option maxHeartbeats 4000000 in
set_option maxRecDepth 100000 in
theorem modelReplays_ok (h : Hart) (A : Option Addr) (cap : Nat) (m : List Int) (N : Nat) (w : World) (hh : h.Wf) (hl : m.length ≤ 140737488351232) (hm : Bytes m) (hA : IntsAt w w.heap.size .u8 A m) (hnil : A = none → m = [] ∧ cap = 0) (hN : N ≤ 2000) (hno : wrongP h m N = 0) :
    Calls Try.prog 13 #[.agg h.cells, .slice A m.length cap, .int .i64 N] w fun e w' => e = .returned (.bool true) ∧ Below w.heap.size w w' := by
  have hmay : mayH h = true := by
    unfold wrongP at hno
    split at hno
    · cases hno
    · cases hh : mayH h <;> simp_all
  have CR := Lib.hid (fun W hW => run_ok h A cap m N W hh hl hm hW (fun e => (hnil e).1) hno)
  obtain ⟨hok, hml, hcw, hll, hst⟩ := runP_ok N (h := h) (m := m) ⟨hh, hmay, hm⟩
  have hnth := runP_nth N
  have hnth := Lib.hid (fun i c => runP_nth N i h m c)
  have hlast := Lib.hid (runP_last N h m)
  have hoki := Lib.hid (fun i => runP_ok i (h := h) (m := m) ⟨hh, hmay, hm⟩)
  rw [Int.toNat_natCast] at CR
  have hxl := hok.hart.len
  have EH := Lib.hid (fun W => hart_eql hok.hart (may_num hok.may) W)
  have HST := Lib.hid hst
  have HML := Lib.hid hml
  obtain ⟨R, hR⟩ : ∃ R, runP N h m = R := ⟨_, rfl⟩
  rw [hR] at CR hnth hlast hxl EH HST HML hll hcw
  clear hR hok hst hml hmay hno
  obtain ⟨L, X, M⟩ := R
  dsimp only at CR hnth hlast hxl EH HST HML hll hcw
  have HCW := Lib.hid (fun c hc => (hcw c hc).1)
  have HCF := Lib.hid (fun c hc => (hcw c hc).2)
  clear hcw
  have px := (Hart.cells_pc hxl).2.1
  obtain ⟨i0, hi, hz0, hz1, hz2⟩ := info_parts refStore_info
  go_enter Try.func13, Try.ntmps13
  go_upto_region 1 with (fail)
  go_simp
  refine wp_gen fun wa hq => ?_
  have hH : Blk wa w.heap.size 51 h.cells := by rw [hq]; exact Blk.new w _ _
  have hbl : Below w.heap.size w wa := by rw [hq]; exact (Below.refl _ _).alloc (Nat.le_refl _) _
  clear hq
  have hAa := (hA.below hbl).mono hbl.size
  go_upto_region 2 with (first
    | (refine wpList_load_all rfl 51 _ rfl w.heap.size rfl 51 _ _ hH Try.underlying51 rfl (hart_info hh.len) ?_)
    | (go_at_call 39; (with_reducible refine (CR.out _ hAa).mono ?_); rintro e w2 ⟨AL, cL, A2, c2, rfl, hb2, hL2, hM2⟩; replace hbl := hbl.trans (hb2.mono hbl.size); replace hH := hH.ext hb2; clear hb2)
    | (refine wpList_store_all rfl 51 _ _ rfl w2.heap.size X.cells rfl rfl 51 _ (Blk.new w2 _ _) (hart_info hxl) (by rw [Hart.cells_size hxl]; rfl) (hart_one X) ?_; intro w3 hX hg3))
  try go_simp
  have hz2' := hH.lt
  have hz3 := hg3.size
  simp only [World.size_alloc] at hz3
  have hb23 : Below w2.heap.size w2 w3 := ((Below.refl w2.heap.size w2).alloc (Nat.le_refl _) (.cells hart0.cells 51)).grown hg3 (by simp) (fun k hk => by cases hk; exact Nat.le_refl _)
  have hCL := ((ComsAt.own hL2).below hb23).mono (by omega : w2.heap.size ≤ w3.heap.size)
  have hIM := ((IntsAt.own hM2).below hb23).mono (by omega : w2.heap.size ≤ w3.heap.size)
  have hN2 := own_nil hM2
  replace hH := hH.ext hb23
  replace hbl := hbl.trans (hb23.mono hbl.size)
  clear hg3 hL2 hM2 hb23 hAa CR hz3
  go_upto_region 4 with (fail)
  try go_simp
  have hzw : w.heap.size ≤ w3.heap.size := hbl.size
  go_upto_region 5 with (first
    | (refine wpList_load_all rfl 51 _ rfl w.heap.size rfl 51 _ _ hH Try.underlying51 rfl (hart_info hh.len) ?_)
    | (refine wpList_store_all rfl 51 _ _ rfl w3.heap.size h.cells rfl rfl 51 _ (Blk.new w3 _ _) (hart_info hh.len) (by rw [Hart.cells_size hh.len]; rfl) (hart_one h) ?_; intro w4 hY hg4))
  try go_simp
  have hz4 := hg4.size
  simp only [World.size_alloc] at hz4
  have hb34 : Below w3.heap.size w3 w4 := ((Below.refl w3.heap.size w3).alloc (Nat.le_refl _) (.cells hart0.cells 51)).grown hg4 (by simp) (fun k hk => by cases hk; exact Nat.le_refl _)
  clear hg4
  have hAa := (hA.below (hbl.trans (hb34.mono hzw))).mono (by omega : w.heap.size ≤ w4.heap.size)
  have Hc := Lib.hid hAa.cells
  have hown0 := World.ownsRow_lit (base := w4.heap.size) (e := 5) (size := 1) w4 #[] 0 (Nat.le_refl _) (by unfold maxLen; omega) rfl
  go_upto_region 6 with (at_builtin; refine wpList_append_any rfl (.tmp 34) (.tmp 35) 32 rfl w4.heap.size 5 i0 _ 1 1 Try.underlying32 hi hz0 hz1 hz2 rfl (by decide) _ 0 [] rfl hown0 A m.length cap (m.map (.int .u8)) rfl (by simp) (fun hn => by obtain ⟨e1, e2⟩ := hnil hn; exact ⟨by rw [e1]; rfl, e2⟩) (fun ad hd j u hu => (World.cell?_alloc_lt _ _ _ (World.block_lt_of_cell? _ _ (Hc.out ad hd j u hu))).trans (Hc.out ad hd j u hu)) (ints_oneCell _ _) (by unfold maxLen; omega) (by omega) (by simp) ?_; intro v5 w5 hown5 hg5)
  try go_simp
  have hb45 : Below w4.heap.size w4 w5 := ((Below.refl _ _).alloc (Nat.le_refl _) _).grown hg5 (by simp) (fun k hk => by cases hk; exact Nat.le_refl _)
  replace hown5 : w5.ownsRow w4.heap.size 5 1 v5 m.length (m.map (.int .u8)) := by simpa using hown5
  obtain ⟨A5, c5, rfl⟩ := own_value hown5
  have hI5 := IntsAt.own hown5
  have hn5 : A5 = none → m = [] ∧ c5 = 0 := fun e => ⟨own_nil hown5 e, (own_none hown5 e).2⟩
  have hb35 := hb34.trans (hb45.mono hb34.size)
  have hY5 := hY.ext hb45
  clear hown5 hown0 hg5 hb45 hb34 Hc hAa hY hi hz0 hz1 hz2
  have hBX : w2.heap.size < w3.heap.size := hX.lt
  go_upto_region 7 with (fail)
  go_loopw [12, 13] (fun v12 v13 wr => ∃ (i : Nat) (An : Option Addr) (cn : Nat), v12 = .slice An m.length cn ∧ v13 = .int .i64 i ∧ i ≤ L.length ∧ Below w3.heap.size w3 wr ∧ Blk wr w3.heap.size 51 (runP i h m).2.1.cells ∧ IntsAt wr wr.heap.size .u8 An (runP i h m).2.2 ∧ Hid (An = none → (runP i h m).2.2 = [] ∧ cn = 0)) (fun _ v _ => L.length + 1 - (intOf v).toNat)
  case atStart => exact ⟨0, A5, c5, rfl, rfl, Nat.zero_le _, hb35, hY5, hI5, Lib.hid hn5⟩
  case round =>
    clear hb35 hY5 hI5 hn5
    obtain ⟨i, An, cn, rfl, rfl, hi, hb, hY, hI, Hn⟩ := hrel
    by_cases hlt : i < L.length
    · obtain ⟨hs, hcv, hnx⟩ := hnth.out i (L[i]'hlt) (List.getElem?_eq_getElem hlt)
      obtain ⟨hoi, hmi, _⟩ := hoki.out i
      obtain ⟨g, cur, hAL, hgB, hB, hsz, he⟩ := hCL.at_ hlt
      have hBr := hB.below hb hgB
      have hrep := replay_any (runP i h m).2.1 (L[i]'hlt) An cn (runP i h m).2.2
      rw [hcv] at hrep he
      have hcf := comP_fits (runP i h m).2.1 (runP i h m).2.2
      have hcw' := comP_wf hoi.hart hoi.bytes
      have hcp := comP_pc (runP i h m).2.1 (runP i h m).2.2
      have hgl9 := (hoi.next).hart.len
      have CG : ∀ W, IntsAt W W.heap.size .u8 An (runP i h m).2.2 → Calls Try.prog 38 #[.agg (runP i h m).2.1.cells, .slice An m.length cn, .agg (comP (runP i h m).2.1 (runP i h m).2.2).cells] W fun e w' => ∃ A2 c2, e = .returned (.tuple #[.agg (goH (runP i h m).2.1 (runP i h m).2.2).cells, .slice A2 m.length c2]) ∧ Below W.heap.size W w' ∧ IntsAt w' w'.heap.size .u8 A2 (goM (runP i h m).2.1 (runP i h m).2.2) ∧ Hid (A2 = none → goM (runP i h m).2.1 (runP i h m).2.2 = [] ∧ c2 = 0) := fun W hW => by
        have h1 := hrep W hoi.hart hcw' hcf (by omega) hW Hn.out
        rw [hmi] at h1
        refine h1.mono ?_
        rintro e w' ⟨A2, c2, rfl, hb2, ho⟩
        have hgm : (applyM (comP (runP i h m).2.1 (runP i h m).2.2) (runP i h m).2.2).length = m.length := (applyM_length _ _).trans hmi
        rw [hgm] at ho ⊢
        exact ⟨A2, c2, rfl, hb2, IntsAt.own ho, Lib.hid fun hn => ⟨own_nil ho hn, (own_none ho hn).2⟩⟩
      have CG := Lib.hid CG
      have pc0 : cur[i * 11]? = some (.int .u32 (runP i h m).2.1.pc) := by
        have := congrArg (fun a => a[0]?) he
        rw [Array.getElem?_extract, if_pos (by omega), Nat.add_zero] at this
        rw [this, ← hcp]
        rfl
      have y32 := (Hart.cells_pc hoi.hart.len).1
      have y33 := (Hart.cells_pc hoi.hart.len).2.1
      have hyl := hoi.hart.len
      rw [hs] at y33
      have hnx1 := congrArg (·.1) hnx
      have hnx2 := congrArg (·.2) hnx
      dsimp only at hnx1 hnx2
      have Hx1 := Lib.hid hnx1
      have Hx2 := Lib.hid hnx2
      clear hnx hnx1 hnx2 hrep hcf hcw' hcp hoi hs hcv Hn
      generalize comP (runP i h m).2.1 (runP i h m).2.2 = C at *
      generalize goH (runP i h m).2.1 (runP i h m).2.2 = y9 at *
      generalize goM (runP i h m).2.1 (runP i h m).2.2 = n9 at *
      generalize (runP i h m).2.1 = y at *
      generalize (runP i h m).2.2 = n at *
      have He := Lib.hid he
      clear he hmi
      subst hAL
      have t1 : decide ((i : Int) < (L.length : Int)) = true := decide_eq_true (by omega)
      have t2 : (y.pc != y.pc) = false := by simp
      generalize y.pc = ypc at *
      go_upto_region 9 with (fail)
      try go_simp
      clear t1
      refine wp_region_below (by kernel_rfl) (by kernel_rfl) ?_
      repeat' (first
        | refine wpMix_plain rfl ?_
        | (refine' wpMixW_quiet _ (fun wq hwq K hK => ?_) ?_ ?_
           rotate_left 1
           · (have k0 := ((hBr.ext hwq).cell (i * 11)).trans pc0; have k32 := ((hY.ext hwq).cell 32).trans y32; have k33 := ((hY.ext hwq).cell 33).trans y33
              go_wp2_with (fail)
              all_goals exact hK _ hwq)
           · rfl)
        | (refine wpMix_guardT rfl rfl rfl ?_ ?_ <;> intro hc <;> first | (cases hc; done) | ((try cases hc); simp only [Act.put, List.setIfInBounds_toArray, List.set_cons_succ, List.set_cons_zero]))
        | (refine wpMix_guardF rfl rfl rfl ?_ ?_ <;> intro hc <;> first | (cases hc; done) | ((try cases hc); simp only [Act.put, List.setIfInBounds_toArray, List.set_cons_succ, List.set_cons_zero]))
        | refine wpMix_guardU rfl rfl rfl ?_)
      all_goals
        refine wpMix_nil ?_
        intro w7 hw7
        have hY7 := hY.ext hw7
        have hI7 := (hI.below hw7).mono hw7.size
        have hB7 := hBr.ext hw7
        have hb7 := hb.trans (hw7.mono hb.size)
        clear hY hI hBr hw7
        go_upto_region 11 with (fail)
        try go_simp
        refine wp_region_ob 2974 33 3007 [0, 1, 2, 3, 4, 5, 6, 7, 8, 9, 10, 11] (by kernel_rfl) (by kernel_rfl) (by kernel_rfl) rfl ?_
        repeat' (first
          | refine wpO_plain rfl rfl ?_
          | (refine' wpOW_ever _ (by decide) (by decide) (fun wq K hK => ?_) ?_ ?_
             rotate_left 1
             · (go_wp2_with (fail)
                all_goals exact hK)
             · rfl)
          | (refine' wpOW_reads _ (by decide) (by decide) (by decide) (fun wq hwq K hK => ?_) ?_ ?_
             rotate_left 1
             · (skip
                first
                | ((first | (refine wp_load_all 51 _ rfl w3.heap.size rfl 51 _ _ (hY7.ext hwq) Try.underlying51 rfl (hart_info hyl) ?_; exact hK) | (refine wp_load_blk 54 _ rfl g (i * 11) rfl 54 cur 11 _ (hB7.ext hwq) Try.underlying54 rfl com_size hsz ?_; rw [He.out]; exact hK)))
                | (go_wp2_with (fail)
                   all_goals exact hK))
             · rfl)
          | (refine' wpOW_calls _ (by decide) (by decide) (by decide) (fun wq hwq K hK => ?_) ?_ ?_
             rotate_left 1
             · (skip
                first
                | ((first | (refine wp_load_all 51 _ rfl w3.heap.size rfl 51 _ _ (hY7.ext hwq) Try.underlying51 rfl (hart_info hyl) ?_; exact hK) | (refine wp_load_blk 54 _ rfl g (i * 11) rfl 54 cur 11 _ (hB7.ext hwq) Try.underlying54 rfl com_size hsz ?_; rw [He.out]; exact hK)))
                | (go_wp2_with (fail)
                   all_goals exact hK _ hwq))
             · rfl)
          | (refine wpO_guardT rfl rfl rfl rfl ?_ ?_ <;> intro hc <;> first | (cases hc; done) | ((try cases hc); simp only [Act.put, List.setIfInBounds_toArray, List.set_cons_succ, List.set_cons_zero]))
          | (refine wpO_guardF rfl rfl rfl rfl ?_ ?_ <;> intro hc <;> first | (cases hc; done) | ((try cases hc); simp only [Act.put, List.setIfInBounds_toArray, List.set_cons_succ, List.set_cons_zero]))
          | refine wpO_guardU rfl rfl rfl rfl ?_)
        refine wpOW_solo (by decide) (by decide) (by decide) (by kernel_rfl) (fun w1 hw1 K1 hK1 => ?_)
        have hI1 : IntsAt w1 w1.heap.size .u8 An n := by rw [hw1]; exact hI7.below (Below.refl _ _).drew
        have hY1 : Blk w1 w3.heap.size 51 y.cells := by rw [hw1]; exact hY7.ext (Below.refl _ _).drew
        have hb1 : Below w3.heap.size w3 w1 := by rw [hw1]; exact hb7.drew
        clear hw1 hI7 hY7 hB7 hb7
        go_wp2_with (go_at_call 38; (with_reducible refine (CG.out _ hI1).mono ?_); rintro e w8 ⟨A8, c8, rfl, hb8, hI8, Hn8⟩)
        refine hK1 _ _ (fun _ => True) trivial ?_
        simp only [Act.put, List.setIfInBounds_toArray, List.set_cons_succ, List.set_cons_zero]
        replace hY1 := hY1.ext hb8
        replace hb1 := hb1.trans (hb8.mono hb1.size)
        clear hK1 K1 hb8 hI1 CG
        repeat' (first
          | refine wpO_plain rfl rfl ?_
          | (refine' wpOW_ever _ (by decide) (by decide) (fun wq K hK => ?_) ?_ ?_
             rotate_left 1
             · (go_wp2_with (fail)
                all_goals exact hK)
             · rfl)
          | (refine' wpOW_reads _ (by decide) (by decide) (by decide) (fun wq hwq K hK => ?_) ?_ ?_
             rotate_left 1
             · (skip
                first
                | (fail)
                | (go_wp2_with (fail)
                   all_goals exact hK))
             · rfl)
          | (refine' wpOW_calls _ (by decide) (by decide) (by decide) (fun wq hwq K hK => ?_) ?_ ?_
             rotate_left 1
             · (skip
                first
                | (fail)
                | (go_wp2_with (fail)
                   all_goals exact hK _ hwq))
             · rfl)
          | (refine wpO_guardT rfl rfl rfl rfl ?_ ?_ <;> intro hc <;> first | (cases hc; done) | ((try cases hc); simp only [Act.put, List.setIfInBounds_toArray, List.set_cons_succ, List.set_cons_zero]))
          | (refine wpO_guardF rfl rfl rfl rfl ?_ ?_ <;> intro hc <;> first | (cases hc; done) | ((try cases hc); simp only [Act.put, List.setIfInBounds_toArray, List.set_cons_succ, List.set_cons_zero]))
          | refine wpO_guardU rfl rfl rfl rfl ?_)
        refine wpOW_solo (by decide) (by decide) (by decide) (by kernel_rfl) (fun w9 hw9 K1 hK1 => ?_)
        subst hw9
        refine wp_store_blk 51 _ _ rfl w3.heap.size 0 y9.cells rfl rfl 51 _ hY1 (hart_info hgl9) (by rw [Hart.cells_size hgl9, Hart.cells_size hyl]; decide) (hart_one y9) ?_
        intro w10 hY10 hg10
        rw [splice_whole _ _ (by rw [Hart.cells_size hgl9, Hart.cells_size hyl])] at hY10
        refine hK1 _ _ (fun _ => True) trivial ?_
        simp only [Act.put, List.setIfInBounds_toArray, List.set_cons_succ, List.set_cons_zero]
        have hI10 := (IntsAt.farRow hI8 (Nat.le_refl _) hg10 (ints_not_hart hI8 hY1)).mono hg10.size
        have hb10 := below_grown hb1 hg10 hb1.size (Nat.le_refl _)
        rw [← Hx1.out] at hY10
        rw [← Hx2.out] at hI10 Hn8
        clear hK1 K1 hg10 hI8 hY1 hb1
        repeat' (first
          | refine wpO_plain rfl rfl ?_
          | (refine' wpOW_ever _ (by decide) (by decide) (fun wq K hK => ?_) ?_ ?_
             rotate_left 1
             · (go_wp2_with (fail)
                all_goals exact hK)
             · rfl)
          | (refine' wpOW_reads _ (by decide) (by decide) (by decide) (fun wq hwq K hK => ?_) ?_ ?_
             rotate_left 1
             · (skip
                first
                | (fail)
                | (go_wp2_with (fail)
                   all_goals exact hK))
             · rfl)
          | (refine' wpOW_calls _ (by decide) (by decide) (by decide) (fun wq hwq K hK => ?_) ?_ ?_
             rotate_left 1
             · (skip
                first
                | (fail)
                | (go_wp2_with (fail)
                   all_goals exact hK _ hwq))
             · rfl)
          | (refine wpO_guardT rfl rfl rfl rfl ?_ ?_ <;> intro hc <;> first | (cases hc; done) | ((try cases hc); simp only [Act.put, List.setIfInBounds_toArray, List.set_cons_succ, List.set_cons_zero]))
          | (refine wpO_guardF rfl rfl rfl rfl ?_ ?_ <;> intro hc <;> first | (cases hc; done) | ((try cases hc); simp only [Act.put, List.setIfInBounds_toArray, List.set_cons_succ, List.set_cons_zero]))
          | refine wpO_guardU rfl rfl rfl rfl ?_)
        refine wpO_nil ?_
        rintro w11 rfl
        go_wp2
        go_roundw
        case rel => exact ⟨i + 1, A8, c8, rfl, by go_num, by omega, hb10, hY10, hI10, Hn8⟩
        case measure => simp [intOf]; omega
    · obtain rfl : i = L.length := by omega
      rw [hlast.out] at hY hI Hn
      dsimp only at hY hI Hn
      have t1 : decide ((L.length : Int) < (L.length : Int)) = false := by simp
      have t3 : decide ((L.length : Int) ≤ (N : Int)) = true := decide_eq_true (by omega)
      have hXr := hX.below hb hBX
      have hIMr := (hIM.below hb).mono (by have := hb.size; omega : w3.heap.size ≤ wr.heap.size)
      have hbw := hbl.trans (hb.mono hzw)
      have hn9 : An = none → M = [] := fun e => (Hn.out e).1
      clear Hn hlt hi
      by_cases hLN : L.length = N
      · have t4 : ((L.length : Int) == (N : Int)) = true := by rw [hLN]; simp
        clear hLN
        go_wp2_with (first
          | (refine wpList_wanted rfl fun K hK => ?_; first
            | (refine wp_load_all 51 _ rfl w2.heap.size rfl 51 _ _ hXr Try.underlying51 rfl (hart_info hxl) ?_; refine hK _ _ ?_)
            | (refine wp_load_all 51 _ rfl w3.heap.size rfl 51 _ _ hY Try.underlying51 rfl (hart_info hxl) ?_; refine hK _ _ ?_)
            | (refine wp_eql_self 51 _ _ _ rfl X.cells rfl rfl hart_guard (EH.out _) ?_; refine hK _ _ ?_))
          | (go_at_call 37; (with_reducible refine (bytes_same_n A2 An c2 cn M m.length _ wr.heap.size wr.heap.size HML.out hIMr hN2 hI hn9).mono ?_); rintro e w8 ⟨rfl, rfl⟩))
        go_ret
        exact ⟨rfl, hbw⟩
      · have t4 : ((L.length : Int) == (N : Int)) = false := by simp; omega
        have t5 : (X.state != 0) = true := by simpa using HST.out.resolve_left hLN
        have k33 := (hXr.cell 33).trans px
        clear hLN
        go_wp2_with (first
          | (refine wpList_wanted rfl fun K hK => ?_; first
            | (refine wp_load_all 51 _ rfl w2.heap.size rfl 51 _ _ hXr Try.underlying51 rfl (hart_info hxl) ?_; refine hK _ _ ?_)
            | (refine wp_load_all 51 _ rfl w3.heap.size rfl 51 _ _ hY Try.underlying51 rfl (hart_info hxl) ?_; refine hK _ _ ?_)
            | (refine wp_eql_self 51 _ _ _ rfl X.cells rfl rfl hart_guard (EH.out _) ?_; refine hK _ _ ?_))
          | (go_at_call 37; (with_reducible refine (bytes_same_n A2 An c2 cn M m.length _ wr.heap.size wr.heap.size HML.out hIMr hN2 hI hn9).mono ?_); rintro e w8 ⟨rfl, rfl⟩))
        go_ret
        exact ⟨rfl, hbw⟩
end Go.Proofs.Ytapgojgcmlnbgab
