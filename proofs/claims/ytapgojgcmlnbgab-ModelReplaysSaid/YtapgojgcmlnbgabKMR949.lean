/- humpyardref5.Play, of what may be. -/
import Derived.Test.YtapgojgcmlnbgabKMR948
import Derived.Test.YtapgojgcmlnbgabKHS943
import Derived.Test.YtapgojgcmlnbgabKHS942
set_option linter.unusedSimpArgs false
set_option linter.unusedVariables false

namespace Go.Proofs.Ytapgojgcmlnbgab
open Go.RowKit

/-- What Play hands back. -/
def PlayPost (w : World) (n : Nat) (R : List Com × Hart × List Int) (e : Ending) (w' : World) : Prop :=
  ∃ AL cL A2 c2, e = .returned (.tuple #[.slice AL R.1.length cL, .agg R.2.1.cells, .slice A2 n c2]) ∧ Below w.heap.size w w' ∧
      w'.ownsRow w.heap.size 54 11 (.slice AL R.1.length cL) R.1.length (comsV R.1) ∧ IntsAt w' w'.heap.size .u8 A2 R.2.2 ∧ (A2 = none → R.2.2 = [])
theorem IntsAt.farRow {w w' : World} {B : Nat} {row : Option Nat} {k : IntKind} {A : Option Addr} {l : List Int} (h : IntsAt w B k A l) (hB : B ≤ w.heap.size) (hg : w.grownBy w' row) (hA : l ≠ [] → ∀ ad, A = some ad → row ≠ some ad.block) : IntsAt w' B k A l := fun hne => by
  obtain ⟨b, o, h1, h2, h3⟩ := h hne
  have hb := hA hne _ h1
  refine ⟨b, o, h1, h2, fun i v hi => ?_⟩
  rw [World.cell?_of_block (hg.block b (Nat.lt_of_lt_of_le h2 hB) (fun e => hb e.symm)), h3 i v hi]
theorem hart_kind (h : Hart) (i : Nat) (v : Value) (hi : h.cells[i]? = some v) (x : Int) : v ≠ .int .u8 x := by
  intro e
  subst e
  have hm : (Value.int .u8 x) ∈ h.cells.toList := by
    rw [← Array.getElem?_toList] at hi
    exact List.mem_of_getElem? hi
  rw [hart_cells_list] at hm
  simp at hm
theorem ints_not_hart {w : World} {B g : Nat} {A : Option Addr} {l : List Int} {t : TypeId} {h : Hart} (hM : IntsAt w B .u8 A l) (hB : Blk w g t h.cells) : l ≠ [] → ∀ ad, A = some ad → some g ≠ some ad.block := by
  intro hne ad hA e
  injection e with e
  obtain ⟨b, o, h1, h2, h3⟩ := hM hne
  rw [h1] at hA
  cases hA
  dsimp only at e
  subst e
  have h0 : 0 < l.length := List.length_pos_iff.2 hne
  have hc := h3 0 (l[0]'h0) (List.getElem?_eq_getElem h0)
  rw [hB.cell] at hc
  exact hart_kind h _ _ hc _ rfl
theorem may_cause {h : Hart} (hm : mayH h = true) (hs : h.state = 0) : h.cause = 0 := by unfold mayH at hm; simp at hm; omega
set_option maxRecDepth 100000 in
set_option maxHeartbeats 4000000 in
theorem play_any (h : Hart) (A : Option Addr) (cap : Nat) (m : List Int) (steps : Int) (w : World) (hh : h.Wf) (hmay : mayH h = true) (hl : m.length ≤ 140737488351232) (hm : Bytes m) (hA : IntsAt w w.heap.size .u8 A m) (hnil : A = none → m = []) (hs0 : 0 ≤ steps) (hs1 : steps ≤ 1000000) :
    Calls Try.prog 41 #[.agg h.cells, .slice A m.length cap, .int .i64 steps] w (PlayPost w m.length (runP steps.toNat h m)) := by
  obtain ⟨N, rfl⟩ := Int.eq_ofNat_of_zero_le hs0
  rw [Int.toNat_natCast]
  obtain ⟨R, hRn⟩ : ∃ R, runP N h m = R := ⟨_, rfl⟩
  have hrun : RunOk h m ∧ m.length = m.length ∧ runP N h m = ([] ++ (runP (N - 0) h m).1, (runP (N - 0) h m).2) := ⟨⟨hh, hmay, hm⟩, rfl, by simp⟩
  rw [hRn] at hrun ⊢
  clear hRn hmay
  obtain ⟨i0, hi, hz0, hz1, hz2⟩ := info_parts coms_info
  go_enter Try.func41, Try.ntmps41
  go_upto_region 1 with (fail)
  go_simp
  refine wp_gen fun wa hq => ?_
  have hH : Blk wa w.heap.size 51 h.cells := by rw [hq]; exact (Blk.new w _ _).alloc _
  have hR : Blk wa (w.heap.size + 1) 51 hart0.cells := by rw [hq]; exact Blk.newAt (w.alloc _) 51 _ (by simp)
  have hbl : Below w.heap.size w wa := by rw [hq]; exact ((Below.refl _ _).alloc (Nat.le_refl _) _).alloc (by simp) _
  clear hq
  have hA3 := (hA.below hbl).mono hbl.size
  have HRUN := Lib.hid hrun
  clear hrun
  obtain ⟨B2, hB2⟩ : ∃ B2, B2 = wa.heap.size := ⟨_, rfl⟩
  have hB2' : B2 ≤ wa.heap.size := by omega
  have hB22 : w.heap.size + 2 ≤ B2 := by have := hR.lt; omega
  clear hB2
  go_upto_region 3 with (fail)
  go_loopw [1, 9, 10] (fun v1 v9 v10 wr => ∃ (k : Nat) (AL : Option Addr) (cL : Nat) (A3 : Option Addr) (cap3 : Nat) (ls : List Com) (h' : Hart) (m' : List Int), v1 = .slice A3 m.length cap3 ∧ v9 = .slice AL k cL ∧ v10 = .int .i64 k ∧ k ≤ N ∧ Below w.heap.size w wr ∧ Blk wr w.heap.size 51 h'.cells ∧ Blk wr (w.heap.size + 1) 51 hart0.cells ∧ IntsAt wr wr.heap.size .u8 A3 m' ∧ (A3 = none → m' = []) ∧ (m' ≠ [] → ∀ ad, A3 = some ad → (Value.slice AL k cL).ownBlock ≠ some ad.block) ∧ wr.ownsRow B2 54 11 (.slice AL k cL) k (comsV ls) ∧ B2 ≤ wr.heap.size ∧ Hid (RunOk h' m' ∧ m'.length = m.length ∧ R = (ls ++ (runP (N - k) h' m').1, (runP (N - k) h' m').2))) (fun _ _ v _ => N + 1 - (intOf v).toNat)
  case atStart => exact ⟨0, none, 0, A, cap, [], h, m, rfl, rfl, rfl, Nat.zero_le _, hbl, hH, hR, hA3, hnil, (fun _ _ _ e => by cases e), World.ownsRow_nil _ _ _ _, hB2', Lib.hid ⟨HRUN.out.1, rfl, HRUN.out.2.2⟩⟩
  case round =>
    clear hbl hH hR hA3 hB2' HRUN
    obtain ⟨k, AL, cL, A3, cap3, ls, h', m', rfl, rfl, rfl, hk, hb, hH, hR, hM, hN, hMp, hL, hB2', Hrel⟩ := hrel
    obtain ⟨hok, hml, Hr⟩ := Hrel.out
    clear Hrel
    have c33 := (hH.cell 33).trans (Hart.cells_pc hok.hart.len).2.1
    by_cases hlt : k < N
    · have t1 : decide ((k : Int) < (N : Int)) = true := decide_eq_true (by omega)
      by_cases hst : h'.state = 0
      · have t2 : (h'.state == 0) = true := by simpa using hst
        have hnx := hok.next
        rw [show N - k = (N - (k + 1)) + 1 by omega, runP_step hst] at Hr
        have hml2 : (goM h' m').length = m.length := (applyM_length _ _).trans hml
        have CG : Calls Try.prog 36 #[.agg h'.cells, .slice A3 m.length cap3] wr fun e w' => ∃ A2 c2, e = .returned (.agg (didC (comP h' m') (goH h' m') (.slice A2 m.length c2))) ∧ Below wr.heap.size wr w' ∧ IntsAt w' w'.heap.size .u8 A2 (goM h' m') ∧ (A2 = none → goM h' m' = []) ∧ ((∀ ad, A2 = some ad → wr.heap.size ≤ ad.block) ∨ A2 = A3) := by
          have := rstep_any h' A3 cap3 m' wr hok.hart hst (may_cause hok.may hst) (by omega) hok.bytes hM hN
          unfold RPost at this
          rw [hml] at this
          exact this
        have CG := Lib.hid CG
        have hhl := hok.hart.len
        have hhl9 := hnx.hart.len
        generalize comP h' m' = C at *
        generalize goH h' m' = h9 at *
        generalize goM h' m' = m9 at *
        obtain ⟨HR, hHR⟩ : ∃ HR, HR = runP (N - (k + 1)) h9 m9 := ⟨_, rfl⟩
        rw [← hHR] at Hr
        have Hnew : Hid (RunOk h9 m9 ∧ m9.length = m.length ∧ R = ((ls ++ [C]) ++ (runP (N - (k + 1)) h9 m9).1, (runP (N - (k + 1)) h9 m9).2)) := Lib.hid ⟨hnx, hml2, by rw [Hr, ← hHR]; simp⟩
        clear Hr hHR HR hnx hml2 hok hst
        go_upto_region 5 with (fail)
        try go_simp
        clear c33 t1 t2
        go_upto_region 6 with (first
          | (refine wpList_load_all rfl 51 _ rfl w.heap.size rfl 51 _ _ hH Try.underlying51 rfl (hart_info hhl) ?_)
          | (go_at_call 36; (with_reducible refine CG.out.mono ?_); rintro e w7 ⟨A7, c7, rfl, hb7, hM7, hN7, hW7⟩)
          | (refine wpList_store_all rfl 58 _ _ rfl w7.heap.size (didC C h9 (.slice A7 m.length c7)) rfl rfl 58 _ (Blk.new w7 _ _) (by rw [didC_size hhl9]; exact did_typeInfo) (by rw [didC_size hhl9]; rfl) (did_one C h9 rfl) ?_; intro w8 hD hg8))
        try go_simp
        have hz7 := hb7.size
        have hz8 := hg8.size
        simp only [World.size_alloc] at hz8
        have hb8 : Below wr.heap.size wr w8 := below_grown (hb7.alloc hb7.size (.cells did00 58)) hg8 (by simp; omega) hz7
        have hM8 : IntsAt w8 w7.heap.size .u8 A7 m9 := hM7.below (((Below.refl w7.heap.size w7).alloc (Nat.le_refl _) (.cells did00 58)).grown hg8 (by simp) (fun k hk => by cases hk; exact Nat.le_refl _))
        replace hH := hH.ext hb8
        replace hR := hR.ext hb8
        replace hb := hb.trans (hb8.mono hb.size)
        have hL8 := own_keep hL hb8
        have hzl : ∀ j, (Value.slice AL k cL).ownBlock = some j → B2 ≤ j ∧ j < wr.heap.size := fun j hj => hL.lt j hj
        have hne' : m9 ≠ [] → m' ≠ [] := fun h e => h (List.eq_nil_of_length_eq_zero (by rw [Hnew.out.2.1, ← hml, e]; rfl))
        have hMp7 : m9 ≠ [] → ∀ ad, A7 = some ad → (Value.slice AL k cL).ownBlock ≠ some ad.block := fun hne ad hA e => by
          rcases hW7 with hW7 | rfl
          · have := hW7 ad hA; have := (hzl _ e).2; omega
          · exact hMp (hne' hne) ad hA e
        clear hMp hne' hW7
        clear hb7 hM7 hg8 hb8 hL CG hM hN
        have hDm := did_mem C h9 (.slice A7 m.length c7) hhl9
        have hDs := didC_size (c := C) (v := .slice A7 m.length c7) hhl9
        have hD0 := did_com C h9 (.slice A7 m.length c7)
        have hD1 := did_hart C h9 (.slice A7 m.length c7) hhl9
        generalize didC C h9 (.slice A7 m.length c7) = D at *
        have HD0 := Lib.hid hD0
        have HD1 := Lib.hid hD1
        have HDs := Lib.hid hDs
        have HDm := Lib.hid hDm
        clear hD0 hD1 hDs
        go_upto_region 7 with (first
          | (refine wpList_load_blk rfl 54 _ rfl w7.heap.size 0 rfl 58 D 11 _ hD Try.underlying54 rfl com_size (by rw [HDs.out]; omega) ?_; rw [HD0.out])
          | (at_builtin; refine wpList_append_at rfl (.tmp 25) (.tmp 28) 64 rfl B2 54 i0 _ 11 64 Try.underlying64 hi hz0 hz1 hz2 rfl (by decide) (.slice AL k cL) k (comsV ls) rfl (hL8.alloc _) ⟨w8.heap.size, 0, none⟩ 1 1 C.cells.toList rfl (com_len C) (lit_cells w8 C.cells _ _ rfl) (fun u hu => comsV_oneCell [C] u (by rw [comsV_one]; exact hu)) (by unfold maxLen; omega) (by omega) (by simp; omega) ?_; intro v9 w9 hL9 hg9 hW9))
        try go_simp
        have hz9 := hg9.size
        simp only [World.size_alloc] at hz9
        rw [← comsV_one C, ← comsV_append] at hL9
        obtain ⟨A9, cap9, rfl⟩ := own_value hL9
        have hH9 := (hH.alloc (.cells C.cells 54)).grown hg9 (fun e => by have := (hzl _ e.symm).1; omega)
        have hR9 := (hR.alloc (.cells C.cells 54)).grown hg9 (fun e => by have := (hzl _ e.symm).1; omega)
        have hD9 := (hD.alloc (.cells C.cells 54)).grown hg9 (fun e => by have := (hzl _ e.symm).2; omega)
        have hb9 := (hb.alloc hb.size (.cells C.cells 54)).grown hg9 (by have := hb.size; simp; omega) (fun j hj => by have := (hzl j hj).1; omega)
        have hM9 : IntsAt w9 w7.heap.size .u8 A7 m9 := IntsAt.farRow (hM8.below ((Below.refl w7.heap.size w8).alloc (by omega) (.cells C.cells 54))) (by simp; omega) hg9 hMp7
        have hMp9 : m9 ≠ [] → ∀ ad, A7 = some ad → (Value.slice A9 (k + 1) cap9).ownBlock ≠ some ad.block := fun hne ad hA e => by
          rcases hW9 with hW9 | hW9
          · exact hMp7 hne ad hA (hW9.symm.trans e)
          · have h1 := hW9 _ e
            obtain ⟨b, o, h2, h3, _⟩ := hM8 hne
            rw [hA] at h2
            injection h2 with h2
            subst h2
            simp at h1
            omega
        clear hH hR hD hb hM8 hL8 hg9 hMp7 hW9 hDm
        go_upto_region 8 with (first
          | (refine wpList_load_blk rfl 51 _ rfl w7.heap.size 11 rfl 58 D 35 _ hD9 Try.underlying51 rfl ((hart_info hhl9).trans (by rw [Hart.cells_size hhl9])) (by rw [HDs.out]; omega) ?_; rw [HD1.out])
          | (refine wpList_store_all rfl 51 _ _ rfl w.heap.size h9.cells rfl rfl 51 _ hH9 (hart_info hhl9) (by rw [Hart.cells_size hhl9, Hart.cells_size hhl]) (hart_one h9) ?_; intro w10 hH10 hg10))
        try go_simp
        have hz10 := hg10.size
        have hM10 := IntsAt.farRow hM9 (by omega) hg10 (ints_not_hart hM9 hH9)
        have hL10 := own_far hL9 hg10 (by omega)
        have hR10 := hR9.grown hg10 (fun e => by injection e; omega)
        have hD10 := hD9.grown hg10 (fun e => by injection e; omega)
        have hb10 := below_grown hb9 hg10 (by have := hb9.size; omega) (Nat.le_refl _)
        have c46 := (hD10.cell 46).trans HDm.out
        clear hH9 hR9 hD9 hb9 hM9 hL9 hg10 hD10
        go_wp2
        go_roundw
        case rel => exact ⟨k + 1, A9, cap9, A7, c7, ls ++ [C], h9, m9, rfl, rfl, by go_num, by omega, hb10, hH10, hR10, hM10.mono (by omega), hN7, hMp9, hL10, by omega, Hnew⟩
        case measure => simp [intOf]; omega
      · have t2 : (h'.state == 0) = false := by simpa using hst
        have hfin : (ls ++ (runP (N - k) h' m').1, (runP (N - k) h' m').2) = (ls, h', m') := by rw [runP_stop hst]; simp
        clear hst
        have hMA := ints_not_hart hM hR
        rw [hfin] at Hr
        have HF := Lib.hid Hr
        clear Hr
        have hhl := hok.hart.len
        go_upto_region 9 with (fail)
        try go_simp
        refine wp_region_ob 45 2 47 [0, 1, 2, 3, 4, 5] (by kernel_rfl) (by kernel_rfl) (by kernel_rfl) rfl ?_
        repeat' (first
          | refine wpO_plain rfl rfl ?_
          | (refine' wpOW_ever _ (by decide) (by decide) (fun wq K hK => ?_) ?_ ?_
             rotate_left 1
             · (go_wp2_with (fail)
                all_goals exact hK)
             · rfl)
          | (refine' wpOW_reads _ (by decide) (by decide) (by decide) (fun wq hwq K hK => ?_) ?_ ?_
             rotate_left 1
             · (skip
                first
                | ((refine wp_load_all 51 _ rfl w.heap.size rfl 51 _ _ (hH.ext hwq) Try.underlying51 rfl (hart_info hhl) ?_; exact hK))
                | (go_wp2_with (fail)
                   all_goals exact hK))
             · rfl)
          | (refine' wpOW_calls _ (by decide) (by decide) (by decide) (fun wq hwq K hK => ?_) ?_ ?_
             rotate_left 1
             · (skip
                first
                | ((refine wp_load_all 51 _ rfl w.heap.size rfl 51 _ _ (hH.ext hwq) Try.underlying51 rfl (hart_info hhl) ?_; exact hK))
                | (go_wp2_with (fail)
                   all_goals exact hK _ hwq))
             · rfl)
          | (refine wpO_guardT rfl rfl rfl rfl ?_ ?_ <;> intro hc <;> first | (cases hc; done) | ((try cases hc); simp only [Act.put, List.setIfInBounds_toArray, List.set_cons_succ, List.set_cons_zero]))
          | (refine wpO_guardF rfl rfl rfl rfl ?_ ?_ <;> intro hc <;> first | (cases hc; done) | ((try cases hc); simp only [Act.put, List.setIfInBounds_toArray, List.set_cons_succ, List.set_cons_zero]))
          | refine wpO_guardU rfl rfl rfl rfl ?_)
        refine wpOW_solo (by decide) (by decide) (by decide) (by kernel_rfl) (fun w1 hw1 K1 hK1 => ?_)
        have hR1 : Blk w1 (w.heap.size + 1) 51 hart0.cells := by rw [hw1]; exact hR.ext (Below.refl _ _).drew
        have hM1 : IntsAt w1 wr.heap.size .u8 A3 m' := by rw [hw1]; exact hM.below (Below.refl _ _).drew
        have hL1 := own_keep hL (w' := w1) (by rw [hw1]; exact (Below.refl _ _).drew)
        have hb1 : Below w.heap.size w w1 := by rw [hw1]; exact hb.drew
        have hz1 : wr.heap.size ≤ w1.heap.size := by rw [hw1]; exact Nat.le_refl _
        clear hw1
        refine wp_store_blk 51 _ _ rfl (w.heap.size + 1) 0 h'.cells rfl rfl 51 _ hR1 (hart_info hhl) (by rw [Hart.cells_size hhl]; decide) (hart_one h') ?_
        intro w2 hB2 hg2
        rw [splice_whole _ _ (by rw [Hart.cells_size hhl]; rfl)] at hB2
        refine hK1 _ _ (fun _ => True) trivial ?_
        simp only [Act.put, List.setIfInBounds_toArray, List.set_cons_succ, List.set_cons_zero]
        repeat' (first
          | refine wpO_plain rfl rfl ?_
          | (refine' wpOW_ever _ (by decide) (by decide) (fun wq K hK => ?_) ?_ ?_
             rotate_left 1
             · (go_wp2_with (fail)
                all_goals exact hK)
             · rfl)
          | (refine' wpOW_reads _ (by decide) (by decide) (by decide) (fun wq hwq K hK => ?_) ?_ ?_
             rotate_left 1
             · (skip
                first
                | (fail)
                | (go_wp2_with (fail)
                   all_goals exact hK))
             · rfl)
          | (refine' wpOW_calls _ (by decide) (by decide) (by decide) (fun wq hwq K hK => ?_) ?_ ?_
             rotate_left 1
             · (skip
                first
                | (fail)
                | (go_wp2_with (fail)
                   all_goals exact hK _ hwq))
             · rfl)
          | (refine wpO_guardT rfl rfl rfl rfl ?_ ?_ <;> intro hc <;> first | (cases hc; done) | ((try cases hc); simp only [Act.put, List.setIfInBounds_toArray, List.set_cons_succ, List.set_cons_zero]))
          | (refine wpO_guardF rfl rfl rfl rfl ?_ ?_ <;> intro hc <;> first | (cases hc; done) | ((try cases hc); simp only [Act.put, List.setIfInBounds_toArray, List.set_cons_succ, List.set_cons_zero]))
          | refine wpO_guardU rfl rfl rfl rfl ?_)
        refine wpO_nil ?_
        rintro w3 rfl
        go_wp2
        refine bodyPost_ret (results_tct (x := .slice AL k cL) (y := .slice A3 m.length cap3) rfl rfl rfl rfl (hart_load hhl hB2)) rfl ?_
        have e1 := congrArg (·.1) HF.out
        have e2 := congrArg (·.2.1) HF.out
        have e3 := congrArg (·.2.2) HF.out
        dsimp only at e1 e2 e3
        refine ⟨AL, cL, A3, cap3, ?_, below_grown hb1 hg2 hb1.size (by omega), ?_, ?_, ?_⟩
        · rw [e1, e2, ← ComsAt.len hL1]
        · rw [e1, ← ComsAt.len hL1]
          exact own_mono (own_far hL1 hg2 (by omega)) (by omega)
        · rw [e3]
          exact (IntsAt.farRow hM1 hz1 hg2 hMA).mono (Nat.le_trans hz1 hg2.size)
        · rw [e3]; exact hN
    · obtain rfl : k = N := by omega
      have t1 : decide ((k : Int) < (k : Int)) = false := by simp
      have hfin : (ls ++ (runP (k - k) h' m').1, (runP (k - k) h' m').2) = (ls, h', m') := by rw [Nat.sub_self]; simp [runP]
      have hMA := ints_not_hart hM hR
      rw [hfin] at Hr
      have HF := Lib.hid Hr
      clear Hr
      have hhl := hok.hart.len
      go_upto_region 9 with (fail)
      try go_simp
      refine wp_region_ob 45 2 47 [0, 1, 2, 3, 4, 5] (by kernel_rfl) (by kernel_rfl) (by kernel_rfl) rfl ?_
      repeat' (first
        | refine wpO_plain rfl rfl ?_
        | (refine' wpOW_ever _ (by decide) (by decide) (fun wq K hK => ?_) ?_ ?_
           rotate_left 1
           · (go_wp2_with (fail)
              all_goals exact hK)
           · rfl)
        | (refine' wpOW_reads _ (by decide) (by decide) (by decide) (fun wq hwq K hK => ?_) ?_ ?_
           rotate_left 1
           · (skip
              first
              | ((refine wp_load_all 51 _ rfl w.heap.size rfl 51 _ _ (hH.ext hwq) Try.underlying51 rfl (hart_info hhl) ?_; exact hK))
              | (go_wp2_with (fail)
                 all_goals exact hK))
           · rfl)
        | (refine' wpOW_calls _ (by decide) (by decide) (by decide) (fun wq hwq K hK => ?_) ?_ ?_
           rotate_left 1
           · (skip
              first
              | ((refine wp_load_all 51 _ rfl w.heap.size rfl 51 _ _ (hH.ext hwq) Try.underlying51 rfl (hart_info hhl) ?_; exact hK))
              | (go_wp2_with (fail)
                 all_goals exact hK _ hwq))
           · rfl)
        | (refine wpO_guardT rfl rfl rfl rfl ?_ ?_ <;> intro hc <;> first | (cases hc; done) | ((try cases hc); simp only [Act.put, List.setIfInBounds_toArray, List.set_cons_succ, List.set_cons_zero]))
        | (refine wpO_guardF rfl rfl rfl rfl ?_ ?_ <;> intro hc <;> first | (cases hc; done) | ((try cases hc); simp only [Act.put, List.setIfInBounds_toArray, List.set_cons_succ, List.set_cons_zero]))
        | refine wpO_guardU rfl rfl rfl rfl ?_)
      refine wpOW_solo (by decide) (by decide) (by decide) (by kernel_rfl) (fun w1 hw1 K1 hK1 => ?_)
      have hR1 : Blk w1 (w.heap.size + 1) 51 hart0.cells := by rw [hw1]; exact hR.ext (Below.refl _ _).drew
      have hM1 : IntsAt w1 wr.heap.size .u8 A3 m' := by rw [hw1]; exact hM.below (Below.refl _ _).drew
      have hL1 := own_keep hL (w' := w1) (by rw [hw1]; exact (Below.refl _ _).drew)
      have hb1 : Below w.heap.size w w1 := by rw [hw1]; exact hb.drew
      have hz1 : wr.heap.size ≤ w1.heap.size := by rw [hw1]; exact Nat.le_refl _
      clear hw1
      refine wp_store_blk 51 _ _ rfl (w.heap.size + 1) 0 h'.cells rfl rfl 51 _ hR1 (hart_info hhl) (by rw [Hart.cells_size hhl]; decide) (hart_one h') ?_
      intro w2 hB2 hg2
      rw [splice_whole _ _ (by rw [Hart.cells_size hhl]; rfl)] at hB2
      refine hK1 _ _ (fun _ => True) trivial ?_
      simp only [Act.put, List.setIfInBounds_toArray, List.set_cons_succ, List.set_cons_zero]
      repeat' (first
        | refine wpO_plain rfl rfl ?_
        | (refine' wpOW_ever _ (by decide) (by decide) (fun wq K hK => ?_) ?_ ?_
           rotate_left 1
           · (go_wp2_with (fail)
              all_goals exact hK)
           · rfl)
        | (refine' wpOW_reads _ (by decide) (by decide) (by decide) (fun wq hwq K hK => ?_) ?_ ?_
           rotate_left 1
           · (skip
              first
              | (fail)
              | (go_wp2_with (fail)
                 all_goals exact hK))
           · rfl)
        | (refine' wpOW_calls _ (by decide) (by decide) (by decide) (fun wq hwq K hK => ?_) ?_ ?_
           rotate_left 1
           · (skip
              first
              | (fail)
              | (go_wp2_with (fail)
                 all_goals exact hK _ hwq))
           · rfl)
        | (refine wpO_guardT rfl rfl rfl rfl ?_ ?_ <;> intro hc <;> first | (cases hc; done) | ((try cases hc); simp only [Act.put, List.setIfInBounds_toArray, List.set_cons_succ, List.set_cons_zero]))
        | (refine wpO_guardF rfl rfl rfl rfl ?_ ?_ <;> intro hc <;> first | (cases hc; done) | ((try cases hc); simp only [Act.put, List.setIfInBounds_toArray, List.set_cons_succ, List.set_cons_zero]))
        | refine wpO_guardU rfl rfl rfl rfl ?_)
      refine wpO_nil ?_
      rintro w3 rfl
      go_wp2
      refine bodyPost_ret (results_tct (x := .slice AL k cL) (y := .slice A3 m.length cap3) rfl rfl rfl rfl (hart_load hhl hB2)) rfl ?_
      have e1 := congrArg (·.1) HF.out
      have e2 := congrArg (·.2.1) HF.out
      have e3 := congrArg (·.2.2) HF.out
      dsimp only at e1 e2 e3
      refine ⟨AL, cL, A3, cap3, ?_, below_grown hb1 hg2 hb1.size (by omega), ?_, ?_, ?_⟩
      · rw [e1, e2, ← ComsAt.len hL1]
      · rw [e1, ← ComsAt.len hL1]
        exact own_mono (own_far hL1 hg2 (by omega)) (by omega)
      · rw [e3]
        exact (IntsAt.farRow hM1 hz1 hg2 hMA).mono (Nat.le_trans hz1 hg2.size)
      · rw [e3]; exact hN
end Go.Proofs.Ytapgojgcmlnbgab

/- ModelRuns, walked. -/
namespace Go.Proofs.Ytapgojgcmlnbgab
open Go.RowKit

theorem bytes_same_n (A A' : Option Addr) (cap cap' : Nat) (m : List Int) (n : Nat) (w : World) (B B' : Nat) (hn : m.length = n) (hA : IntsAt w B .u8 A m) (hnil : A = none → m = []) (hA' : IntsAt w B' .u8 A' m) (hnil' : A' = none → m = []) :
    Calls Try.prog 37 #[.slice A n cap, .slice A' n cap'] w fun e w' => e = .returned (.bool true) ∧ w = w' := by
  subst hn
  exact bytes_same A A' cap cap' m w B B' hA hnil hA' hnil'
set_option maxHeartbeats 2000000 in
set_option maxRecDepth 100000 in
theorem modelRuns_no (h : Hart) (A : Option Addr) (cap : Nat) (m : List Int) (steps : Int) (w : World) (hh : h.Wf) (hl : m.length ≤ 140737488351232) (s0 : -9223372036854775808 ≤ steps) (s1 : steps ≤ 9223372036854775807) (hno : wrongP h m steps ≠ 0) :
    Calls Try.prog 12 #[.agg h.cells, .slice A m.length cap, .int .i64 steps] w fun e w' => e = .returned (.bool true) ∧ Below w.heap.size w w' := by
  have CR := Lib.hid (fun W => run_no h A cap m steps W hh hl s0 s1 hno)
  have CW := Lib.hid (fun W => mwrong_any h A cap m steps W hh hl s0 s1)
  generalize wrongP h m steps = X at *
  have e1 : (X == X) = true := by simp
  have e2 : (X != 0) = true := by simpa using hno
  clear hno
  go_enter Try.func12, Try.ntmps12
  go_upto_region 1 with (fail)
  go_simp
  refine wp_gen fun wa hq => ?_
  have hH : Blk wa w.heap.size 51 h.cells := by rw [hq]; exact Blk.new w _ _
  have hbl : Below w.heap.size w wa := by rw [hq]; exact (Below.refl _ _).alloc (Nat.le_refl _) _
  clear hq
  go_upto_region 2 with (first
    | (refine wpList_load_all rfl 51 _ rfl w.heap.size rfl 51 _ _ hH Try.underlying51 rfl (hart_info hh.len) ?_)
    | (go_at_call 39; (with_reducible refine (CR.out _).mono ?_); rintro e w2 ⟨rfl, hb2⟩; replace hbl := hbl.trans (hb2.mono hbl.size); replace hH := hH.ext hb2; clear hb2)
    | (refine wpList_store_all rfl 51 _ _ rfl w2.heap.size hart0.cells rfl rfl 51 _ (Blk.new w2 _ _) (hart_info hart0_len) rfl (hart_one hart0) ?_; intro w3 hX hg3))
  try go_simp
  have hz2 := hH.lt
  have hz3 := hg3.size
  simp only [World.size_alloc] at hz3
  replace hH := (hH.alloc (.cells hart0.cells 51)).grown hg3 (fun e => by injection e; omega)
  replace hbl := below_grown (hbl.alloc hbl.size (.cells hart0.cells 51)) hg3 (by have := hbl.size; simp; omega) hbl.size
  clear hg3
  go_upto_region 3 with (first
    | (refine wpList_load_all rfl 51 _ rfl w.heap.size rfl 51 _ _ hH Try.underlying51 rfl (hart_info hh.len) ?_)
    | (go_at_call 40; (with_reducible refine (CW.out _).mono ?_); rintro e w4 ⟨rfl, hb2⟩; replace hbl := hbl.trans (hb2.mono hbl.size); replace hX := hX.ext hb2; clear hb2))
  try go_simp
  go_wp2_with (refine wpList_wanted rfl fun K hK => ?_; first
    | (refine wp_load_all 51 _ rfl w2.heap.size rfl 51 _ _ hX Try.underlying51 rfl (hart_info hart0_len) ?_; refine hK _ _ ?_)
    | (refine wp_build_to 51 _ rfl [] rfl _ built_hart0 ?_; refine hK _ _ ?_)
    | (refine wp_eql_self 51 _ _ _ rfl hart0.cells rfl rfl hart_guard (hart_eql hart0_wf hart0_num _) ?_; refine hK _ _ ?_))
  go_ret
  exact ⟨rfl, hbl⟩
set_option maxHeartbeats 2000000 in
set_option maxRecDepth 100000 in
theorem modelRuns_ok (h : Hart) (A : Option Addr) (cap : Nat) (m : List Int) (steps : Int) (w : World) (hh : h.Wf) (hl : m.length ≤ 140737488351232) (hm : Bytes m) (hA : IntsAt w w.heap.size .u8 A m) (hnil : A = none → m = []) (s0 : -9223372036854775808 ≤ steps) (s1 : steps ≤ 9223372036854775807) (hno : wrongP h m steps = 0) :
    Calls Try.prog 12 #[.agg h.cells, .slice A m.length cap, .int .i64 steps] w fun e w' => e = .returned (.bool true) ∧ Below w.heap.size w w' := by
  obtain ⟨hmay, hs0, hs1⟩ : mayH h = true ∧ 0 ≤ steps ∧ steps ≤ 2000 := by
    unfold wrongP at hno
    split at hno
    · cases hno
    · split at hno
      · cases hno
      · exact ⟨by cases hh : mayH h <;> simp_all, by omega⟩
  have CR := Lib.hid (fun W hW => run_ok h A cap m steps W hh hl hm hW hnil hno)
  have CW := Lib.hid (fun W => mwrong_any h A cap m steps W hh hl s0 s1)
  have CP := Lib.hid (fun W hW => play_any h A cap m steps W hh hmay hl hm hW hnil hs0 (by omega))
  unfold PlayPost at CP
  rw [hno] at CW
  obtain ⟨hok, hml, hcw, hll, _⟩ := runP_ok steps.toNat (h := h) (m := m) ⟨hh, hmay, hm⟩
  have hgl := hok.hart.len
  have EH := Lib.hid (fun W => hart_eql hok.hart (may_num hok.may) W)
  have HCW := Lib.hid (fun c hc => (hcw c hc).1)
  have hL2000 : (runP steps.toNat h m).1.length ≤ 2000 := by omega
  rw [← hml] at CR CP
  rw [hml] at CR CP
  obtain ⟨R, hR⟩ : ∃ R, runP steps.toNat h m = R := ⟨_, rfl⟩
  rw [hR] at CR CP hml hgl EH HCW hL2000
  clear hR hok hcw hll hmay
  obtain ⟨L, X, M⟩ := R
  dsimp only at CR CP hml hgl EH HCW hL2000
  have HML := Lib.hid hml
  clear hml hno
  go_enter Try.func12, Try.ntmps12
  go_upto_region 1 with (fail)
  go_simp
  refine wp_gen fun wa hq => ?_
  have hH : Blk wa w.heap.size 51 h.cells := by rw [hq]; exact Blk.new w _ _
  have hbl : Below w.heap.size w wa := by rw [hq]; exact (Below.refl _ _).alloc (Nat.le_refl _) _
  clear hq
  have hAa := (hA.below hbl).mono hbl.size
  go_upto_region 2 with (first
    | (refine wpList_load_all rfl 51 _ rfl w.heap.size rfl 51 _ _ hH Try.underlying51 rfl (hart_info hh.len) ?_)
    | (go_at_call 39; (with_reducible refine (CR.out _ hAa).mono ?_); rintro e w2 ⟨AL, cL, A2, c2, rfl, hb2, hL2, hM2⟩; replace hbl := hbl.trans (hb2.mono hbl.size); replace hH := hH.ext hb2; clear hb2)
    | (refine wpList_store_all rfl 51 _ _ rfl w2.heap.size X.cells rfl rfl 51 _ (Blk.new w2 _ _) (hart_info hgl) (by rw [Hart.cells_size hgl]; rfl) (hart_one X) ?_; intro w3 hX hg3))
  try go_simp
  have hz2 := hH.lt
  have hz3 := hg3.size
  simp only [World.size_alloc] at hz3
  have hb23 : Below w2.heap.size w2 w3 := ((Below.refl w2.heap.size w2).alloc (Nat.le_refl _) (.cells hart0.cells 51)).grown hg3 (by simp) (fun k hk => by cases hk; exact Nat.le_refl _)
  have hCL := (ComsAt.own hL2).below hb23
  have hIM := (IntsAt.own hM2).below hb23
  have hN2 := own_nil hM2
  replace hH := hH.ext hb23
  replace hbl := hbl.trans (hb23.mono hbl.size)
  clear hg3 hL2 hM2 hb23 hAa CR
  go_upto_region 3 with (first
    | (refine wpList_load_all rfl 51 _ rfl w.heap.size rfl 51 _ _ hH Try.underlying51 rfl (hart_info hh.len) ?_)
    | (go_at_call 40; (with_reducible refine (CW.out _).mono ?_); rintro e w4 ⟨rfl, hb2⟩; have hz4 := hb2.size; replace hbl := hbl.trans (hb2.mono hbl.size); replace hX := hX.ext hb2; replace hH := hH.ext hb2; replace hCL := hCL.below (hb2.mono (by omega)); replace hIM := hIM.below (hb2.mono (by omega)); clear hb2))
  try go_simp
  clear CW
  have hAa := (hA.below hbl).mono hbl.size
  go_upto_region 5 with (fail)
  try go_simp
  go_upto_region 6 with (first
    | (refine wpList_load_all rfl 51 _ rfl w.heap.size rfl 51 _ _ hH Try.underlying51 rfl (hart_info hh.len) ?_)
    | (go_at_call 41; (with_reducible refine (CP.out _ hAa).mono ?_); rintro e w5 ⟨AK, cK, A5, c5, rfl, hb2, hK5, hM5, hN5⟩; have hz5 := hb2.size; replace hbl := hbl.trans (hb2.mono hbl.size); replace hX := hX.ext hb2; replace hCL := hCL.below (hb2.mono (by omega)); replace hIM := hIM.below (hb2.mono (by omega)); clear hb2)
    | (refine wpList_store_all rfl 51 _ _ rfl w5.heap.size X.cells rfl rfl 51 _ (Blk.new w5 _ _) (hart_info hgl) (by rw [Hart.cells_size hgl]; rfl) (hart_one X) ?_; intro w6 hY hg6))
  try go_simp
  have hz6 := hg6.size
  simp only [World.size_alloc] at hz6
  have hb56 : Below w5.heap.size w5 w6 := ((Below.refl w5.heap.size w5).alloc (Nat.le_refl _) (.cells hart0.cells 51)).grown hg6 (by simp) (fun k hk => by cases hk; exact Nat.le_refl _)
  have hCK := ((ComsAt.own hK5).below hb56).mono (by omega : w5.heap.size ≤ w6.heap.size)
  have hIM5 := hM5.below hb56
  replace hX := hX.ext hb56
  replace hCL := (hCL.below (hb56.mono (by omega))).mono (by omega : w2.heap.size ≤ w6.heap.size)
  replace hIM := hIM.below (hb56.mono (by omega))
  replace hbl := hbl.trans (hb56.mono hbl.size)
  have CSM := Lib.hid (msame_any AL AK cL cK L w6 (by omega) HCW.out hCL hCK)
  clear hg6 hK5 hM5 hb56 hAa CP hH hCL hCK
  go_wp2_with (first
    | (refine wpList_wanted rfl fun K hK => ?_; first
      | (refine wp_load_all 51 _ rfl w2.heap.size rfl 51 _ _ hX Try.underlying51 rfl (hart_info hgl) ?_; refine hK _ _ ?_)
      | (refine wp_load_all 51 _ rfl w5.heap.size rfl 51 _ _ hY Try.underlying51 rfl (hart_info hgl) ?_; refine hK _ _ ?_)
      | (refine wp_eql_self 51 _ _ _ rfl X.cells rfl rfl hart_guard (EH.out _) ?_; refine hK _ _ ?_))
    | (go_at_call 42; (with_reducible refine CSM.out.mono ?_); rintro e w7 ⟨rfl, hb7⟩; have hz7 := hb7.size; replace hbl := hbl.trans (hb7.mono hbl.size); replace hX := hX.ext hb7; replace hY := hY.ext hb7; replace hIM := hIM.below (hb7.mono (by omega)); replace hIM5 := hIM5.below (hb7.mono (by omega)); clear hb7)
    | (go_at_call 37; (with_reducible refine (bytes_same_n A2 A5 c2 c5 M m.length _ w2.heap.size w5.heap.size HML.out hIM hN2 hIM5 hN5).mono ?_); rintro e w8 ⟨rfl, rfl⟩))
  go_ret
  exact ⟨rfl, hbl⟩
end Go.Proofs.Ytapgojgcmlnbgab
