/- The walk of the document's answer on maps of registers: Undo. -/
import Derived.Test.YtapgojgcmlnbgaaRef7Give
namespace Go.Proofs.Ytapgojgcmlnbgaa
open Go.RowKit

set_option maxRecDepth 100000 in
set_option maxHeartbeats 1000000 in
theorem rundo_any {w : World} {m : RMap} {v : Value} (h : MapV w m v) (rd p : Int) (hr0 : -9223372036854775808 ≤ rd) (hr1 : rd ≤ 9223372036854775807) (hp0 : -9223372036854775808 ≤ p) (hp1 : p ≤ 9223372036854775807) (hfew : m.free.length < 17592186044000) :
    Calls Try.prog 41 #[v, .int .i64 rd, .int .i64 p] w fun e w' => ∃ v', e = .returned (.tuple #[v', .bool (undoP m rd p).isSome]) ∧ Below w.heap.size w w' ∧ MapF w' w.heap.size (undoD m rd p) v' := by
  have hv := h
  have hu := fun W (hb : Below w.heap.size w W) => rother_any (h.ext hb) p
  obtain ⟨A, cap, rfl, h⟩ := h
  have hs := map_info (phys := m.phys) (A := A) (n := m.free.length) (cap := cap) h.len
  have hf := mapCells_free m.phys m.regs A m.free.length cap h.len
  have hrg := fun i => mapCells_reg m.phys m.regs A m.free.length cap (i := i)
  have hone := map_one m.phys m.regs A m.free.length cap
  have hsz := mapCells_size m.phys m.regs A m.free.length cap h.len
  by_cases hok : otherP m p = true ∧ 1 ≤ rd ∧ rd ≤ 31
  · obtain ⟨k, rfl⟩ := Int.eq_ofNat_of_zero_le (show 0 ≤ rd by omega)
    have hg : undoP m (k : Int) p = some ⟨m.phys, m.regs.set k p, m.regs.getD k 0 :: m.free⟩ := by unfold undoP; rw [if_pos hok]; rfl
    have hgd : undoD m (k : Int) p = ⟨m.phys, m.regs.set k p, m.regs.getD k 0 :: m.free⟩ := by unfold undoD; rw [hg]; rfl
    rw [hg, hgd]
    rw [hok.1] at hu
    obtain ⟨hot, hr1, hr2⟩ := hok
    simp only [Option.isSome_some]
    have hrk := hrg k (by rw [h.len]; omega)
    obtain ⟨cs, hcs⟩ : ∃ cs, cs = mapCells m.phys m.regs A m.free.length cap := ⟨_, rfl⟩
    rw [← hcs] at hs hf hu hrk hone hsz ⊢
    have hroom := h.room
    have hlen := h.len
    obtain ⟨n, hn⟩ : ∃ n, n = m.free.length := ⟨_, rfl⟩
    rw [← hn] at hfew hroom hf hcs
    have Hcs := Lib.hid hcs
    have Hu := Lib.hid hu
    have H1 := Lib.hid h
    have Hn := Lib.hid hn
    have hrw : m.regs.getD k 0 ∈ m.regs := by
      have : k < m.regs.length := by omega
      simp [List.getD, List.getElem?_eq_getElem this]
    have hoo := h.wf _ (List.mem_append_left _ hrw)
    have hsz0 : cs.size = (mapCells 0 (List.replicate 32 0) none 0 0).size := by rw [hsz]; rfl
    clear hu hg hgd hot hv hcs h hn hrg hrw
    generalize m.regs.getD k 0 = old at *
    obtain ⟨i0, hi, hz0, hz1, hz2⟩ := info_parts ints_info
    have e1 : decide ((k : Int) < 1) = false := decide_eq_false (by omega)
    have e2 : decide (31 < (k : Int)) = false := decide_eq_false (by omega)
    go_enter Try.func41, Try.ntmps41
    go_upto_region 1 with (fail)
    go_simp
    refine wp_gen fun wa hq => ?_
    have hb2 : Below w.heap.size w wa := by rw [hq]; exact ((Below.refl w.heap.size w).alloc (Nat.le_refl _) _).alloc (by simp) _
    have hB : Blk wa w.heap.size 50 cs := by rw [hq]; exact (Blk.new w 50 cs).alloc _
    have hR : Blk wa (w.heap.size + 1) 50 (mapCells 0 (List.replicate 32 0) none 0 0) := by rw [hq]; exact Blk.newAt (w.alloc (.cells cs 50)) 50 _ (by simp)
    clear hq
    go_upto_region 3 with (first
      | (refine wpList_load_all rfl 50 _ rfl w.heap.size rfl 50 cs _ hB Try.underlying50 rfl hs ?_)
      | (go_at_call 63; (with_reducible refine (Hu.out _ hb2).mono ?_); rintro e w2 ⟨rfl, hb3⟩))
    go_simp
    have hb4 := hb2.trans (hb3.mono hb2.size)
    replace hB := hB.ext hb3
    replace hR := hR.ext hb3
    have z2 : w.heap.size + 2 ≤ w2.heap.size := by have := hR.lt; omega
    clear hb2 hb3
    have hN0 := Blk.new w2 50 (mapCells 0 (List.replicate 32 0) none 0 0)
    have hB0 := hB.alloc (.cells (mapCells 0 (List.replicate 32 0) none 0 0) 50)
    go_upto_region 4 with (first
      | (refine wpList_load_all rfl 50 _ rfl w.heap.size rfl 50 cs _ hB Try.underlying50 rfl hs ?_)
      | (refine wpList_store_all rfl 50 _ _ rfl w2.heap.size cs rfl rfl 50 _ hN0 hs hsz0 hone ?_; intro w6 hN6 hg6))
    go_simp
    have hb6 := below_grown (hb4.alloc hb4.size (.cells (mapCells 0 (List.replicate 32 0) none 0 0) 50)) hg6 (by simp; omega) hb4.size
    have hB6 := hB0.grown hg6 (by simp; omega)
    have hR6 := (hR.alloc (.cells (mapCells 0 (List.replicate 32 0) none 0 0) 50)).grown hg6 (by simp; omega)
    have z6 : w2.heap.size < w6.heap.size := hN6.lt
    have HA6 := Lib.hid ((H1.out.free.below hb6).mono hb6.size)
    rw [Hcs.out] at hN6
    clear hN0 hB0 hR hB hb4 hg6
    have ck6 := hB6.cell (1 + k)
    rw [hrk] at ck6
    have c336 := hB6.cell 33
    rw [hf] at c336
    have zB6 := hB6.lt
    have Hc6 := Lib.hid HA6.out.cells
    refine wp_region_ob 295 72 367 [0, 1, 2, 3, 5, 6, 4, 7, 8, 9] (by kernel_rfl) (by kernel_rfl) (by kernel_rfl) rfl ?_
    repeat' (first
      | refine wpO_plain rfl rfl ?_
      | (refine' wpOW_ever _ (by decide) (by decide) (fun wq K hK => ?_) ?_ ?_
         rotate_left 1
         · (go_wp2_with (fail)
            all_goals exact hK)
         · rfl)
      | (refine' wpOW_reads _ (by decide) (by decide) (by decide) (fun wq hwq K hK => ?_) ?_ ?_
         rotate_left 1
         · (have c33 := (hB6.ext hwq).cell 33; rw [hf] at c33; have ck := (hB6.ext hwq).cell (1 + k); rw [hrk] at ck
            first
            | (fail)
            | (go_wp2_with (fail)
               all_goals exact hK))
         · rfl)
      | (refine' wpOW_calls _ (by decide) (by decide) (by decide) (fun wq hwq K hK => ?_) ?_ ?_
         rotate_left 1
         · (have c33 := (hB6.ext hwq).cell 33; rw [hf] at c33; have ck := (hB6.ext hwq).cell (1 + k); rw [hrk] at ck
            first
            | (fail)
            | (go_wp2_with (fail)
               all_goals exact hK _ hwq))
         · rfl)
      | (refine wpO_guardT rfl rfl rfl rfl ?_ ?_ <;> intro hc <;> first | (cases hc; done) | ((try cases hc); simp only [Act.put, List.setIfInBounds_toArray, List.set_cons_succ, List.set_cons_zero]))
      | (refine wpO_guardF rfl rfl rfl rfl ?_ ?_ <;> intro hc <;> first | (cases hc; done) | ((try cases hc); simp only [Act.put, List.setIfInBounds_toArray, List.set_cons_succ, List.set_cons_zero]))
      | refine wpO_guardU rfl rfl rfl rfl ?_)
    -- the one-element slice
    refine wpOW_beside (by decide) (by decide) (by decide) (by kernel_rfl) (fun w1 hw1 K1 hK1 => ?_)
    have hbw : Below w6.heap.size w6 w1 := by rw [hw1]; exact (Below.refl _ _).drew
    have hb7 := hb6.trans (hbw.mono hb6.size)
    have hB7 := hB6.ext hbw
    have hR7 := hR6.ext hbw
    have hN7 := hN6.ext hbw
    have HA7 : Hid (IntsAt w1 w1.heap.size .i64 A m.free) := Lib.hid ((HA6.out.below hbw).mono hbw.size)
    clear hw1 HA6 Hc6 hb6 hB6 hR6 hN6 ck6 c336
    have hown1 := World.ownsRow_lit (base := w1.heap.size) (e := 3) (size := 1) w1 #[.int .i64 old] 1 (Nat.le_refl _) (by unfold maxLen; omega) rfl
    have hz1' := hbw.size
    go_wp2_with (fail)
    refine hK1 _ _ (hbw.alloc hbw.size _) ?_
    simp only [Act.put, List.setIfInBounds_toArray, List.set_cons_succ, List.set_cons_zero]
    clear hK1 K1
    -- append
    refine wpO_plain rfl rfl ?_
    refine wpOW_solo (by decide) (by decide) (by decide) (by kernel_rfl) (fun wx hwx K1 hK1 => ?_)
    subst hwx
    have hnews := ((HA7.out.below ((Below.refl _ w1).alloc (Nat.le_refl _) (.cells #[.int .i64 old] 3))).cells : ∀ ad, A = some ad → ∀ j u, (m.free.map (Value.int .i64))[j]? = some u → (w1.alloc (.cells #[.int .i64 old] 3)).cell? (ad.add j) = some u)
    refine wp_append_any (.tmp 27) (.tmp 29) 48 rfl w1.heap.size 3 i0 _ 1 8 Try.underlying48 hi hz0 hz1 hz2 rfl (by decide) (.slice (some ⟨w1.heap.size, 0, none⟩) 1 1) 1 _ rfl hown1 A n cap (m.free.map (.int .i64)) rfl (by simp [Hn.out]) (fun e => by have := H1.out.nil e; rw [Hn.out, this.1]; exact ⟨rfl, this.2⟩) hnews (ints_oneCell' _) (by unfold maxLen; omega) (by omega) (by simp) ?_
    intro v8 w8 hown8 hg8
    have hN8 := (hN7.alloc (.cells #[.int .i64 old] 3)).grown hg8 (fun h => by (have h : some w2.heap.size = some w1.heap.size := h); injection h with h; omega)
    have hR8 := (hR7.alloc (.cells #[.int .i64 old] 3)).grown hg8 (fun h => by (have h : some (w.heap.size + 1) = some w1.heap.size := h); injection h with h; omega)
    have hb8 : Below w.heap.size w w8 := (hb7.alloc hb7.size (.cells #[.int .i64 old] 3)).grown hg8 (by have := hb7.size; simp; omega) (fun j hj => by cases hj; exact hb7.size)
    obtain ⟨A8, cap8, rfl⟩ := own_value hown8
    have hown8 : w8.ownsRow w1.heap.size 3 1 (.slice A8 (1 + n) cap8) (1 + n) ((old :: m.free).map (.int .i64)) := hown8
    refine hK1 _ _ (fun _ => True) trivial ?_
    simp only [Act.put, List.setIfInBounds_toArray, List.set_cons_succ, List.set_cons_zero]
    clear hK1 K1 hg8 hnews hown1 hN7 hR7 hb7 hB7
    -- n.Free
    repeat' (first
      | refine wpO_plain rfl rfl ?_
      | (refine' wpOW_ever _ (by decide) (by decide) (fun wq K hK => ?_) ?_ ?_
         rotate_left 1
         · (go_wp2_with (fail)
            all_goals exact hK)
         · rfl)
      | (refine' wpOW_reads _ (by decide) (by decide) (by decide) (fun wq hwq K hK => ?_) ?_ ?_
         rotate_left 1
         · (skip
            first
            | (fail)
            | (go_wp2_with (fail)
               all_goals exact hK))
         · rfl)
      | (refine' wpOW_calls _ (by decide) (by decide) (by decide) (fun wq hwq K hK => ?_) ?_ ?_
         rotate_left 1
         · (skip
            first
            | (fail)
            | (go_wp2_with (fail)
               all_goals exact hK _ hwq))
         · rfl)
      | (refine wpO_guardT rfl rfl rfl rfl ?_ ?_ <;> intro hc <;> first | (cases hc; done) | ((try cases hc); simp only [Act.put, List.setIfInBounds_toArray, List.set_cons_succ, List.set_cons_zero]))
      | (refine wpO_guardF rfl rfl rfl rfl ?_ ?_ <;> intro hc <;> first | (cases hc; done) | ((try cases hc); simp only [Act.put, List.setIfInBounds_toArray, List.set_cons_succ, List.set_cons_zero]))
      | refine wpO_guardU rfl rfl rfl rfl ?_)
    refine wpOW_solo (by decide) (by decide) (by decide) (by kernel_rfl) (fun wx hwx K1 hK1 => ?_)
    subst hwx
    have ck := hN8.cell 33
    rw [mapCells_free _ _ _ _ _ hlen] at ck
    have fk := hN8.frozen 33
    go_wp2_with (fail)
    refine hK1 undef _ (fun _ => True) trivial ?_
    simp only [Act.put, List.setIfInBounds_toArray, List.set_cons_succ, List.set_cons_zero]
    clear hK1 K1 ck fk
    have hN9 := hN8.set 33 (.slice A8 (1 + n) cap8)
    rw [mapCells_setfree _ _ _ _ _ _ _ _ hlen] at hN9
    have hb9 := hb8.setCell (p := ⟨w2.heap.size, 33, none⟩) (by show w.heap.size ≤ w2.heap.size; omega) (.slice A8 (1 + n) cap8)
    have hR9 := hR8.far (p := ⟨w2.heap.size, 33, none⟩) (by show w.heap.size + 1 ≠ w2.heap.size; omega) (.slice A8 (1 + n) cap8)
    have hown9 := own_setCell hown8 (p := ⟨w2.heap.size, 33, none⟩) (by show w2.heap.size < w1.heap.size; omega) (.slice A8 (1 + n) cap8)
    refine wpO_nil ?_
    rintro w9 hw9
    rw [← hw9] at hN9 hb9 hR9 hown9
    clear hw9 hN8 hR8 hb8 hown8
    -- n.Regs[rd]
    have ck := hN9.cell (1 + k)
    rw [mapCells_reg _ _ _ _ _ (by rw [hlen]; omega)] at ck
    have fk := hN9.frozen (1 + k)
    have hN10 := hN9.set (1 + k) (.int .i64 p)
    rw [mapCells_setreg _ _ _ _ _ _ _ hlen (by omega)] at hN10
    have hb10 := hb9.setCell (p := ⟨w2.heap.size, 1 + k, none⟩) (by show w.heap.size ≤ w2.heap.size; omega) (.int .i64 p)
    have hR10 := hR9.far (p := ⟨w2.heap.size, 1 + k, none⟩) (by show w.heap.size + 1 ≠ w2.heap.size; omega) (.int .i64 p)
    have hown10 := own_setCell hown9 (p := ⟨w2.heap.size, 1 + k, none⟩) (by show w2.heap.size < w1.heap.size; omega) (.int .i64 p)
    have HH := Lib.hid (And.intro hN10 (And.intro hb10 (And.intro hR10 hown10)))
    have z9 := hN9.lt
    clear hN10 hb10 hR10 hown10 hN9 hb9 hR9 hown9
    go_upto_region 6 with (fail)
    go_simp
    obtain ⟨hN9, hb9, hR9, hown9⟩ := HH.out
    clear HH ck fk
    generalize w9.setCell _ _ = w11 at *
    have hset : ((m.regs.set k p) : List Int).length = 32 := by simp [hlen]
    have hs9 := map_info (phys := m.phys) (A := A8) (n := (1 + n)) (cap := cap8) hset
    have h19 := map_one m.phys (m.regs.set k p) A8 (1 + n) cap8
    obtain ⟨cs9, h9⟩ : ∃ cs9, cs9 = mapCells m.phys (m.regs.set k p) A8 (1 + n) cap8 := ⟨_, rfl⟩
    have Hv9 := Lib.hid h9
    have hsz9 : (mapCells m.phys (m.regs.set k p) A8 (1 + n) cap8).size = (mapCells 0 (List.replicate 32 0) none 0 0).size := by rw [mapCells_size _ _ _ _ _ hset]; rfl
    rw [← h9] at hsz9 hs9 h19 hN9
    clear h9
    go_wp2_with (first
      | (refine wpList_load_all rfl 50 _ rfl w2.heap.size rfl 50 cs9 _ hN9 Try.underlying50 rfl hs9 ?_)
      | (refine wpList_store_all rfl 50 _ _ rfl (w.heap.size + 1) cs9 rfl rfl 50 _ hR9 hs9 hsz9 h19 ?_; intro wx hBx hgx; have hld := load_map hBx hs9))
    refine bodyPost_ret (results_ct Try.results41 rfl rfl hld) rfl ?_
    obtain ⟨A', cap', he, hl9, hn9, hA9, hc9, hg9⟩ := own_ints hown9
    cases he
    have hm1 := H1.out
    have hA10 := (hA9.grown (Nat.le_refl _) hgx (fun ad h => by have := hg9 ad h; omega)).mono hgx.size
    refine ⟨_, rfl, below_grown hb9 hgx hb9.size (Nat.le_succ _), A8, cap8, by rw [Hv9.out]; show _ = Value.agg (mapCells m.phys (m.regs.set k p) A8 (old :: m.free).length cap8); rw [hl9], ?_, fun ad h => by have := hg9 ad h; omega⟩
    refine ⟨hm1.p0, hm1.p1, hset, by show (old :: m.free).length ≤ _; omega, by show (old :: m.free).length ≤ _; omega, hA10, hn9, fun x hx => ?_⟩
    rcases List.mem_append.1 hx with hx | hx
    · rcases List.mem_or_eq_of_mem_set hx with hx | rfl
      · exact hm1.wf x (List.mem_append_left _ hx)
      · exact ⟨hp0, hp1⟩
    · rcases List.mem_cons.1 hx with rfl | hx
      · exact hoo
      · exact hm1.wf x (List.mem_append_right _ hx)
  · have htk : undoP m rd p = none := by unfold undoP; rw [if_neg hok]
    have Htk := Lib.hid (show undoD m rd p = RMap.zero by unfold undoD; rw [htk]; rfl)
    rw [htk]
    have hok' : otherP m p = false ∨ (otherP m p = true ∧ rd < 1) ∨ (otherP m p = true ∧ 1 ≤ rd ∧ 31 < rd) := by
      rcases hmm : otherP m p with _ | _
      · exact Or.inl rfl
      · by_cases h1 : rd < 1
        · exact Or.inr (Or.inl ⟨rfl, h1⟩)
        · exact Or.inr (Or.inr ⟨rfl, by omega, by
            rcases Decidable.em (31 < rd) with h2 | h2
            · exact h2
            · exact absurd ⟨hmm, by omega, by omega⟩ hok⟩)
    clear hok htk hv hrg h hf hone hsz
    generalize otherP m p = X at *
    generalize mapCells m.phys m.regs A m.free.length cap = cs at *
    have Hu := Lib.hid hu
    clear hu
    rcases hok' with rfl | ⟨rfl, h1⟩ | ⟨rfl, h1, h2⟩
    · go_enter Try.func41, Try.ntmps41
      go_upto_region 1 with (fail)
      go_simp
      refine wp_gen fun wa hq => ?_
      have hb2 : Below w.heap.size w wa := by rw [hq]; exact ((Below.refl w.heap.size w).alloc (Nat.le_refl _) _).alloc (by simp) _
      have hB : Blk wa w.heap.size 50 cs := by rw [hq]; exact (Blk.new w 50 cs).alloc _
      have hR : Blk wa (w.heap.size + 1) 50 (mapCells 0 (List.replicate 32 0) none 0 0) := by rw [hq]; exact Blk.newAt (w.alloc (.cells cs 50)) 50 _ (by simp)
      clear hq
      go_wp2_with (first
        | (refine wpList_load_all rfl 50 _ rfl w.heap.size rfl 50 cs _ hB Try.underlying50 rfl hs ?_)
        | (go_at_call 63; (with_reducible refine (Hu.out _ hb2).mono ?_); rintro e w2 ⟨rfl, hb3⟩; have hR2 := hR.ext hb3)
        | (refine wpList_build_to rfl 50 _ rfl [] rfl _ built_map0 ?_)
        | (refine wpList_store_all rfl 50 _ _ rfl (w.heap.size + 1) (mapCells 0 (List.replicate 32 0) none 0 0) rfl rfl 50 _ hR2 zero_info rfl (map_one _ _ _ _ _) ?_; intro w5 hB5 hg5; have hld := load_map hB5 zero_info))
      refine bodyPost_ret (results_ct Try.results41 rfl rfl hld) rfl ?_
      rw [Htk.out]
      exact ⟨_, rfl, below_grown (hb2.trans (hb3.mono hb2.size)) hg5 (Nat.le_trans hb2.size hb3.size) (Nat.le_succ _), MapF.zero _ _⟩
    · go_enter Try.func41, Try.ntmps41
      go_upto_region 1 with (fail)
      go_simp
      refine wp_gen fun wa hq => ?_
      have hb2 : Below w.heap.size w wa := by rw [hq]; exact ((Below.refl w.heap.size w).alloc (Nat.le_refl _) _).alloc (by simp) _
      have hB : Blk wa w.heap.size 50 cs := by rw [hq]; exact (Blk.new w 50 cs).alloc _
      have hR : Blk wa (w.heap.size + 1) 50 (mapCells 0 (List.replicate 32 0) none 0 0) := by rw [hq]; exact Blk.newAt (w.alloc (.cells cs 50)) 50 _ (by simp)
      clear hq
      go_wp2_with (first
        | (refine wpList_load_all rfl 50 _ rfl w.heap.size rfl 50 cs _ hB Try.underlying50 rfl hs ?_)
        | (go_at_call 63; (with_reducible refine (Hu.out _ hb2).mono ?_); rintro e w2 ⟨rfl, hb3⟩; have hR2 := hR.ext hb3)
        | (refine wpList_build_to rfl 50 _ rfl [] rfl _ built_map0 ?_)
        | (refine wpList_store_all rfl 50 _ _ rfl (w.heap.size + 1) (mapCells 0 (List.replicate 32 0) none 0 0) rfl rfl 50 _ hR2 zero_info rfl (map_one _ _ _ _ _) ?_; intro w5 hB5 hg5; have hld := load_map hB5 zero_info))
      refine bodyPost_ret (results_ct Try.results41 rfl rfl hld) rfl ?_
      rw [Htk.out]
      exact ⟨_, rfl, below_grown (hb2.trans (hb3.mono hb2.size)) hg5 (Nat.le_trans hb2.size hb3.size) (Nat.le_succ _), MapF.zero _ _⟩
    · go_enter Try.func41, Try.ntmps41
      go_upto_region 1 with (fail)
      go_simp
      refine wp_gen fun wa hq => ?_
      have hb2 : Below w.heap.size w wa := by rw [hq]; exact ((Below.refl w.heap.size w).alloc (Nat.le_refl _) _).alloc (by simp) _
      have hB : Blk wa w.heap.size 50 cs := by rw [hq]; exact (Blk.new w 50 cs).alloc _
      have hR : Blk wa (w.heap.size + 1) 50 (mapCells 0 (List.replicate 32 0) none 0 0) := by rw [hq]; exact Blk.newAt (w.alloc (.cells cs 50)) 50 _ (by simp)
      clear hq
      go_wp2_with (first
        | (refine wpList_load_all rfl 50 _ rfl w.heap.size rfl 50 cs _ hB Try.underlying50 rfl hs ?_)
        | (go_at_call 63; (with_reducible refine (Hu.out _ hb2).mono ?_); rintro e w2 ⟨rfl, hb3⟩; have hR2 := hR.ext hb3)
        | (refine wpList_build_to rfl 50 _ rfl [] rfl _ built_map0 ?_)
        | (refine wpList_store_all rfl 50 _ _ rfl (w.heap.size + 1) (mapCells 0 (List.replicate 32 0) none 0 0) rfl rfl 50 _ hR2 zero_info rfl (map_one _ _ _ _ _) ?_; intro w5 hB5 hg5; have hld := load_map hB5 zero_info))
      refine bodyPost_ret (results_ct Try.results41 rfl rfl hld) rfl ?_
      rw [Htk.out]
      exact ⟨_, rfl, below_grown (hb2.trans (hb3.mono hb2.size)) hg5 (Nat.le_trans hb2.size hb3.size) (Nat.le_succ _), MapF.zero _ _⟩
end Go.Proofs.Ytapgojgcmlnbgaa
