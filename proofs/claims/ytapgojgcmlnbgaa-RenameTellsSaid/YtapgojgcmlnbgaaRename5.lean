/- The walk of rename.Undo. -/
import Derived.Test.YtapgojgcmlnbgaaRename4
namespace Go.Proofs.Ytapgojgcmlnbgaa
open Go.RowKit

def undoD (m : RMap) (rd old : Int) : RMap := (undoP m rd old).getD RMap.zero
set_option maxRecDepth 100000 in
set_option maxHeartbeats 1000000 in
theorem undo_any {w : World} {m : RMap} {v : Value} (h : MapV w m v) (rd p : Int) (hr0 : -9223372036854775808 ≤ rd) (hr1 : rd ≤ 9223372036854775807) (hp0 : -9223372036854775808 ≤ p) (hp1 : p ≤ 9223372036854775807) (hfew : m.free.length < 17592186044000) :
    Calls Try.prog 29 #[v, .int .i64 rd, .int .i64 p] w fun e w' => ∃ v', e = .returned (.tuple #[v', .bool (undoP m rd p).isSome]) ∧ Below w.heap.size w w' ∧ MapF w' w.heap.size (undoD m rd p) v' := by
  have hv := h
  have hu := fun W (hb : Below w.heap.size w W) => other_any (h.ext hb) p hp0 hp1
  obtain ⟨A, cap, rfl, h⟩ := h
  have hs := map_info (phys := m.phys) (A := A) (n := m.free.length) (cap := cap) h.len
  have hf := mapCells_free m.phys m.regs A m.free.length cap h.len
  have hrg := fun i => mapCells_reg m.phys m.regs A m.free.length cap (i := i)
  by_cases hok : otherP m p = true ∧ 1 ≤ rd ∧ rd ≤ 31
  · obtain ⟨k, rfl⟩ := Int.eq_ofNat_of_zero_le (show 0 ≤ rd by omega)
    have hg : undoP m (k : Int) p = some ⟨m.phys, m.regs.set k p, m.regs.getD k 0 :: m.free⟩ := by unfold undoP; rw [if_pos hok]; rfl
    have hgd : undoD m (k : Int) p = ⟨m.phys, m.regs.set k p, m.regs.getD k 0 :: m.free⟩ := by unfold undoD; rw [hg]; rfl
    rw [hg, hgd]
    rw [hok.1] at hu
    obtain ⟨hot, hr1, hr2⟩ := hok
    simp only [Option.isSome_some]
    have hrk := hrg k (by rw [h.len]; omega)
    obtain ⟨cs, hcs⟩ : ∃ cs, cs = mapCells m.phys m.regs A m.free.length cap := ⟨_, rfl⟩
    rw [← hcs] at hs hf hu hrk ⊢
    have hroom := h.room
    have hlen := h.len
    have Hcs := Lib.hid hcs
    have Hu := Lib.hid hu
    have H1 := Lib.hid h
    obtain ⟨n, hn⟩ : ∃ n, n = m.free.length := ⟨_, rfl⟩
    rw [← hn] at hfew hroom hf
    have Hn := Lib.hid hn
    have hrw : m.regs.getD k 0 ∈ m.regs := by
      have : k < m.regs.length := by omega
      simp [List.getD, List.getElem?_eq_getElem this]
    have hoo := h.wf _ (List.mem_append_left _ hrw)
    clear hu hg hgd hot hv hcs h hn hrg hrw
    generalize m.regs.getD k 0 = old at *
    go_enter Try.func29, Try.ntmps29
    go_upto_region 1 with (fail)
    go_simp
    refine wp_gen fun wa hq => ?_
    have hb2 : Below w.heap.size w wa := by rw [hq]; exact ((Below.refl w.heap.size w).alloc (Nat.le_refl _) _).alloc (by simp) _
    have hB : Blk wa w.heap.size 50 cs := by rw [hq]; exact (Blk.new w 50 cs).alloc _
    have hR : Blk wa (w.heap.size + 1) 50 (mapCells 0 (List.replicate 32 0) none 0 0) := by rw [hq]; exact Blk.newAt (w.alloc (.cells cs 50)) 50 _ (by simp)
    clear hq
    go_upto_region 3 with (first
      | (refine wpList_load_all rfl 50 _ rfl w.heap.size rfl 50 cs _ hB Try.underlying50 rfl hs ?_)
      | (go_at_call 55; (with_reducible refine (Hu.out _ hb2).mono ?_); rintro e w2 ⟨rfl, hb3⟩))
    go_simp
    have hb4 := hb2.trans (hb3.mono hb2.size)
    replace hB := hB.ext hb3
    replace hR := hR.ext hb3
    have hA2 : IntsAt w2 w2.heap.size .i64 A m.free := (H1.out.free.below hb4).mono hb4.size
    have HA2 := Lib.hid hA2
    clear hb2 hb3 hA2
    obtain ⟨i0, hi, hz0, hz1, hz2⟩ := info_parts ints_info
    refine wp_region_ob 11423 288 11711 [0, 1, 2, 3, 4, 5, 7, 8, 10, 11, 6, 9, 12, 13, 14] (by kernel_rfl) (by kernel_rfl) (by kernel_rfl) rfl ?_
    repeat' (first
      | refine wpO_plain rfl rfl ?_
      | (refine' wpOW_ever _ (by decide) (by decide) (fun wq K hK => ?_) ?_ ?_
         rotate_left 1
         · (go_wp2_with (fail)
            all_goals exact hK)
         · rfl)
      | (refine' wpOW_reads _ (by decide) (by decide) (by decide) (fun wq hwq K hK => ?_) ?_ ?_
         rotate_left 1
         · (have c33 := (hB.ext hwq).cell 33; rw [hf] at c33; have ck := (hB.ext hwq).cell (1 + k); rw [hrk] at ck
            first
            | (fail)
            | (go_wp2_with (fail)
               all_goals exact hK))
         · rfl)
      | (refine' wpOW_calls _ (by decide) (by decide) (by decide) (fun wq hwq K hK => ?_) ?_ ?_
         rotate_left 1
         · (have c33 := (hB.ext hwq).cell 33; rw [hf] at c33; have ck := (hB.ext hwq).cell (1 + k); rw [hrk] at ck
            first
            | (fail)
            | (go_wp2_with (fail)
               all_goals exact hK _ hwq))
         · rfl)
      | (refine wpO_guardT rfl rfl rfl rfl ?_ ?_ <;> intro hc <;> first | (cases hc; done) | ((try cases hc); simp only [Act.put, List.setIfInBounds_toArray, List.set_cons_succ, List.set_cons_zero]))
      | (refine wpO_guardF rfl rfl rfl rfl ?_ ?_ <;> intro hc <;> first | (cases hc; done) | ((try cases hc); simp only [Act.put, List.setIfInBounds_toArray, List.set_cons_succ, List.set_cons_zero]))
      | refine wpO_guardU rfl rfl rfl rfl ?_)
    -- the one-element slice
    refine wpOW_beside (by decide) (by decide) (by decide) (by kernel_rfl) (fun w1 hw1 K1 hK1 => ?_)
    have hbw : Below w2.heap.size w2 w1 := by rw [hw1]; exact (Below.refl _ _).drew
    replace hb4 := hb4.trans (hbw.mono hb4.size)
    replace hB := hB.ext hbw
    replace hR := hR.ext hbw
    replace HA2 : Hid (IntsAt w1 w1.heap.size .i64 A m.free) := Lib.hid ((HA2.out.below hbw).mono hbw.size)
    clear hw1
    have hown1 := World.ownsRow_lit (base := w1.heap.size) (e := 3) (size := 1) w1 #[.int .i64 old] 1 (Nat.le_refl _) (by unfold maxLen; omega) rfl
    have hz1' := hbw.size
    go_wp2_with (fail)
    refine hK1 _ _ (hbw.alloc hbw.size _) ?_
    simp only [Act.put, List.setIfInBounds_toArray, List.set_cons_succ, List.set_cons_zero]
    clear hK1 K1
    -- append
    refine wpO_plain rfl rfl ?_
    refine wpOW_solo (by decide) (by decide) (by decide) (by kernel_rfl) (fun wx hwx K1 hK1 => ?_)
    subst hwx
    have hnews := ((HA2.out.below ((Below.refl _ w1).alloc (Nat.le_refl _) (.cells #[.int .i64 old] 3))).cells : ∀ ad, A = some ad → ∀ j u, (m.free.map (Value.int .i64))[j]? = some u → (w1.alloc (.cells #[.int .i64 old] 3)).cell? (ad.add j) = some u)
    refine wp_append_any (.tmp 27) (.tmp 29) 48 rfl w1.heap.size 3 i0 _ 1 8 Try.underlying48 hi hz0 hz1 hz2 rfl (by decide) (.slice (some ⟨w1.heap.size, 0, none⟩) 1 1) 1 _ rfl hown1 A n cap (m.free.map (.int .i64)) rfl (by simp [Hn.out]) (fun e => by have := H1.out.nil e; rw [Hn.out, this.1]; exact ⟨rfl, this.2⟩) hnews (ints_oneCell' _) (by unfold maxLen; omega) (by omega) (by simp) ?_
    intro v7 w7 hown7 hg7
    have hB1 := hB.lt
    have hR1 := hR.lt
    replace hB := (hB.alloc (.cells #[.int .i64 old] 3)).grown hg7 (by simp [Value.ownBlock]; omega)
    replace hR := (hR.alloc (.cells #[.int .i64 old] 3)).grown hg7 (by simp [Value.ownBlock]; omega)
    replace hb4 := (hb4.alloc hb4.size (.cells #[.int .i64 old] 3)).grown hg7 (by have := hb4.size; simp; omega) (fun k hk => by cases hk; exact hb4.size)
    obtain ⟨A7, cap7, rfl, hl7, hn7, hA7, hc7, hg7'⟩ := own_ints (l := old :: m.free) (show w7.ownsRow w1.heap.size 3 1 v7 (1 + n) ((old :: m.free).map (.int .i64)) from hown7)
    have Hg7 := Lib.hid (show ∀ ad, A7 = some ad → w.heap.size + 1 < ad.block from fun ad h => Nat.lt_of_lt_of_le hR1 (hg7' ad h))
    have Hl7 := Lib.hid hl7
    refine hK1 _ _ (fun _ => True) trivial ?_
    simp only [Act.put, List.setIfInBounds_toArray, List.set_cons_succ, List.set_cons_zero]
    clear hK1 K1 hg7' hg7 hown7 hl7 hnews hown1 hB1 hR1 hbw hz1'
    -- Regs[rd]
    refine wpO_plain rfl rfl ?_
    refine wpOW_solo (by decide) (by decide) (by decide) (by kernel_rfl) (fun wx hwx K1 hK1 => ?_)
    subst hwx
    have ck := hB.cell (1 + k)
    rw [hrk] at ck
    have fk := hB.frozen (1 + k)
    go_wp2_with (fail)
    refine hK1 undef _ (fun _ => True) trivial ?_
    simp only [Act.put, List.setIfInBounds_toArray, List.set_cons_succ, List.set_cons_zero]
    clear hK1 K1 ck fk
    replace hB := hB.set (1 + k) (.int .i64 p)
    replace hb4 := hb4.setCell (p := ⟨w.heap.size, 1 + k, none⟩) (Nat.le_refl _) (.int .i64 p)
    replace hA7 := hA7.setCell (p := ⟨w.heap.size, 1 + k, none⟩) (.int .i64 p) (fun ad h => by have := Hg7.out ad h; show ad.block ≠ w.heap.size; omega)
    replace hR := hR.far (p := ⟨w.heap.size, 1 + k, none⟩) (Nat.succ_ne_self _) (.int .i64 p)
    repeat' (first
      | refine wpO_plain rfl rfl ?_
      | (refine' wpOW_ever _ (by decide) (by decide) (fun wq K hK => ?_) ?_ ?_
         rotate_left 1
         · (go_wp2_with (fail)
            all_goals exact hK)
         · rfl)
      | (refine' wpOW_reads _ (by decide) (by decide) (by decide) (fun wq hwq K hK => ?_) ?_ ?_
         rotate_left 1
         · (skip
            first
            | (fail)
            | (go_wp2_with (fail)
               all_goals exact hK))
         · rfl)
      | (refine' wpOW_calls _ (by decide) (by decide) (by decide) (fun wq hwq K hK => ?_) ?_ ?_
         rotate_left 1
         · (skip
            first
            | (fail)
            | (go_wp2_with (fail)
               all_goals exact hK _ hwq))
         · rfl)
      | (refine wpO_guardT rfl rfl rfl rfl ?_ ?_ <;> intro hc <;> first | (cases hc; done) | ((try cases hc); simp only [Act.put, List.setIfInBounds_toArray, List.set_cons_succ, List.set_cons_zero]))
      | (refine wpO_guardF rfl rfl rfl rfl ?_ ?_ <;> intro hc <;> first | (cases hc; done) | ((try cases hc); simp only [Act.put, List.setIfInBounds_toArray, List.set_cons_succ, List.set_cons_zero]))
      | refine wpO_guardU rfl rfl rfl rfl ?_)
    refine wpOW_solo (by decide) (by decide) (by decide) (by kernel_rfl) (fun wx hwx K1 hK1 => ?_)
    subst hwx
    have ck := hB.cell 33
    have e33 : (cs.setIfInBounds (1 + k) (.int .i64 p))[33]? = cs[33]? := Array.getElem?_setIfInBounds_ne (by omega)
    rw [e33, hf] at ck
    have fk := hB.frozen 33
    go_wp2_with (fail)
    refine hK1 undef _ (fun _ => True) trivial ?_
    simp only [Act.put, List.setIfInBounds_toArray, List.set_cons_succ, List.set_cons_zero]
    clear hK1 K1 ck fk e33
    replace hB := hB.set 33 (.slice A7 (1 + n) cap7)
    replace hb4 := hb4.setCell (p := ⟨w.heap.size, 33, none⟩) (Nat.le_refl _) (.slice A7 (1 + n) cap7)
    replace hA7 := hA7.setCell (p := ⟨w.heap.size, 33, none⟩) (.slice A7 (1 + n) cap7) (fun ad h => by have := Hg7.out ad h; show ad.block ≠ w.heap.size; omega)
    replace hR := hR.far (p := ⟨w.heap.size, 33, none⟩) (Nat.succ_ne_self _) (.slice A7 (1 + n) cap7)
    have hend : (cs.setIfInBounds (1 + k) (.int .i64 p)).setIfInBounds 33 (.slice A7 (1 + n) cap7) = mapCells m.phys (m.regs.set k p) A7 (1 + n) cap7 := by rw [Hcs.out]; exact mapCells_set m.phys m.regs _ A7 _ _ _ cap7 k p hlen (by omega)
    rw [hend] at hB
    have hset : (m.regs.set k p).length = 32 := by simp [hlen]
    refine wpO_nil ?_
    rintro w9 hw9
    have hz9 : wx.heap.size = w9.heap.size := by rw [hw9]; simp
    rw [← hw9] at hB hb4 hA7 hR
    rw [hz9] at hA7
    clear hw9 hend hz9
    have hs9 := map_info (phys := m.phys) (A := A7) (n := 1 + n) (cap := cap7) hset
    have h19 := map_one m.phys (m.regs.set k p) A7 (1 + n) cap7
    obtain ⟨cs9, h9⟩ : ∃ cs9, cs9 = mapCells m.phys (m.regs.set k p) A7 (1 + n) cap7 := ⟨_, rfl⟩
    have Hv9 := Lib.hid h9
    have hsz9 : (mapCells m.phys (m.regs.set k p) A7 (1 + n) cap7).size = (mapCells 0 (List.replicate 32 0) none 0 0).size := by rw [mapCells_size _ _ _ _ _ hset]; rfl
    rw [← h9] at hsz9 hs9 h19 hB
    clear h9
    go_wp2_with (first
      | (refine wpList_load_all rfl 50 _ rfl w.heap.size rfl 50 cs9 _ hB Try.underlying50 rfl hs9 ?_)
      | (refine wpList_store_all rfl 50 _ _ rfl (w.heap.size + 1) cs9 rfl rfl 50 _ hR hs9 hsz9 h19 ?_; intro wx hBx hgx; have hld := load_map hBx hs9))
    refine bodyPost_ret (results_ct Try.results29 rfl rfl hld) rfl ?_
    have hm1 := H1.out
    have hlx : (old :: m.free).length = 1 + n := by simp [Hn.out]; omega
    refine ⟨_, rfl, below_grown hb4 hgx hb4.size (Nat.le_succ _), A7, cap7, by rw [Hv9.out]; show _ = Value.agg (mapCells m.phys (m.regs.set k p) A7 (old :: m.free).length cap7); rw [hlx], ?_, fun ad h => by have := Hg7.out ad h; omega⟩
    have hA10 := (hA7.grown (Nat.le_refl _) hgx (fun ad h => by have := Hg7.out ad h; omega)).mono hgx.size
    refine ⟨hm1.p0, hm1.p1, hset, by show (old :: m.free).length ≤ _; omega, by show (old :: m.free).length ≤ _; omega, hA10, hn7, fun x hx => ?_⟩
    rcases List.mem_append.1 hx with hx | hx
    · rcases List.mem_or_eq_of_mem_set hx with hx | rfl
      · exact hm1.wf x (List.mem_append_left _ hx)
      · exact ⟨hp0, hp1⟩
    · rcases List.mem_cons.1 hx with rfl | hx
      · exact hoo
      · exact hm1.wf x (List.mem_append_right _ hx)
  · have hg : undoP m rd p = none := by unfold undoP; rw [if_neg hok]
    have Htk := Lib.hid (show undoD m rd p = RMap.zero by unfold undoD; rw [hg]; rfl)
    rw [hg]
    have hok' : otherP m p = false ∨ (otherP m p = true ∧ rd < 1) ∨ (otherP m p = true ∧ 1 ≤ rd ∧ 31 < rd) := by
      rcases ho : otherP m p with _ | _
      · exact Or.inl rfl
      · by_cases h1 : rd < 1
        · exact Or.inr (Or.inl ⟨rfl, h1⟩)
        · by_cases h2 : 31 < rd
          · exact Or.inr (Or.inr ⟨rfl, by omega, h2⟩)
          · exact absurd ⟨ho, by omega, by omega⟩ hok
    generalize mapCells m.phys m.regs A m.free.length cap = cs at *
    generalize otherP m p = X at *
    have Hu := Lib.hid hu
    clear hu hg hok hv h hf hrg
    rcases hok' with rfl | ⟨rfl, h1⟩ | ⟨rfl, h1, h2⟩
    ·
      go_enter Try.func29, Try.ntmps29
      go_upto_region 1 with (fail)
      go_simp
      refine wp_gen fun wa hq => ?_
      have hb2 : Below w.heap.size w wa := by rw [hq]; exact ((Below.refl w.heap.size w).alloc (Nat.le_refl _) _).alloc (by simp) _
      have hB : Blk wa w.heap.size 50 cs := by rw [hq]; exact (Blk.new w 50 cs).alloc _
      have hR : Blk wa (w.heap.size + 1) 50 (mapCells 0 (List.replicate 32 0) none 0 0) := by rw [hq]; exact Blk.newAt (w.alloc (.cells cs 50)) 50 _ (by simp)
      clear hq
      go_wp2_with (first
        | (refine wpList_load_all rfl 50 _ rfl w.heap.size rfl 50 cs _ hB Try.underlying50 rfl hs ?_)
        | (go_at_call 55; (with_reducible refine (Hu.out _ hb2).mono ?_); rintro e w2 ⟨rfl, hb3⟩; have hR2 := hR.ext hb3)
        | (refine wpList_build_to rfl 50 _ rfl [] rfl _ built_map0 ?_)
        | (refine wpList_store_all rfl 50 _ _ rfl (w.heap.size + 1) (mapCells 0 (List.replicate 32 0) none 0 0) rfl rfl 50 _ hR2 zero_info rfl (map_one _ _ _ _ _) ?_; intro w5 hB5 hg5; have hld := load_map hB5 zero_info))
      refine bodyPost_ret (results_ct Try.results29 rfl rfl hld) rfl ?_
      rw [Htk.out]
      exact ⟨_, rfl, below_grown (hb2.trans (hb3.mono hb2.size)) hg5 (Nat.le_trans hb2.size hb3.size) (Nat.le_succ _), MapF.zero _ _⟩
    ·
      go_enter Try.func29, Try.ntmps29
      go_upto_region 1 with (fail)
      go_simp
      refine wp_gen fun wa hq => ?_
      have hb2 : Below w.heap.size w wa := by rw [hq]; exact ((Below.refl w.heap.size w).alloc (Nat.le_refl _) _).alloc (by simp) _
      have hB : Blk wa w.heap.size 50 cs := by rw [hq]; exact (Blk.new w 50 cs).alloc _
      have hR : Blk wa (w.heap.size + 1) 50 (mapCells 0 (List.replicate 32 0) none 0 0) := by rw [hq]; exact Blk.newAt (w.alloc (.cells cs 50)) 50 _ (by simp)
      clear hq
      go_wp2_with (first
        | (refine wpList_load_all rfl 50 _ rfl w.heap.size rfl 50 cs _ hB Try.underlying50 rfl hs ?_)
        | (go_at_call 55; (with_reducible refine (Hu.out _ hb2).mono ?_); rintro e w2 ⟨rfl, hb3⟩; have hR2 := hR.ext hb3)
        | (refine wpList_build_to rfl 50 _ rfl [] rfl _ built_map0 ?_)
        | (refine wpList_store_all rfl 50 _ _ rfl (w.heap.size + 1) (mapCells 0 (List.replicate 32 0) none 0 0) rfl rfl 50 _ hR2 zero_info rfl (map_one _ _ _ _ _) ?_; intro w5 hB5 hg5; have hld := load_map hB5 zero_info))
      refine bodyPost_ret (results_ct Try.results29 rfl rfl hld) rfl ?_
      rw [Htk.out]
      exact ⟨_, rfl, below_grown (hb2.trans (hb3.mono hb2.size)) hg5 (Nat.le_trans hb2.size hb3.size) (Nat.le_succ _), MapF.zero _ _⟩
    ·
      go_enter Try.func29, Try.ntmps29
      go_upto_region 1 with (fail)
      go_simp
      refine wp_gen fun wa hq => ?_
      have hb2 : Below w.heap.size w wa := by rw [hq]; exact ((Below.refl w.heap.size w).alloc (Nat.le_refl _) _).alloc (by simp) _
      have hB : Blk wa w.heap.size 50 cs := by rw [hq]; exact (Blk.new w 50 cs).alloc _
      have hR : Blk wa (w.heap.size + 1) 50 (mapCells 0 (List.replicate 32 0) none 0 0) := by rw [hq]; exact Blk.newAt (w.alloc (.cells cs 50)) 50 _ (by simp)
      clear hq
      go_wp2_with (first
        | (refine wpList_load_all rfl 50 _ rfl w.heap.size rfl 50 cs _ hB Try.underlying50 rfl hs ?_)
        | (go_at_call 55; (with_reducible refine (Hu.out _ hb2).mono ?_); rintro e w2 ⟨rfl, hb3⟩; have hR2 := hR.ext hb3)
        | (refine wpList_build_to rfl 50 _ rfl [] rfl _ built_map0 ?_)
        | (refine wpList_store_all rfl 50 _ _ rfl (w.heap.size + 1) (mapCells 0 (List.replicate 32 0) none 0 0) rfl rfl 50 _ hR2 zero_info rfl (map_one _ _ _ _ _) ?_; intro w5 hB5 hg5; have hld := load_map hB5 zero_info))
      refine bodyPost_ret (results_ct Try.results29 rfl rfl hld) rfl ?_
      rw [Htk.out]
      exact ⟨_, rfl, below_grown (hb2.trans (hb3.mono hb2.size)) hg5 (Nat.le_trans hb2.size hb3.size) (Nat.le_succ _), MapF.zero _ _⟩
end Go.Proofs.Ytapgojgcmlnbgaa
