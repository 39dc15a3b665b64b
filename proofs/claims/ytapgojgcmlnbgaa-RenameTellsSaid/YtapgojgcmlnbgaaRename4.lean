/- The walk of rename.Give. -/
import Derived.Test.YtapgojgcmlnbgaaRename3
namespace Go.Proofs.Ytapgojgcmlnbgaa
open Go.RowKit

def giveD (m : RMap) (p : Int) : RMap := (giveP m p).getD RMap.zero
set_option maxRecDepth 100000 in
set_option maxHeartbeats 1000000 in
theorem give_any {w : World} {m : RMap} {v : Value} (h : MapV w m v) (p : Int) (hp0 : -9223372036854775808 ≤ p) (hp1 : p ≤ 9223372036854775807) (hfew : m.free.length < 17592186044000) :
    Calls Try.prog 28 #[v, .int .i64 p] w fun e w' => ∃ v', e = .returned (.tuple #[v', .bool (giveP m p).isSome]) ∧ Below w.heap.size w w' ∧ MapF w' w.heap.size (giveD m p) v' := by
  have hv := h
  have hu := fun W (hb : Below w.heap.size w W) => other_any (h.ext hb) p hp0 hp1
  obtain ⟨A, cap, rfl, h⟩ := h
  have hs := map_info (phys := m.phys) (A := A) (n := m.free.length) (cap := cap) h.len
  have hf := mapCells_free m.phys m.regs A m.free.length cap h.len
  rcases hok : otherP m p with _ | _
  · have hg : giveP m p = none := by unfold giveP; rw [if_neg (by rw [hok]; simp)]
    have Htk := Lib.hid (show giveD m p = RMap.zero by unfold giveD; rw [hg]; rfl)
    rw [hg]
    rw [hok] at hu
    generalize mapCells m.phys m.regs A m.free.length cap = cs at *
    have Hu := Lib.hid hu
    clear hu hg hok hv h hf
    go_enter Try.func28, Try.ntmps28
    go_upto_region 1 with (fail)
    go_simp
    refine wp_gen fun wa hq => ?_
    have hb2 : Below w.heap.size w wa := by rw [hq]; exact ((Below.refl w.heap.size w).alloc (Nat.le_refl _) _).alloc (by simp) _
    have hB : Blk wa w.heap.size 50 cs := by rw [hq]; exact (Blk.new w 50 cs).alloc _
    have hR : Blk wa (w.heap.size + 1) 50 (mapCells 0 (List.replicate 32 0) none 0 0) := by rw [hq]; exact Blk.newAt (w.alloc (.cells cs 50)) 50 _ (by simp)
    clear hq
    go_wp2_with (first
      | (refine wpList_load_all rfl 50 _ rfl w.heap.size rfl 50 cs _ hB Try.underlying50 rfl hs ?_)
      | (go_at_call 55; (with_reducible refine (Hu.out _ hb2).mono ?_); rintro e w2 ⟨rfl, hb3⟩; have hR2 := hR.ext hb3)
      | (refine wpList_build_to rfl 50 _ rfl [] rfl _ built_map0 ?_)
      | (refine wpList_store_all rfl 50 _ _ rfl (w.heap.size + 1) (mapCells 0 (List.replicate 32 0) none 0 0) rfl rfl 50 _ hR2 zero_info rfl (map_one _ _ _ _ _) ?_; intro w5 hB5 hg5; have hld := load_map hB5 zero_info))
    refine bodyPost_ret (results_ct Try.results28 rfl rfl hld) rfl ?_
    rw [Htk.out]
    exact ⟨_, rfl, below_grown (hb2.trans (hb3.mono hb2.size)) hg5 (Nat.le_trans hb2.size hb3.size) (Nat.le_succ _), MapF.zero _ _⟩
  · have hg : giveP m p = some ⟨m.phys, m.regs, m.free ++ [p]⟩ := by unfold giveP; rw [if_pos hok]
    have hgd : giveD m p = ⟨m.phys, m.regs, m.free ++ [p]⟩ := by unfold giveD; rw [hg]; rfl
    rw [hg, hgd]
    rw [hok] at hu
    simp only [Option.isSome_some]
    obtain ⟨cs, hcs⟩ : ∃ cs, cs = mapCells m.phys m.regs A m.free.length cap := ⟨_, rfl⟩
    rw [← hcs] at hs hf hu ⊢
    have hroom := h.room
    have hlen := h.len
    have Hcs := Lib.hid hcs
    have Hu := Lib.hid hu
    have H1 := Lib.hid h
    obtain ⟨n, hn⟩ : ∃ n, n = m.free.length := ⟨_, rfl⟩
    rw [← hn] at hfew hroom hf
    have Hn := Lib.hid hn
    clear hu hg hgd hok hv hcs h hn
    go_enter Try.func28, Try.ntmps28
    go_upto_region 1 with (fail)
    go_simp
    refine wp_gen fun wa hq => ?_
    have hb2 : Below w.heap.size w wa := by rw [hq]; exact ((Below.refl w.heap.size w).alloc (Nat.le_refl _) _).alloc (by simp) _
    have hB : Blk wa w.heap.size 50 cs := by rw [hq]; exact (Blk.new w 50 cs).alloc _
    have hR : Blk wa (w.heap.size + 1) 50 (mapCells 0 (List.replicate 32 0) none 0 0) := by rw [hq]; exact Blk.newAt (w.alloc (.cells cs 50)) 50 _ (by simp)
    clear hq
    go_upto_region 3 with (first
      | (refine wpList_load_all rfl 50 _ rfl w.heap.size rfl 50 cs _ hB Try.underlying50 rfl hs ?_)
      | (go_at_call 55; (with_reducible refine (Hu.out _ hb2).mono ?_); rintro e w2 ⟨rfl, hb3⟩))
    have hb4 := hb2.trans (hb3.mono hb2.size)
    replace hB := hB.ext hb3
    replace hR := hR.ext hb3
    have c33 := hB.cell 33
    rw [hf] at c33
    have hA2 : IntsAt w2 w2.heap.size .i64 A m.free := (H1.out.free.below hb4).mono hb4.size
    have hnl : A = none → n = 0 := fun e => by rw [Hn.out, (H1.out.nil e).1]; rfl
    have hln : (m.free.map (Value.int .i64)).length = n * 1 := by simp [Hn.out]
    have hcells := Lib.hid hA2.cells
    have Hnl := Lib.hid hnl
    have Hln := Lib.hid hln
    clear hb2 hb3 hA2 hnl hln
    obtain ⟨i0, hi, hz0, hz1, hz2⟩ := info_parts ints_info
    go_upto_region 4 with (first
      | (go_at_call 53; (with_reducible refine (cloneInts_any A n cap (m.free.map (Value.int .i64)) _ (by omega) Hln.out (ints_oneCell' _) hcells.out Hnl.out).mono ?_); rintro e w5 ⟨v5, rfl, hown5, hb5⟩; have hB5 := hB.ext hb5; have hR5 := hR.ext hb5; have hb6 := hb4.trans (hb5.mono hb4.size); have zz := hb5.size)
      | (refine wpList_append_any rfl (.tmp 13) (.tmp 15) 48 rfl w2.heap.size 3 i0 _ 1 8 Try.underlying48 hi hz0 hz1 hz2 rfl (by decide) v5 n _ rfl (hown5.alloc _) (some ⟨w5.heap.size, 0, none⟩) 1 1 [.int .i64 p] rfl rfl (fun h => by cases h) (lit_one w5 _ _) (by simp; rfl) (by unfold maxLen; omega) (by omega) (by simp; omega) ?_; intro v7 w7 hown7 hg7; have hB7 := (hB5.alloc (.cells #[.int .i64 p] 3)).grown hg7 (fun h => by have := hown5.lt _ h.symm; have := hB.lt; omega); have hR7 := (hR5.alloc (.cells #[.int .i64 p] 3)).grown hg7 (fun h => by have := hown5.lt _ h.symm; have := hR.lt; omega); have hb7 := (hb6.alloc hb6.size (.cells #[.int .i64 p] 3)).grown hg7 (by have := hb6.size; simp; omega) (fun k hk => by have := hown5.lt _ hk; have := hb4.size; omega); have c7 := hB7.cell 33; rw [hf] at c7; have f7 := hB7.frozen 33; obtain ⟨A7, cap7, rfl, hl7, hn7, hA7, hc7, hg7'⟩ := own_ints (l := m.free ++ [p]) (show w7.ownsRow w2.heap.size 3 1 v7 (n + 1) ((m.free ++ [p]).map (.int .i64)) by rw [List.map_append]; exact hown7); have Hg7 := Lib.hid (show ∀ ad, A7 = some ad → w.heap.size + 1 < ad.block from fun ad h => Nat.lt_of_lt_of_le hR.lt (hg7' ad h)); have Hl7 := Lib.hid hl7; clear hg7' hg7 hown7 hl7))
    go_simp
    refine wp_gen fun w9 hw9 => ?_
    have hB9 := hB7.set 33 (.slice A7 (n + 1) cap7)
    have hb9 := hb7.setCell (p := ⟨w.heap.size, 33, none⟩) (Nat.le_refl _) (.slice A7 (n + 1) cap7)
    have hA9 := hA7.setCell (p := ⟨w.heap.size, 33, none⟩) (.slice A7 (n + 1) cap7) (fun ad h => by have := Hg7.out ad h; show ad.block ≠ w.heap.size; omega)
    have hR9 := hR7.far (p := ⟨w.heap.size, 33, none⟩) (Nat.succ_ne_self _) (.slice A7 (n + 1) cap7)
    have hend : cs.setIfInBounds 33 (.slice A7 (n + 1) cap7) = mapCells m.phys m.regs A7 (n + 1) cap7 := by
      rw [Hcs.out]
      have := mapCells_set m.phys m.regs A A7 m.free.length cap (n + 1) cap7 0 (m.regs.getD 0 0) hlen (by omega)
      have e1 : m.regs.set 0 (m.regs.getD 0 0) = m.regs := by
        have : m.regs.getD 0 0 = m.regs[0]'(by omega) := by simp [List.getD, List.getElem?_eq_getElem (show 0 < m.regs.length by omega)]
        rw [this, List.set_getElem_self]
      have e2 : (mapCells m.phys m.regs A m.free.length cap).setIfInBounds (1 + 0) (.int .i64 (m.regs.getD 0 0)) = mapCells m.phys m.regs A m.free.length cap := by
        have hr0 := mapCells_reg m.phys m.regs A m.free.length cap (i := 0) (by omega)
        apply Array.ext_getElem?
        intro i
        rw [Array.getElem?_setIfInBounds]
        split
        · rename_i hi; subst hi; rw [hr0, if_pos (by rw [mapCells_size _ _ _ _ _ hlen]; omega)]
        · rfl
      rw [e1, e2] at this
      exact this
    rw [hend] at hB9
    rw [← hw9] at hB9 hb9 hA9 hR9
    have hz9 : w7.heap.size = w9.heap.size := by rw [hw9]; simp
    rw [hz9] at hA9
    clear hw9 hz9 hend hB hR hB5 hR5 hb6 hB7 hR7 hb7 hA7 c7 f7 hown5 hb5
    have hs9 := map_info (phys := m.phys) (A := A7) (n := n + 1) (cap := cap7) hlen
    have h19 := map_one m.phys m.regs A7 (n + 1) cap7
    obtain ⟨cs9, h9⟩ : ∃ cs9, cs9 = mapCells m.phys m.regs A7 (n + 1) cap7 := ⟨_, rfl⟩
    have hsz9 : (mapCells m.phys m.regs A7 (n + 1) cap7).size = (mapCells 0 (List.replicate 32 0) none 0 0).size := by rw [mapCells_size _ _ _ _ _ hlen]; rfl
    rw [← h9] at hsz9 hs9 h19 hB9
    have Hv9 := Lib.hid h9
    clear h9
    go_wp2_with (first
      | (refine wpList_load_all rfl 50 _ rfl w.heap.size rfl 50 cs9 _ hB9 Try.underlying50 rfl hs9 ?_)
      | (refine wpList_store_all rfl 50 _ _ rfl (w.heap.size + 1) cs9 rfl rfl 50 _ hR9 hs9 hsz9 h19 ?_; intro wx hBx hgx; have hld := load_map hBx hs9))
    refine bodyPost_ret (results_ct Try.results28 rfl rfl hld) rfl ?_
    have hm1 := H1.out
    have hlx : (m.free ++ [p]).length = n + 1 := by simp [Hn.out]
    refine ⟨_, rfl, below_grown hb9 hgx hb9.size (Nat.le_succ _), A7, cap7, by rw [Hv9.out]; show _ = Value.agg (mapCells m.phys m.regs A7 (m.free ++ [p]).length cap7); rw [hlx], ?_, fun ad h => by have := Hg7.out ad h; omega⟩
    have hA10 := (hA9.grown (Nat.le_refl _) hgx (fun ad h => by have := Hg7.out ad h; omega)).mono hgx.size
    refine ⟨hm1.p0, hm1.p1, hlen, by show (m.free ++ [p]).length ≤ _; omega, by show (m.free ++ [p]).length ≤ _; omega, hA10, hn7, fun x hx => ?_⟩
    rcases List.mem_append.1 hx with hx | hx
    · exact hm1.wf x (List.mem_append_left _ hx)
    · rcases List.mem_append.1 hx with hx | hx
      · exact hm1.wf x (List.mem_append_right _ hx)
      · simp at hx; subst hx; exact ⟨hp0, hp1⟩
end Go.Proofs.Ytapgojgcmlnbgaa
