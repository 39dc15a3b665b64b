/- The walk of the document's answer on maps of registers: Give. -/
import Derived.Test.YtapgojgcmlnbgaaRef7Take
namespace Go.Proofs.Ytapgojgcmlnbgaa
open Go.RowKit

set_option maxRecDepth 100000 in
set_option maxHeartbeats 1000000 in
theorem rgive_any {w : World} {m : RMap} {v : Value} (h : MapV w m v) (p : Int) (hp0 : -9223372036854775808 ≤ p) (hp1 : p ≤ 9223372036854775807) (hfew : m.free.length < 17592186044000) :
    Calls Try.prog 40 #[v, .int .i64 p] w fun e w' => ∃ v', e = .returned (.tuple #[v', .bool (giveP m p).isSome]) ∧ Below w.heap.size w w' ∧ MapF w' w.heap.size (giveD m p) v' := by
  have hv := h
  have hu := fun W (hb : Below w.heap.size w W) => rother_any (h.ext hb) p
  obtain ⟨A, cap, rfl, h⟩ := h
  have hs := map_info (phys := m.phys) (A := A) (n := m.free.length) (cap := cap) h.len
  have hf := mapCells_free m.phys m.regs A m.free.length cap h.len
  have hone := map_one m.phys m.regs A m.free.length cap
  have hsz := mapCells_size m.phys m.regs A m.free.length cap h.len
  by_cases hok : otherP m p = true
  · have hg : giveP m p = some ⟨m.phys, m.regs, m.free ++ [p]⟩ := by unfold giveP; rw [if_pos hok]
    have hgd : giveD m p = ⟨m.phys, m.regs, m.free ++ [p]⟩ := by unfold giveD; rw [hg]; rfl
    rw [hg, hgd]
    rw [hok] at hu
    simp only [Option.isSome_some]
    obtain ⟨cs, hcs⟩ : ∃ cs, cs = mapCells m.phys m.regs A m.free.length cap := ⟨_, rfl⟩
    rw [← hcs] at hs hf hu hone hsz ⊢
    have hroom := h.room
    have hlen := h.len
    obtain ⟨n, hn⟩ : ∃ n, n = m.free.length := ⟨_, rfl⟩
    rw [← hn] at hfew hroom hf hcs
    have Hcs := Lib.hid hcs
    have Hu := Lib.hid hu
    have H1 := Lib.hid h
    have Hn := Lib.hid hn
    have hsz0 : cs.size = (mapCells 0 (List.replicate 32 0) none 0 0).size := by rw [hsz]; rfl
    clear hu hg hgd hok hv hcs h hn
    obtain ⟨i0, hi, hz0, hz1, hz2⟩ := info_parts ints_info
    go_enter Try.func40, Try.ntmps40
    go_upto_region 1 with (fail)
    go_simp
    refine wp_gen fun wa hq => ?_
    have hb2 : Below w.heap.size w wa := by rw [hq]; exact ((Below.refl w.heap.size w).alloc (Nat.le_refl _) _).alloc (by simp) _
    have hB : Blk wa w.heap.size 50 cs := by rw [hq]; exact (Blk.new w 50 cs).alloc _
    have hR : Blk wa (w.heap.size + 1) 50 (mapCells 0 (List.replicate 32 0) none 0 0) := by rw [hq]; exact Blk.newAt (w.alloc (.cells cs 50)) 50 _ (by simp)
    clear hq
    go_upto_region 3 with (first
      | (refine wpList_load_all rfl 50 _ rfl w.heap.size rfl 50 cs _ hB Try.underlying50 rfl hs ?_)
      | (go_at_call 63; (with_reducible refine (Hu.out _ hb2).mono ?_); rintro e w2 ⟨rfl, hb3⟩))
    go_simp
    have hb4 := hb2.trans (hb3.mono hb2.size)
    replace hB := hB.ext hb3
    replace hR := hR.ext hb3
    have z2 : w.heap.size + 2 ≤ w2.heap.size := by have := hR.lt; omega
    clear hb2 hb3
    have hN0 := Blk.new w2 50 (mapCells 0 (List.replicate 32 0) none 0 0)
    have hB0 := hB.alloc (.cells (mapCells 0 (List.replicate 32 0) none 0 0) 50)
    go_upto_region 4 with (first
      | (refine wpList_load_all rfl 50 _ rfl w.heap.size rfl 50 cs _ hB Try.underlying50 rfl hs ?_)
      | (refine wpList_store_all rfl 50 _ _ rfl w2.heap.size cs rfl rfl 50 _ hN0 hs hsz0 hone ?_; intro w6 hN6 hg6))
    go_simp
    have hb6 := below_grown (hb4.alloc hb4.size (.cells (mapCells 0 (List.replicate 32 0) none 0 0) 50)) hg6 (by simp; omega) hb4.size
    have hB6 := hB0.grown hg6 (by simp; omega)
    have hR6 := (hR.alloc (.cells (mapCells 0 (List.replicate 32 0) none 0 0) 50)).grown hg6 (by simp; omega)
    have z6 : w2.heap.size < w6.heap.size := hN6.lt
    have HA6 := Lib.hid ((H1.out.free.below hb6).mono hb6.size)
    rw [Hcs.out] at hN6
    clear hN0 hB0 hR hB hb4 hg6
    have hown0 := World.ownsRow_lit (base := w6.heap.size) (e := 3) (size := 1) w6 #[] 0 (Nat.le_refl _) (by unfold maxLen; omega) rfl
    have c33 := hB6.cell 33
    rw [hf] at c33
    have zB6 := hB6.lt
    have Hc6 := Lib.hid HA6.out.cells
    go_upto_region 5 with (first
      | (at_builtin; (refine wpList_append_any rfl (.tmp 13) (.tmp 15) 48 rfl w6.heap.size 3 i0 _ 1 8 Try.underlying48 hi hz0 hz1 hz2 rfl (by decide) _ 0 [] rfl hown0 A n cap (m.free.map (Value.int .i64)) rfl (by simp [Hn.out]) (fun h => by obtain ⟨e1, e2⟩ := H1.out.nil h; exact ⟨by rw [Hn.out, e1]; rfl, e2⟩) (fun ad hd j u hu => (World.cell?_alloc_lt _ _ _ (World.block_lt_of_cell? _ _ (Hc6.out ad hd j u hu))).trans (Hc6.out ad hd j u hu)) (ints_oneCell' _) (by unfold maxLen; omega) (by omega) (by simp) ?_; intro v8 w8 hown8 hg8; have hN8 := (hN6.alloc (.cells #[] 3)).grown hg8 (fun h => by (have h : some w2.heap.size = some w6.heap.size := h); injection h with h; omega); have c8 := hN8.cell 33; rw [mapCells_free _ _ _ _ _ hlen] at c8; have f8 := hN8.frozen 33; obtain ⟨A8, cap8, rfl⟩ := own_value hown8)))
    go_simp
    have hN9 := hN8.set 33 (.slice A8 n cap8)
    rw [mapCells_setfree _ _ _ _ _ _ _ _ hlen] at hN9
    have hb8 : Below w.heap.size w w8 := (hb6.alloc hb6.size (.cells #[] 3)).grown hg8 (by have := hb6.size; simp; omega) (fun j hj => by cases hj; exact hb6.size)
    have hb9 := hb8.setCell (p := ⟨w2.heap.size, 33, none⟩) (by show w.heap.size ≤ w2.heap.size; omega) (.slice A8 n cap8)
    have hR9 := ((hR6.alloc (.cells #[] 3)).grown hg8 (fun h => by (have h : some (w.heap.size + 1) = some w6.heap.size := h); injection h with h; omega)).far (p := ⟨w2.heap.size, 33, none⟩) (by show w.heap.size + 1 ≠ w2.heap.size; omega) (.slice A8 n cap8)
    have hown9 := own_setCell hown8 (p := ⟨w2.heap.size, 33, none⟩) (by show w2.heap.size < w6.heap.size; omega) (.slice A8 n cap8)
    have y9 : w6.heap.size ≤ (w8.setCell ⟨w2.heap.size, 33, none⟩ (.slice A8 n cap8)).heap.size := by have := hg8.size; simp at this ⊢; omega
    clear c8 f8 hN8 hb8 hown8 hg8 c33 hN6 hR6 hb6 hB6 hown0 zB6
    try simp only [Nat.zero_add, List.nil_append] at hown9 hN9 hb9 hR9 y9
    generalize w8.setCell _ _ = w9 at *
    -- one more
    have hN9' := hN9.alloc (.cells #[.int .i64 p] 3)
    have c9 := hN9.cell 33
    rw [mapCells_free _ _ _ _ _ hlen] at c9
    have z9 := hN9.lt
    go_upto_region 6 with (first
      | (at_builtin; (refine wpList_append_any rfl (.tmp 19) (.tmp 21) 48 rfl w6.heap.size 3 i0 _ 1 8 Try.underlying48 hi hz0 hz1 hz2 rfl (by decide) (.slice A8 n cap8) n _ rfl (hown9.alloc _) (some ⟨w9.heap.size, 0, none⟩) 1 1 [.int .i64 p] rfl rfl (fun h => by cases h) (lit_one w9 _ _) (by simp; rfl) (by unfold maxLen; omega) (by omega) (by simp; omega) ?_; intro v10 w10 hown10 hg10; have hN10 := hN9'.grown hg10 (fun h => by have := (hown9.lt _ h.symm).1; omega); have c10 := hN10.cell 33; rw [mapCells_free _ _ _ _ _ hlen] at c10; have f10 := hN10.frozen 33; obtain ⟨A10, cap10, rfl⟩ := own_value hown10)))
    go_simp
    have hN11 := hN10.set 33 (.slice A10 (n + 1) cap10)
    rw [mapCells_setfree _ _ _ _ _ _ _ _ hlen] at hN11
    have hb10 : Below w.heap.size w w10 := (hb9.alloc hb9.size (.cells #[.int .i64 p] 3)).grown hg10 (by have := hb9.size; simp; omega) (fun j hj => by have := (hown9.lt _ hj).1; omega)
    have hb11 := hb10.setCell (p := ⟨w2.heap.size, 33, none⟩) (by show w.heap.size ≤ w2.heap.size; omega) (.slice A10 (n + 1) cap10)
    have hR11 := ((hR9.alloc (.cells #[.int .i64 p] 3)).grown hg10 (fun h => by have := (hown9.lt _ h.symm).1; omega)).far (p := ⟨w2.heap.size, 33, none⟩) (by show w.heap.size + 1 ≠ w2.heap.size; omega) (.slice A10 (n + 1) cap10)
    have hown11 := own_setCell hown10 (p := ⟨w2.heap.size, 33, none⟩) (by show w2.heap.size < w6.heap.size; omega) (.slice A10 (n + 1) cap10)
    clear c10 f10 hN10 hb10 hown10 hg10 hN9' c9 z9 hR9 hb9 hown9
    rw [show m.free.map (Value.int .i64) ++ [.int .i64 p] = (m.free ++ [p]).map (Value.int .i64) by simp] at hown11
    generalize w10.setCell _ _ = w11 at *
    have hN9 := hN11
    have hR9 := hR11
    have hb9 := hb11
    have hown9 := hown11
    clear hN11 hR11 hb11 hown11
    have hset : (m.regs : List Int).length = 32 := by simp [hlen]
    have hs9 := map_info (phys := m.phys) (A := A10) (n := (n + 1)) (cap := cap10) hset
    have h19 := map_one m.phys m.regs A10 (n + 1) cap10
    obtain ⟨cs9, h9⟩ : ∃ cs9, cs9 = mapCells m.phys m.regs A10 (n + 1) cap10 := ⟨_, rfl⟩
    have Hv9 := Lib.hid h9
    have hsz9 : (mapCells m.phys m.regs A10 (n + 1) cap10).size = (mapCells 0 (List.replicate 32 0) none 0 0).size := by rw [mapCells_size _ _ _ _ _ hset]; rfl
    rw [← h9] at hsz9 hs9 h19 hN9
    clear h9
    go_wp2_with (first
      | (refine wpList_load_all rfl 50 _ rfl w2.heap.size rfl 50 cs9 _ hN9 Try.underlying50 rfl hs9 ?_)
      | (refine wpList_store_all rfl 50 _ _ rfl (w.heap.size + 1) cs9 rfl rfl 50 _ hR9 hs9 hsz9 h19 ?_; intro wx hBx hgx; have hld := load_map hBx hs9))
    refine bodyPost_ret (results_ct Try.results40 rfl rfl hld) rfl ?_
    obtain ⟨A', cap', he, hl9, hn9, hA9, hc9, hg9⟩ := own_ints hown9
    cases he
    have hm1 := H1.out
    have hA10 := (hA9.grown (Nat.le_refl _) hgx (fun ad h => by have := hg9 ad h; omega)).mono hgx.size
    refine ⟨_, rfl, below_grown hb9 hgx hb9.size (Nat.le_succ _), A10, cap10, by rw [Hv9.out]; show _ = Value.agg (mapCells m.phys m.regs A10 (m.free ++ [p]).length cap10); rw [hl9], ?_, fun ad h => by have := hg9 ad h; omega⟩
    refine ⟨hm1.p0, hm1.p1, hset, by show (m.free ++ [p]).length ≤ _; omega, by show (m.free ++ [p]).length ≤ _; omega, hA10, hn9, fun x hx => ?_⟩
    have hx' : x ∈ m.regs ++ (m.free ++ [p]) := hx
    rw [← List.append_assoc] at hx'
    rcases List.mem_append.1 hx' with hx | hx
    · exact hm1.wf x hx
    · rw [List.mem_singleton.1 hx]; exact ⟨hp0, hp1⟩
  · have htk : giveP m p = none := by unfold giveP; rw [if_neg hok]
    have Htk := Lib.hid (show giveD m p = RMap.zero by unfold giveD; rw [htk]; rfl)
    rw [htk]
    have hof : otherP m p = false := by simpa using hok
    rw [hof] at hu
    clear hok htk hv h hof
    generalize mapCells m.phys m.regs A m.free.length cap = cs at *
    have Hu := Lib.hid hu
    clear hu
    go_enter Try.func40, Try.ntmps40
    go_upto_region 1 with (fail)
    go_simp
    refine wp_gen fun wa hq => ?_
    have hb2 : Below w.heap.size w wa := by rw [hq]; exact ((Below.refl w.heap.size w).alloc (Nat.le_refl _) _).alloc (by simp) _
    have hB : Blk wa w.heap.size 50 cs := by rw [hq]; exact (Blk.new w 50 cs).alloc _
    have hR : Blk wa (w.heap.size + 1) 50 (mapCells 0 (List.replicate 32 0) none 0 0) := by rw [hq]; exact Blk.newAt (w.alloc (.cells cs 50)) 50 _ (by simp)
    clear hq
    go_wp2_with (first
      | (refine wpList_load_all rfl 50 _ rfl w.heap.size rfl 50 cs _ hB Try.underlying50 rfl hs ?_)
      | (go_at_call 63; (with_reducible refine (Hu.out _ hb2).mono ?_); rintro e w2 ⟨rfl, hb3⟩; have hR2 := hR.ext hb3)
      | (refine wpList_build_to rfl 50 _ rfl [] rfl _ built_map0 ?_)
      | (refine wpList_store_all rfl 50 _ _ rfl (w.heap.size + 1) (mapCells 0 (List.replicate 32 0) none 0 0) rfl rfl 50 _ hR2 zero_info rfl (map_one _ _ _ _ _) ?_; intro w5 hB5 hg5; have hld := load_map hB5 zero_info))
    refine bodyPost_ret (results_ct Try.results40 rfl rfl hld) rfl ?_
    rw [Htk.out]
    exact ⟨_, rfl, below_grown (hb2.trans (hb3.mono hb2.size)) hg5 (Nat.le_trans hb2.size hb3.size) (Nat.le_succ _), MapF.zero _ _⟩
end Go.Proofs.Ytapgojgcmlnbgaa
