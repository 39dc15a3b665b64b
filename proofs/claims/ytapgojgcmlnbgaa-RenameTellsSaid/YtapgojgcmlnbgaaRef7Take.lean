/- The walk of the document's answer on maps of registers: Take. -/
import Derived.Test.YtapgojgcmlnbgaaRef7May
import Derived.Test.YtapgojgcmlnbgaaRef7New
namespace Go.Proofs.Ytapgojgcmlnbgaa
open Go.RowKit

/-- A row that another block's growing leaves. -/
theorem news_far {w w' : World} {A : Option Addr} {l : List Int} (h : IntsAt w w.heap.size .i64 A l) (hb : Below w.heap.size w w') : ∀ ad, A = some ad → ∀ j u, (l.map (Value.int .i64))[j]? = some u → w'.cell? (ad.add j) = some u :=
  ((h.below hb).mono hb.size).cells
/-- A row of the call's own stays when a cell of another, older block is set. -/
theorem own_setCell {w : World} {base : Nat} {e : TypeId} {size : Nat} {v : Value} {n : Nat} {xs : List Value} (h : w.ownsRow base e size v n xs) {p : Addr} (hp : p.block < base) (u : Value) : (w.setCell p u).ownsRow base e size v n xs :=
  h.kept (grownBy_setCell w p u) (by
    rcases hv : v.ownBlock with _ | b
    · exact Or.inl rfl
    · right; intro e; injection e with e; have := (h.lt b hv).1; omega)
set_option maxRecDepth 100000 in
set_option maxHeartbeats 1000000 in
theorem rtake_any {w : World} {m : RMap} {v : Value} (h : MapV w m v) (rd : Int) (hr0 : -9223372036854775808 ≤ rd) (hr1 : rd ≤ 9223372036854775807) :
    Calls Try.prog 39 #[v, .int .i64 rd] w fun e w' => ∃ v', e = .returned (.tuple #[v', .int .i64 (takeD m rd).2.1, .int .i64 (takeD m rd).2.2, .bool (takeP m rd).isSome]) ∧ Below w.heap.size w w' ∧ MapF w' w.heap.size (takeD m rd).1 v' := by
  obtain ⟨A, cap, rfl, h⟩ := h
  have hv : MapV w m (.agg (mapCells m.phys m.regs A m.free.length cap)) := ⟨A, cap, rfl, h⟩
  have hs := map_info (phys := m.phys) (A := A) (n := m.free.length) (cap := cap) h.len
  have hf := mapCells_free m.phys m.regs A m.free.length cap h.len
  have hrg := fun i => mapCells_reg m.phys m.regs A m.free.length cap (i := i)
  have hu := fun W (hb : Below w.heap.size w W) => rmay_any (hv.ext hb)
  by_cases hok : m.may = true ∧ m.free ≠ [] ∧ 1 ≤ rd ∧ rd ≤ 31
  · obtain ⟨hmay, hfr, hr1, hr2⟩ := hok
    obtain ⟨k, rfl⟩ := Int.eq_ofNat_of_zero_le (show 0 ≤ rd by omega)
    obtain ⟨p, f, hpf⟩ : ∃ p f, m.free = p :: f := by
      cases hh : m.free with
      | nil => exact absurd hh hfr
      | cons p f => exact ⟨p, f, rfl⟩
    have htk : takeP m (k : Int) = some (⟨m.phys, m.regs.set k p, f⟩, p, m.regs.getD k 0) := by
      unfold takeP
      rw [hpf]
      simp only
      rw [if_pos ⟨hmay, hr1, hr2⟩]
      rfl
    have htd : takeD m (k : Int) = (⟨m.phys, m.regs.set k p, f⟩, p, m.regs.getD k 0) := by unfold takeD; rw [htk]; rfl
    rw [htd, htk]
    have h1 := h
    obtain ⟨b, o, rfl, hbw, hfc⟩ := h.free (by rw [hpf]; simp)
    have cp := hfc 0 p (by rw [hpf]; rfl)
    rw [Nat.add_zero] at cp
    have cf : ∀ i x, f[i]? = some x → w.cell? ⟨b, o + 1 + i, none⟩ = some (.int .i64 x) := fun i x hx => by
      have := hfc (i + 1) x (by rw [hpf]; exact hx)
      rwa [show o + (i + 1) = o + 1 + i by omega] at this
    have hln : m.free.length = f.length + 1 := by rw [hpf]; rfl
    have hroom := h.room
    have hfew := h.few
    have hrk := hrg k (by rw [h.len]; omega)
    obtain ⟨cs, hcs⟩ : ∃ cs, cs = mapCells m.phys m.regs (some ⟨b, o, none⟩) (f.length + 1) cap := ⟨_, rfl⟩
    have hpk : -9223372036854775808 ≤ p ∧ p ≤ 9223372036854775807 := h.wf p (by unfold RMap.all; rw [hpf]; simp)
    have hone := map_one m.phys m.regs (some ⟨b, o, none⟩) (f.length + 1) cap
    have hsz := mapCells_size m.phys m.regs (some ⟨b, o, none⟩) (f.length + 1) cap h.len
    rw [hln] at hs hf hrk hu hroom hfew ⊢
    rw [← hcs] at hs hf hrk hu hone hsz ⊢
    rw [hmay] at hu
    simp only [Option.isSome_some]
    have Hcs := Lib.hid hcs
    have Hu := Lib.hid hu
    have Hcf := Lib.hid cf
    have H1 := Lib.hid h1
    have hn0 : (((f.length : Int) + 1) == 0) = false := by simp; omega
    have hlen := h.len
    have Hpf := Lib.hid hpf
    have hsz0 : cs.size = (mapCells 0 (List.replicate 32 0) none 0 0).size := by rw [hsz]; rfl
    clear hfc hu hcs cf h h1 hrg hv hln htk htd hmay hfr
    generalize m.regs.getD k 0 = old at *
    obtain ⟨i0, hi, hz0, hz1, hz2⟩ := info_parts ints_info
    have e1 : decide ((k : Int) < 1) = false := decide_eq_false (by omega)
    have e2 : decide (31 < (k : Int)) = false := decide_eq_false (by omega)
    go_enter Try.func39, Try.ntmps39
    go_upto_region 1 with (fail)
    go_simp
    refine wp_gen fun wa hq => ?_
    have hb2 : Below w.heap.size w wa := by rw [hq]; exact ((Below.refl w.heap.size w).alloc (Nat.le_refl _) _).alloc (by simp) _
    have hB : Blk wa w.heap.size 50 cs := by rw [hq]; exact (Blk.new w 50 cs).alloc _
    have hR : Blk wa (w.heap.size + 1) 50 (mapCells 0 (List.replicate 32 0) none 0 0) := by rw [hq]; exact Blk.newAt (w.alloc (.cells cs 50)) 50 _ (by simp)
    clear hq
    go_upto_region 3 with (first
      | (refine wpList_load_all rfl 50 _ rfl w.heap.size rfl 50 cs _ hB Try.underlying50 rfl hs ?_)
      | (go_at_call 38; (with_reducible refine (Hu.out _ hb2).mono ?_); rintro e w2 ⟨rfl, hb3⟩; have c33 := (hB.ext hb3).cell 33; rw [hf] at c33; have zB := (hB.ext hb3).lt; have hR2 := hR.ext hb3))
    go_simp
    have hb4 := hb2.trans (hb3.mono hb2.size)
    replace hB := hB.ext hb3
    replace cp := (hb4.cell (p := ⟨b, o, none⟩) hbw).trans cp
    replace hR := hR2
    clear hb2 hb3 hR2 zB
    have ck := hB.cell (1 + k)
    rw [hrk] at ck
    have z2 : w.heap.size + 2 ≤ w2.heap.size := by have := hR.lt; omega
    -- old, p
    go_upto_region 5 with (fail)
    go_simp
    -- n := m
    have hN0 := Blk.new w2 50 (mapCells 0 (List.replicate 32 0) none 0 0)
    have hB0 := hB.alloc (.cells (mapCells 0 (List.replicate 32 0) none 0 0) 50)
    go_upto_region 6 with (first
      | (refine wpList_load_all rfl 50 _ rfl w.heap.size rfl 50 cs _ hB Try.underlying50 rfl hs ?_)
      | (refine wpList_store_all rfl 50 _ _ rfl w2.heap.size cs rfl rfl 50 _ hN0 hs hsz0 hone ?_; intro w6 hN6 hg6))
    go_simp
    have hb6 := below_grown (hb4.alloc hb4.size (.cells (mapCells 0 (List.replicate 32 0) none 0 0) 50)) hg6 (by simp; omega) hb4.size
    have hB6 := hB0.grown hg6 (by simp; omega)
    have hR6 := (hR.alloc (.cells (mapCells 0 (List.replicate 32 0) none 0 0) 50)).grown hg6 (by simp; omega)
    have hcf6 := Lib.hid (show ∀ i x, f[i]? = some x → w6.cell? ⟨b, o + 1 + i, none⟩ = some (.int .i64 x) from fun i x hx => (hb6.cell (p := ⟨b, o + 1 + i, none⟩) hbw).trans (Hcf.out i x hx))
    clear hN0 hB0 hR hB hb4 hg6 cp ck c33
    -- n.Regs[rd] = p
    have ck := hN6.cell (1 + k)
    rw [hrk] at ck
    have fk := hN6.frozen (1 + k)
    have hN7 := hN6.set (1 + k) (.int .i64 p)
    rw [Hcs.out, mapCells_setreg _ _ _ _ _ _ _ hlen (by omega)] at hN7
    have hB7 := hB6.far (p := ⟨w2.heap.size, 1 + k, none⟩) (by show w.heap.size ≠ w2.heap.size; omega) (.int .i64 p)
    have hR7 := hR6.far (p := ⟨w2.heap.size, 1 + k, none⟩) (by show w.heap.size + 1 ≠ w2.heap.size; omega) (.int .i64 p)
    have hb7 := hb6.setCell (p := ⟨w2.heap.size, 1 + k, none⟩) (by show w.heap.size ≤ w2.heap.size; omega) (.int .i64 p)
    have hcf7 := Lib.hid (show ∀ i x, f[i]? = some x → (w6.setCell ⟨w2.heap.size, 1 + k, none⟩ (.int .i64 p)).cell? ⟨b, o + 1 + i, none⟩ = some (.int .i64 x) from fun i x hx => (World.cell?_of_block (Below.heap_setCell w6 ⟨w2.heap.size, 1 + k, none⟩ (.int .i64 p) b (by show b ≠ w2.heap.size; omega))).trans (hcf6.out i x hx))
    have hHH := Lib.hid (And.intro hN7 (And.intro hB7 (And.intro hR7 (And.intro hb7 hcf7.out))))
    have z6 : w2.heap.size < w6.heap.size := hN6.lt
    clear hN7 hB7 hR7 hb7 hcf6 hcf7 hb6 hB6 hR6
    go_upto_region 7 with (fail)
    go_simp
    obtain ⟨hN7, hB7, hR7, hb7, hcf7⟩ := hHH.out
    have z7 : w2.heap.size < (w6.setCell ⟨w2.heap.size, 1 + k, none⟩ (.int .i64 p)).heap.size := by simpa using z6
    clear hHH ck fk hN6
    generalize w6.setCell ⟨w2.heap.size, 1 + k, none⟩ (.int .i64 p) = w7 at *
    have hown0 := World.ownsRow_lit (base := w7.heap.size) (e := 3) (size := 1) w7 #[] 0 (Nat.le_refl _) (by unfold maxLen; omega) rfl
    have c33 := hB7.cell 33
    rw [hf] at c33
    have hnews : ∀ i x, f[i]? = some x → (w7.alloc (.cells #[] 3)).cell? ⟨b, o + 1 + i, none⟩ = some (.int .i64 x) := fun i x hx => (World.cell?_alloc_lt _ _ _ (World.block_lt_of_cell? _ _ (hcf7 i x hx))).trans (hcf7 i x hx)
    have Hnews := Lib.hid hnews
    have Hcf7 := Lib.hid hcf7
    clear hnews hcf7
    have zB7 := hB7.lt
    by_cases hc1 : cap = 1
    · subst hc1
      have hfz : f = [] := List.eq_nil_of_length_eq_zero (by omega)
      have Hfz := Lib.hid hfz
      have hf0 : f.length = 0 := by rw [hfz]; rfl
      clear hfz
      go_upto_region 8 with (first
        | (at_builtin; go_loud (refine wpList_append_any rfl (.tmp 42) (.tmp 45) 48 rfl w7.heap.size 3 i0 _ 1 8 Try.underlying48 hi hz0 hz1 hz2 rfl (by decide) _ 0 [] rfl hown0 (some ⟨b, o, none⟩) 0 0 (f.map (Value.int .i64)) rfl (by simp [Hfz.out]) (fun h => by cases h) (fun ad hd j u hu => by obtain rfl := Option.some.inj hd; rw [Addr.add_lit]; rw [List.getElem?_map] at hu; obtain ⟨x, hx, rfl⟩ := Option.map_eq_some_iff.1 hu; first | exact Hnews.out j x hx | (rw [Hfz.out] at hx; cases hx)) (ints_oneCell' _) (by unfold maxLen; omega) (by omega) (by simp) ?_; intro v8 w8 hown8 hg8; have hN8 := (hN7.alloc (.cells #[] 3)).grown hg8 (fun h => by (have h : some w2.heap.size = some w7.heap.size := h); injection h with h; omega); have c8 := hN8.cell 33; rw [mapCells_free _ _ _ _ _ (by simp [hlen])] at c8; have f8 := hN8.frozen 33; obtain ⟨A8, cap8, rfl⟩ := own_value hown8)))
      go_simp
      have hN9 := hN8.set 33 (.slice A8 0 cap8)
      rw [mapCells_setfree _ _ _ _ _ _ _ _ (by simp [hlen])] at hN9
      have hb8 : Below w.heap.size w w8 := (hb7.alloc hb7.size (.cells #[] 3)).grown hg8 (by have := hb7.size; simp; omega) (fun j hj => by cases hj; exact hb7.size)
      have hb9 := hb8.setCell (p := ⟨w2.heap.size, 33, none⟩) (by show w.heap.size ≤ w2.heap.size; omega) (.slice A8 0 cap8)
      have hR9 := ((hR7.alloc (.cells #[] 3)).grown hg8 (fun h => by (have h : some (w.heap.size + 1) = some w7.heap.size := h); injection h with h; omega)).far (p := ⟨w2.heap.size, 33, none⟩) (by show w.heap.size + 1 ≠ w2.heap.size; omega) (.slice A8 0 cap8)
      have hown9 := own_setCell hown8 (p := ⟨w2.heap.size, 33, none⟩) (by show w2.heap.size < w7.heap.size; omega) (.slice A8 0 cap8)
      clear c8 f8 hN8 hb8 hown8 hg8 c33 Hnews Hcf7 hN7 hR7 hb7 hB7 hown0
      try simp only [Nat.zero_add, List.nil_append] at hown9 hN9 hb9 hR9
      generalize w8.setCell _ _ = w9 at *
      have hset : (m.regs.set k p).length = 32 := by simp [hlen]
      have hs9 := map_info (phys := m.phys) (A := A8) (n := 0) (cap := cap8) hset
      have h19 := map_one m.phys (m.regs.set k p) A8 0 cap8
      have hv9 : mapCells m.phys (m.regs.set k p) A8 0 cap8 = mapCells m.phys (m.regs.set k p) A8 f.length cap8 := by first | rfl | (rw [Hfz.out]; rfl)
      obtain ⟨cs9, h9⟩ : ∃ cs9, cs9 = mapCells m.phys (m.regs.set k p) A8 0 cap8 := ⟨_, rfl⟩
      have Hv9 := Lib.hid (h9.trans hv9)
      have hsz9 : (mapCells m.phys (m.regs.set k p) A8 0 cap8).size = (mapCells 0 (List.replicate 32 0) none 0 0).size := by rw [mapCells_size _ _ _ _ _ hset]; rfl
      rw [← h9] at hsz9 hs9 h19 hN9
      clear hv9 h9
      go_wp2_with (first
        | (refine wpList_load_all rfl 50 _ rfl w2.heap.size rfl 50 cs9 _ hN9 Try.underlying50 rfl hs9 ?_)
        | (refine wpList_store_all rfl 50 _ _ rfl (w.heap.size + 1) cs9 rfl rfl 50 _ hR9 hs9 hsz9 h19 ?_; intro wx hBx hgx; have hld := load_map hBx hs9))
      refine bodyPost_ret (results_cttt Try.results39 rfl rfl rfl rfl hld) rfl ?_
      obtain ⟨A', cap', he, hl9, hn9, hA9, hc9, hg9⟩ := own_ints hown9
      cases he
      refine ⟨_, rfl, below_grown hb9 hgx hb9.size (Nat.le_succ _), A8, cap8, by rw [Hv9.out], ?_, fun ad h => by have := hg9 ad h; omega⟩
      have hm1 := H1.out
      have hA10 := (hA9.grown (Nat.le_refl _) hgx (fun ad h => by have := hg9 ad h; omega)).mono hgx.size
      refine ⟨hm1.p0, hm1.p1, hset, by show f.length ≤ _; omega, by show f.length ≤ _; omega, hA10, hn9, fun x hx => ?_⟩
      rcases List.mem_append.1 hx with hx | hx
      · rcases List.mem_or_eq_of_mem_set hx with hx | rfl
        · exact hm1.wf x (List.mem_append_left _ hx)
        · exact hpk
      · exact hm1.wf x (List.mem_append_right _ (by rw [Hpf.out]; exact List.mem_cons_of_mem _ hx))
    · have Hfz := Hpf
      go_upto_region 8 with (first
        | (at_builtin; go_loud (refine wpList_append_any rfl (.tmp 42) (.tmp 45) 48 rfl w7.heap.size 3 i0 _ 1 8 Try.underlying48 hi hz0 hz1 hz2 rfl (by decide) _ 0 [] rfl hown0 (some ⟨b, (o + 1), none⟩) f.length (cap - 1) (f.map (Value.int .i64)) rfl (by simp) (fun h => by cases h) (fun ad hd j u hu => by obtain rfl := Option.some.inj hd; rw [Addr.add_lit]; rw [List.getElem?_map] at hu; obtain ⟨x, hx, rfl⟩ := Option.map_eq_some_iff.1 hu; first | exact Hnews.out j x hx | (rw [Hfz.out] at hx; cases hx)) (ints_oneCell' _) (by unfold maxLen; omega) (by omega) (by simp) ?_; intro v8 w8 hown8 hg8; have hN8 := (hN7.alloc (.cells #[] 3)).grown hg8 (fun h => by (have h : some w2.heap.size = some w7.heap.size := h); injection h with h; omega); have c8 := hN8.cell 33; rw [mapCells_free _ _ _ _ _ (by simp [hlen])] at c8; have f8 := hN8.frozen 33; obtain ⟨A8, cap8, rfl⟩ := own_value hown8)))
      go_simp
      have hN9 := hN8.set 33 (.slice A8 f.length cap8)
      rw [mapCells_setfree _ _ _ _ _ _ _ _ (by simp [hlen])] at hN9
      have hb8 : Below w.heap.size w w8 := (hb7.alloc hb7.size (.cells #[] 3)).grown hg8 (by have := hb7.size; simp; omega) (fun j hj => by cases hj; exact hb7.size)
      have hb9 := hb8.setCell (p := ⟨w2.heap.size, 33, none⟩) (by show w.heap.size ≤ w2.heap.size; omega) (.slice A8 f.length cap8)
      have hR9 := ((hR7.alloc (.cells #[] 3)).grown hg8 (fun h => by (have h : some (w.heap.size + 1) = some w7.heap.size := h); injection h with h; omega)).far (p := ⟨w2.heap.size, 33, none⟩) (by show w.heap.size + 1 ≠ w2.heap.size; omega) (.slice A8 f.length cap8)
      have hown9 := own_setCell hown8 (p := ⟨w2.heap.size, 33, none⟩) (by show w2.heap.size < w7.heap.size; omega) (.slice A8 f.length cap8)
      clear c8 f8 hN8 hb8 hown8 hg8 c33 Hnews Hcf7 hN7 hR7 hb7 hB7 hown0
      try simp only [Nat.zero_add, List.nil_append] at hown9 hN9 hb9 hR9
      generalize w8.setCell _ _ = w9 at *
      have hset : (m.regs.set k p).length = 32 := by simp [hlen]
      have hs9 := map_info (phys := m.phys) (A := A8) (n := f.length) (cap := cap8) hset
      have h19 := map_one m.phys (m.regs.set k p) A8 f.length cap8
      have hv9 : mapCells m.phys (m.regs.set k p) A8 f.length cap8 = mapCells m.phys (m.regs.set k p) A8 f.length cap8 := by first | rfl | (rw [Hfz.out]; rfl)
      obtain ⟨cs9, h9⟩ : ∃ cs9, cs9 = mapCells m.phys (m.regs.set k p) A8 f.length cap8 := ⟨_, rfl⟩
      have Hv9 := Lib.hid (h9.trans hv9)
      have hsz9 : (mapCells m.phys (m.regs.set k p) A8 f.length cap8).size = (mapCells 0 (List.replicate 32 0) none 0 0).size := by rw [mapCells_size _ _ _ _ _ hset]; rfl
      rw [← h9] at hsz9 hs9 h19 hN9
      clear hv9 h9
      go_wp2_with (first
        | (refine wpList_load_all rfl 50 _ rfl w2.heap.size rfl 50 cs9 _ hN9 Try.underlying50 rfl hs9 ?_)
        | (refine wpList_store_all rfl 50 _ _ rfl (w.heap.size + 1) cs9 rfl rfl 50 _ hR9 hs9 hsz9 h19 ?_; intro wx hBx hgx; have hld := load_map hBx hs9))
      refine bodyPost_ret (results_cttt Try.results39 rfl rfl rfl rfl hld) rfl ?_
      obtain ⟨A', cap', he, hl9, hn9, hA9, hc9, hg9⟩ := own_ints hown9
      cases he
      refine ⟨_, rfl, below_grown hb9 hgx hb9.size (Nat.le_succ _), A8, cap8, by rw [Hv9.out], ?_, fun ad h => by have := hg9 ad h; omega⟩
      have hm1 := H1.out
      have hA10 := (hA9.grown (Nat.le_refl _) hgx (fun ad h => by have := hg9 ad h; omega)).mono hgx.size
      refine ⟨hm1.p0, hm1.p1, hset, by show f.length ≤ _; omega, by show f.length ≤ _; omega, hA10, hn9, fun x hx => ?_⟩
      rcases List.mem_append.1 hx with hx | hx
      · rcases List.mem_or_eq_of_mem_set hx with hx | rfl
        · exact hm1.wf x (List.mem_append_left _ hx)
        · exact hpk
      · exact hm1.wf x (List.mem_append_right _ (by rw [Hpf.out]; exact List.mem_cons_of_mem _ hx))
  · have htk : takeP m rd = none := by
      unfold takeP
      cases hfr : m.free with
      | nil => rfl
      | cons p f =>
        simp only
        rw [if_neg]
        rintro ⟨a, b⟩
        exact hok ⟨a, by rw [hfr]; simp, b⟩
    have Htk := Lib.hid (show takeD m rd = (RMap.zero, 0, 0) ∧ takeP m rd = none from ⟨by unfold takeD; rw [htk]; rfl, htk⟩)
    rw [htk]
    replace Htk := Lib.hid Htk.out.1
    have hok' : m.may = false ∨ (m.may = true ∧ m.free.length = 0) ∨ (m.may = true ∧ ((m.free.length : Int) == 0) = false ∧ rd < 1) ∨ (m.may = true ∧ ((m.free.length : Int) == 0) = false ∧ 1 ≤ rd ∧ 31 < rd) := by
      rcases hmm : m.may with _ | _
      · exact Or.inl rfl
      · by_cases hfr : m.free = []
        · exact Or.inr (Or.inl ⟨rfl, by rw [hfr]; rfl⟩)
        · have hfl : ((m.free.length : Int) == 0) = false := by
            have : m.free.length ≠ 0 := fun e => hfr (List.eq_nil_of_length_eq_zero e)
            simp; omega
          by_cases h1 : rd < 1
          · exact Or.inr (Or.inr (Or.inl ⟨rfl, hfl, h1⟩))
          · by_cases h2 : 31 < rd
            · exact Or.inr (Or.inr (Or.inr ⟨rfl, hfl, by omega, h2⟩))
            · exact absurd ⟨hmm, hfr, by omega, by omega⟩ hok
    clear hok htk hv hrg h
    generalize m.may = X at *
    generalize m.free.length = n at *
    generalize mapCells m.phys m.regs A n cap = cs at *
    have Hu := Lib.hid hu
    clear hu
    rcases hok' with rfl | ⟨rfl, rfl⟩ | ⟨rfl, hn, h1⟩ | ⟨rfl, hn, h1, h2⟩
    ·
      go_enter Try.func39, Try.ntmps39
      go_upto_region 1 with (fail)
      go_simp
      refine wp_gen fun wa hq => ?_
      have hb2 : Below w.heap.size w wa := by rw [hq]; exact ((Below.refl w.heap.size w).alloc (Nat.le_refl _) _).alloc (by simp) _
      have hB : Blk wa w.heap.size 50 cs := by rw [hq]; exact (Blk.new w 50 cs).alloc _
      have hR : Blk wa (w.heap.size + 1) 50 (mapCells 0 (List.replicate 32 0) none 0 0) := by rw [hq]; exact Blk.newAt (w.alloc (.cells cs 50)) 50 _ (by simp)
      clear hq
      go_wp2_with (first
        | (refine wpList_load_all rfl 50 _ rfl w.heap.size rfl 50 cs _ hB Try.underlying50 rfl hs ?_)
        | (go_at_call 38; (with_reducible refine (Hu.out _ hb2).mono ?_); rintro e w2 ⟨rfl, hb3⟩; have c33 := (hB.ext hb3).cell 33; rw [hf] at c33; have zB := (hB.ext hb3).lt; have hR2 := hR.ext hb3)
        | (refine wpList_build_to rfl 50 _ rfl [] rfl _ built_map0 ?_)
        | (refine wpList_store_all rfl 50 _ _ rfl (w.heap.size + 1) (mapCells 0 (List.replicate 32 0) none 0 0) rfl rfl 50 _ hR2 zero_info rfl (map_one _ _ _ _ _) ?_; intro w5 hB5 hg5; have hld := load_map hB5 zero_info))
      refine bodyPost_ret (results_cttt Try.results39 rfl rfl rfl rfl hld) rfl ?_
      rw [Htk.out]
      exact ⟨_, rfl, below_grown (hb2.trans (hb3.mono hb2.size)) hg5 (Nat.le_trans hb2.size hb3.size) (Nat.le_succ _), MapF.zero _ _⟩
    ·
      go_enter Try.func39, Try.ntmps39
      go_upto_region 1 with (fail)
      go_simp
      refine wp_gen fun wa hq => ?_
      have hb2 : Below w.heap.size w wa := by rw [hq]; exact ((Below.refl w.heap.size w).alloc (Nat.le_refl _) _).alloc (by simp) _
      have hB : Blk wa w.heap.size 50 cs := by rw [hq]; exact (Blk.new w 50 cs).alloc _
      have hR : Blk wa (w.heap.size + 1) 50 (mapCells 0 (List.replicate 32 0) none 0 0) := by rw [hq]; exact Blk.newAt (w.alloc (.cells cs 50)) 50 _ (by simp)
      clear hq
      go_wp2_with (first
        | (refine wpList_load_all rfl 50 _ rfl w.heap.size rfl 50 cs _ hB Try.underlying50 rfl hs ?_)
        | (go_at_call 38; (with_reducible refine (Hu.out _ hb2).mono ?_); rintro e w2 ⟨rfl, hb3⟩; have c33 := (hB.ext hb3).cell 33; rw [hf] at c33; have zB := (hB.ext hb3).lt; have hR2 := hR.ext hb3)
        | (refine wpList_build_to rfl 50 _ rfl [] rfl _ built_map0 ?_)
        | (refine wpList_store_all rfl 50 _ _ rfl (w.heap.size + 1) (mapCells 0 (List.replicate 32 0) none 0 0) rfl rfl 50 _ hR2 zero_info rfl (map_one _ _ _ _ _) ?_; intro w5 hB5 hg5; have hld := load_map hB5 zero_info))
      refine bodyPost_ret (results_cttt Try.results39 rfl rfl rfl rfl hld) rfl ?_
      rw [Htk.out]
      exact ⟨_, rfl, below_grown (hb2.trans (hb3.mono hb2.size)) hg5 (Nat.le_trans hb2.size hb3.size) (Nat.le_succ _), MapF.zero _ _⟩
    ·
      go_enter Try.func39, Try.ntmps39
      go_upto_region 1 with (fail)
      go_simp
      refine wp_gen fun wa hq => ?_
      have hb2 : Below w.heap.size w wa := by rw [hq]; exact ((Below.refl w.heap.size w).alloc (Nat.le_refl _) _).alloc (by simp) _
      have hB : Blk wa w.heap.size 50 cs := by rw [hq]; exact (Blk.new w 50 cs).alloc _
      have hR : Blk wa (w.heap.size + 1) 50 (mapCells 0 (List.replicate 32 0) none 0 0) := by rw [hq]; exact Blk.newAt (w.alloc (.cells cs 50)) 50 _ (by simp)
      clear hq
      go_wp2_with (first
        | (refine wpList_load_all rfl 50 _ rfl w.heap.size rfl 50 cs _ hB Try.underlying50 rfl hs ?_)
        | (go_at_call 38; (with_reducible refine (Hu.out _ hb2).mono ?_); rintro e w2 ⟨rfl, hb3⟩; have c33 := (hB.ext hb3).cell 33; rw [hf] at c33; have zB := (hB.ext hb3).lt; have hR2 := hR.ext hb3)
        | (refine wpList_build_to rfl 50 _ rfl [] rfl _ built_map0 ?_)
        | (refine wpList_store_all rfl 50 _ _ rfl (w.heap.size + 1) (mapCells 0 (List.replicate 32 0) none 0 0) rfl rfl 50 _ hR2 zero_info rfl (map_one _ _ _ _ _) ?_; intro w5 hB5 hg5; have hld := load_map hB5 zero_info))
      refine bodyPost_ret (results_cttt Try.results39 rfl rfl rfl rfl hld) rfl ?_
      rw [Htk.out]
      exact ⟨_, rfl, below_grown (hb2.trans (hb3.mono hb2.size)) hg5 (Nat.le_trans hb2.size hb3.size) (Nat.le_succ _), MapF.zero _ _⟩
    ·
      go_enter Try.func39, Try.ntmps39
      go_upto_region 1 with (fail)
      go_simp
      refine wp_gen fun wa hq => ?_
      have hb2 : Below w.heap.size w wa := by rw [hq]; exact ((Below.refl w.heap.size w).alloc (Nat.le_refl _) _).alloc (by simp) _
      have hB : Blk wa w.heap.size 50 cs := by rw [hq]; exact (Blk.new w 50 cs).alloc _
      have hR : Blk wa (w.heap.size + 1) 50 (mapCells 0 (List.replicate 32 0) none 0 0) := by rw [hq]; exact Blk.newAt (w.alloc (.cells cs 50)) 50 _ (by simp)
      clear hq
      go_wp2_with (first
        | (refine wpList_load_all rfl 50 _ rfl w.heap.size rfl 50 cs _ hB Try.underlying50 rfl hs ?_)
        | (go_at_call 38; (with_reducible refine (Hu.out _ hb2).mono ?_); rintro e w2 ⟨rfl, hb3⟩; have c33 := (hB.ext hb3).cell 33; rw [hf] at c33; have zB := (hB.ext hb3).lt; have hR2 := hR.ext hb3)
        | (refine wpList_build_to rfl 50 _ rfl [] rfl _ built_map0 ?_)
        | (refine wpList_store_all rfl 50 _ _ rfl (w.heap.size + 1) (mapCells 0 (List.replicate 32 0) none 0 0) rfl rfl 50 _ hR2 zero_info rfl (map_one _ _ _ _ _) ?_; intro w5 hB5 hg5; have hld := load_map hB5 zero_info))
      refine bodyPost_ret (results_cttt Try.results39 rfl rfl rfl rfl hld) rfl ?_
      rw [Htk.out]
      exact ⟨_, rfl, below_grown (hb2.trans (hb3.mono hb2.size)) hg5 (Nat.le_trans hb2.size hb3.size) (Nat.le_succ _), MapF.zero _ _⟩
end Go.Proofs.Ytapgojgcmlnbgaa
