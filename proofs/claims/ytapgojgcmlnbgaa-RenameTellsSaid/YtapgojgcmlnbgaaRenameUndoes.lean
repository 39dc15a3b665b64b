/- RenameUndoes, walked. -/
import Derived.Test.YtapgojgcmlnbgaaSame
namespace Go.Proofs.Ytapgojgcmlnbgaa
open Go.RowKit

theorem undo_take {m m' : RMap} {rd p old : Int} (hl : m.regs.length = 32) (h : takeP m rd = some (m', p, old)) : undoP m' rd old = some m := by
  unfold takeP at h
  cases hf : m.free with
  | nil => rw [hf] at h; cases h
  | cons q f =>
    rw [hf] at h
    simp only at h
    split at h
    · rename_i hc
      obtain ⟨hm, r1, r2⟩ := hc
      injection h with h
      injection h with h1 h2
      injection h2 with h2 h3
      subst h1 h2 h3
      have hlk : rd.toNat < m.regs.length := by omega
      unfold RMap.may RMap.all at hm
      rw [hf] at hm
      obtain ⟨m1, m2, m3⟩ := may_take hlk hm
      have hot : otherP ⟨m.phys, m.regs.set rd.toNat q, f⟩ (m.regs.getD rd.toNat 0) = true := by
        unfold otherP RMap.may RMap.all
        simp only
        rw [m1]
        simp only [Bool.true_and, Bool.and_eq_true, decide_eq_true_eq, Bool.not_eq_true']
        exact ⟨m2, decide_eq_false m3⟩
      unfold undoP
      rw [if_pos ⟨hot, r1, r2⟩]
      obtain ⟨phys, regs, free⟩ := m
      simp only at hf hlk ⊢
      rw [getD_set', if_pos ⟨rfl, hlk⟩, ← hf]
      congr 2
      have : regs.getD rd.toNat 0 = regs[rd.toNat] := by simp [List.getD, List.getElem?_eq_getElem hlk]
      rw [List.set_set, this, List.set_getElem_self]
    · cases h
theorem newD_33 : newD 33 = ⟨33, regs0, free0 1⟩ := by
  unfold newD newP
  rw [if_pos (by omega)]
  rfl
theorem new_33 (w : World) : Calls Try.prog 25 #[.int .i64 33] w fun e w' => ∃ cs, e = .returned (.tuple #[.agg cs, .int .i64 0]) ∧ Below w.heap.size w w' ∧ cs.size = 34 ∧ cs.all (·.oneCell') = true ∧ (Try.prog.info? 50).map (·.size) = some cs.size ∧ ∃ A cap, cs[33]? = some (.slice A 1 cap) :=
  (new_any 33 w (by omega) (by omega)).mono fun e w' ⟨v', he, hb, A, cap, hv, hm, _⟩ => by
    subst hv he
    rw [newD_33] at *
    have hl : regs0.length = 32 := by decide
    exact ⟨_, rfl, hb, mapCells_size _ _ _ _ _ hl, map_one _ _ _ _ _, map_info hl, A, cap, mapCells_free _ _ _ _ _ hl⟩
set_option maxRecDepth 100000 in
set_option maxHeartbeats 1000000 in
theorem renameUndoes_walk {w : World} {m : RMap} {v : Value} (h : MapV w m v) (rd : Int) (hr0 : -9223372036854775808 ≤ rd) (hr1 : rd ≤ 9223372036854775807) (hfew : m.free.length < 17592186044000) :
    Calls Try.prog 8 #[v, .int .i64 rd] w fun e w' => e = .returned (.bool true) ∧ Below w.heap.size w w' := by
  have hv := h
  obtain ⟨A, cap, rfl, h⟩ := h
  have hs := map_info (phys := m.phys) (A := A) (n := m.free.length) (cap := cap) h.len
  have hf := mapCells_free m.phys m.regs A m.free.length cap h.len
  have hlen := h.len
  have hwf := h.wf
  have CT := fun W (hb : Below w.heap.size w W) => take_any (hv.ext hb) rd hr0 hr1
  have CM := fun W (hb : Below w.heap.size w W) => may_any (hv.ext hb)
  have HV := Lib.hid (fun W (hb : Below w.heap.size w W) => hv.ext hb)
  have hb0 := Below.refl w.heap.size w
  obtain ⟨cs, hcs⟩ : ∃ cs, cs = mapCells m.phys m.regs A m.free.length cap := ⟨_, rfl⟩
  rw [← hcs] at hs hf CT CM HV ⊢
  clear hcs hv h
  cases htk : takeP m rd with
  | none =>
    have htd : takeD m rd = (RMap.zero, 0, 0) := by unfold takeD; rw [htk]; rfl
    rw [htd, htk] at CT
    have hno : m.may = false ∨ (m.may = true ∧ ((m.free.length : Int) == 0) = true) ∨ (m.may = true ∧ ((m.free.length : Int) == 0) = false ∧ rd < 1) ∨ (m.may = true ∧ ((m.free.length : Int) == 0) = false ∧ 1 ≤ rd ∧ 31 < rd) := by
      rcases hmm : m.may with _ | _
      · exact Or.inl rfl
      · by_cases hfr : m.free = []
        · exact Or.inr (Or.inl ⟨rfl, by rw [hfr]; rfl⟩)
        · have hfl : ((m.free.length : Int) == 0) = false := by
            have : m.free.length ≠ 0 := fun e => hfr (List.eq_nil_of_length_eq_zero e)
            simp; omega
          by_cases h1 : rd < 1
          · exact Or.inr (Or.inr (Or.inl ⟨rfl, hfl, h1⟩))
          · by_cases h2 : 31 < rd
            · exact Or.inr (Or.inr (Or.inr ⟨rfl, hfl, by omega, h2⟩))
            · exfalso
              unfold takeP at htk
              cases hff : m.free with
              | nil => exact hfr hff
              | cons q f =>
                rw [hff] at htk
                simp only at htk
                rw [if_pos ⟨hmm, by omega, by omega⟩] at htk
                cases htk
    clear htd htk hlen hfew HV hwf
    generalize m.may = X at *
    generalize m.free.length = n at *
    have CT := Lib.hid CT
    have CM := Lib.hid CM
    rcases hno with rfl | ⟨rfl, hn⟩ | ⟨rfl, hn, h1⟩ | ⟨rfl, hn, h1, h2⟩
    ·
      go_enter Try.func8, Try.ntmps8
      go_upto_region 1 with (fail)
      go_simp
      refine wp_gen fun wa hq => ?_
      have hb : Below w.heap.size w wa := by rw [hq]; exact (Below.refl w.heap.size w).alloc (Nat.le_refl _) _
      have hB : Blk wa w.heap.size 50 cs := by rw [hq]; exact Blk.new w 50 cs
      clear hq
      go_upto_region 4 with (first
        | (go_at_call 25; (with_reducible refine (new_33 _).mono ?_); rintro e w1 ⟨csN, rfl, hb1, hsN, h1N, hiN, AN, capN, h33N⟩)
        | (refine wpList_store_all rfl 50 _ _ rfl w1.heap.size csN rfl rfl 50 _ (Blk.new _ _ _) hiN (by rw [hsN]; rfl) h1N ?_; intro w2 hB2 hg2; have c33 := hB2.cell 33; rw [h33N] at c33; have zN := hB2.lt))
      go_simp
      have hb2 := below_grown ((hb.trans (hb1.mono hb.size)).alloc (Nat.le_trans hb.size hb1.size) _) hg2 (by have := hb.size; have := hb1.size; simp; omega) (Nat.le_trans hb.size hb1.size)
      replace hB := ((hB.ext hb1).alloc _).grown hg2 (by have := (hB.ext hb1).lt; simp; omega)
      clear hb1 hg2 c33 zN hB2 hsN h1N hiN h33N hb
      go_wp2_with (first
        | (refine wpList_load_all rfl 50 _ rfl w.heap.size rfl 50 cs _ hB Try.underlying50 rfl hs ?_)
        | (go_at_call 26; (with_reducible refine (CT.out _ hb2).mono ?_); rintro e w3 ⟨v3, rfl, hb3, A3, cap3, rfl, hM3, hf3⟩)
        | (refine wpList_store_all rfl 50 _ _ rfl w3.heap.size (mapCells 0 (List.replicate 32 0) A3 0 cap3) rfl rfl 50 _ (Blk.new _ _ _) (map_info rfl) rfl (map_one _ _ _ _ _) ?_; intro w4 hB4 hg4; have hB9 := ((hB.ext hb3).alloc _).grown hg4 (by have := (hB.ext hb3).lt; simp; omega); have hb9 := below_grown ((hb2.trans (hb3.mono hb2.size)).alloc (Nat.le_trans hb2.size hb3.size) _) hg4 (by have := hb2.size; have := hb3.size; simp; omega) (Nat.le_trans hb2.size hb3.size))
        | (refine wpList_want rfl fun K hK => ?_; refine wp_load_all 50 _ rfl w.heap.size rfl 50 cs _ hB9 Try.underlying50 rfl hs ?_; refine hK _ _ ?_)
        | (go_at_call 27; (with_reducible refine (CM.out _ hb9).mono ?_); rintro e w5 ⟨rfl, hb5⟩; have c33 := (hB9.ext hb5).cell 33; rw [hf] at c33; have zB := (hB9.ext hb5).lt))
      go_ret
      exact ⟨rfl, hb9.trans (hb5.mono hb9.size)⟩
    ·
      go_enter Try.func8, Try.ntmps8
      go_upto_region 1 with (fail)
      go_simp
      refine wp_gen fun wa hq => ?_
      have hb : Below w.heap.size w wa := by rw [hq]; exact (Below.refl w.heap.size w).alloc (Nat.le_refl _) _
      have hB : Blk wa w.heap.size 50 cs := by rw [hq]; exact Blk.new w 50 cs
      clear hq
      go_upto_region 4 with (first
        | (go_at_call 25; (with_reducible refine (new_33 _).mono ?_); rintro e w1 ⟨csN, rfl, hb1, hsN, h1N, hiN, AN, capN, h33N⟩)
        | (refine wpList_store_all rfl 50 _ _ rfl w1.heap.size csN rfl rfl 50 _ (Blk.new _ _ _) hiN (by rw [hsN]; rfl) h1N ?_; intro w2 hB2 hg2; have c33 := hB2.cell 33; rw [h33N] at c33; have zN := hB2.lt))
      go_simp
      have hb2 := below_grown ((hb.trans (hb1.mono hb.size)).alloc (Nat.le_trans hb.size hb1.size) _) hg2 (by have := hb.size; have := hb1.size; simp; omega) (Nat.le_trans hb.size hb1.size)
      replace hB := ((hB.ext hb1).alloc _).grown hg2 (by have := (hB.ext hb1).lt; simp; omega)
      clear hb1 hg2 c33 zN hB2 hsN h1N hiN h33N hb
      go_wp2_with (first
        | (refine wpList_load_all rfl 50 _ rfl w.heap.size rfl 50 cs _ hB Try.underlying50 rfl hs ?_)
        | (go_at_call 26; (with_reducible refine (CT.out _ hb2).mono ?_); rintro e w3 ⟨v3, rfl, hb3, A3, cap3, rfl, hM3, hf3⟩)
        | (refine wpList_store_all rfl 50 _ _ rfl w3.heap.size (mapCells 0 (List.replicate 32 0) A3 0 cap3) rfl rfl 50 _ (Blk.new _ _ _) (map_info rfl) rfl (map_one _ _ _ _ _) ?_; intro w4 hB4 hg4; have hB9 := ((hB.ext hb3).alloc _).grown hg4 (by have := (hB.ext hb3).lt; simp; omega); have hb9 := below_grown ((hb2.trans (hb3.mono hb2.size)).alloc (Nat.le_trans hb2.size hb3.size) _) hg4 (by have := hb2.size; have := hb3.size; simp; omega) (Nat.le_trans hb2.size hb3.size))
        | (refine wpList_want rfl fun K hK => ?_; refine wp_load_all 50 _ rfl w.heap.size rfl 50 cs _ hB9 Try.underlying50 rfl hs ?_; refine hK _ _ ?_)
        | (go_at_call 27; (with_reducible refine (CM.out _ hb9).mono ?_); rintro e w5 ⟨rfl, hb5⟩; have c33 := (hB9.ext hb5).cell 33; rw [hf] at c33; have zB := (hB9.ext hb5).lt))
      go_ret
      exact ⟨rfl, hb9.trans (hb5.mono hb9.size)⟩
    ·
      go_enter Try.func8, Try.ntmps8
      go_upto_region 1 with (fail)
      go_simp
      refine wp_gen fun wa hq => ?_
      have hb : Below w.heap.size w wa := by rw [hq]; exact (Below.refl w.heap.size w).alloc (Nat.le_refl _) _
      have hB : Blk wa w.heap.size 50 cs := by rw [hq]; exact Blk.new w 50 cs
      clear hq
      go_upto_region 4 with (first
        | (go_at_call 25; (with_reducible refine (new_33 _).mono ?_); rintro e w1 ⟨csN, rfl, hb1, hsN, h1N, hiN, AN, capN, h33N⟩)
        | (refine wpList_store_all rfl 50 _ _ rfl w1.heap.size csN rfl rfl 50 _ (Blk.new _ _ _) hiN (by rw [hsN]; rfl) h1N ?_; intro w2 hB2 hg2; have c33 := hB2.cell 33; rw [h33N] at c33; have zN := hB2.lt))
      go_simp
      have hb2 := below_grown ((hb.trans (hb1.mono hb.size)).alloc (Nat.le_trans hb.size hb1.size) _) hg2 (by have := hb.size; have := hb1.size; simp; omega) (Nat.le_trans hb.size hb1.size)
      replace hB := ((hB.ext hb1).alloc _).grown hg2 (by have := (hB.ext hb1).lt; simp; omega)
      clear hb1 hg2 c33 zN hB2 hsN h1N hiN h33N hb
      go_wp2_with (first
        | (refine wpList_load_all rfl 50 _ rfl w.heap.size rfl 50 cs _ hB Try.underlying50 rfl hs ?_)
        | (go_at_call 26; (with_reducible refine (CT.out _ hb2).mono ?_); rintro e w3 ⟨v3, rfl, hb3, A3, cap3, rfl, hM3, hf3⟩)
        | (refine wpList_store_all rfl 50 _ _ rfl w3.heap.size (mapCells 0 (List.replicate 32 0) A3 0 cap3) rfl rfl 50 _ (Blk.new _ _ _) (map_info rfl) rfl (map_one _ _ _ _ _) ?_; intro w4 hB4 hg4; have hB9 := ((hB.ext hb3).alloc _).grown hg4 (by have := (hB.ext hb3).lt; simp; omega); have hb9 := below_grown ((hb2.trans (hb3.mono hb2.size)).alloc (Nat.le_trans hb2.size hb3.size) _) hg4 (by have := hb2.size; have := hb3.size; simp; omega) (Nat.le_trans hb2.size hb3.size))
        | (refine wpList_want rfl fun K hK => ?_; refine wp_load_all 50 _ rfl w.heap.size rfl 50 cs _ hB9 Try.underlying50 rfl hs ?_; refine hK _ _ ?_)
        | (go_at_call 27; (with_reducible refine (CM.out _ hb9).mono ?_); rintro e w5 ⟨rfl, hb5⟩; have c33 := (hB9.ext hb5).cell 33; rw [hf] at c33; have zB := (hB9.ext hb5).lt))
      go_ret
      exact ⟨rfl, hb9.trans (hb5.mono hb9.size)⟩
    ·
      go_enter Try.func8, Try.ntmps8
      go_upto_region 1 with (fail)
      go_simp
      refine wp_gen fun wa hq => ?_
      have hb : Below w.heap.size w wa := by rw [hq]; exact (Below.refl w.heap.size w).alloc (Nat.le_refl _) _
      have hB : Blk wa w.heap.size 50 cs := by rw [hq]; exact Blk.new w 50 cs
      clear hq
      go_upto_region 4 with (first
        | (go_at_call 25; (with_reducible refine (new_33 _).mono ?_); rintro e w1 ⟨csN, rfl, hb1, hsN, h1N, hiN, AN, capN, h33N⟩)
        | (refine wpList_store_all rfl 50 _ _ rfl w1.heap.size csN rfl rfl 50 _ (Blk.new _ _ _) hiN (by rw [hsN]; rfl) h1N ?_; intro w2 hB2 hg2; have c33 := hB2.cell 33; rw [h33N] at c33; have zN := hB2.lt))
      go_simp
      have hb2 := below_grown ((hb.trans (hb1.mono hb.size)).alloc (Nat.le_trans hb.size hb1.size) _) hg2 (by have := hb.size; have := hb1.size; simp; omega) (Nat.le_trans hb.size hb1.size)
      replace hB := ((hB.ext hb1).alloc _).grown hg2 (by have := (hB.ext hb1).lt; simp; omega)
      clear hb1 hg2 c33 zN hB2 hsN h1N hiN h33N hb
      go_wp2_with (first
        | (refine wpList_load_all rfl 50 _ rfl w.heap.size rfl 50 cs _ hB Try.underlying50 rfl hs ?_)
        | (go_at_call 26; (with_reducible refine (CT.out _ hb2).mono ?_); rintro e w3 ⟨v3, rfl, hb3, A3, cap3, rfl, hM3, hf3⟩)
        | (refine wpList_store_all rfl 50 _ _ rfl w3.heap.size (mapCells 0 (List.replicate 32 0) A3 0 cap3) rfl rfl 50 _ (Blk.new _ _ _) (map_info rfl) rfl (map_one _ _ _ _ _) ?_; intro w4 hB4 hg4; have hB9 := ((hB.ext hb3).alloc _).grown hg4 (by have := (hB.ext hb3).lt; simp; omega); have hb9 := below_grown ((hb2.trans (hb3.mono hb2.size)).alloc (Nat.le_trans hb2.size hb3.size) _) hg4 (by have := hb2.size; have := hb3.size; simp; omega) (Nat.le_trans hb2.size hb3.size))
        | (refine wpList_want rfl fun K hK => ?_; refine wp_load_all 50 _ rfl w.heap.size rfl 50 cs _ hB9 Try.underlying50 rfl hs ?_; refine hK _ _ ?_)
        | (go_at_call 27; (with_reducible refine (CM.out _ hb9).mono ?_); rintro e w5 ⟨rfl, hb5⟩; have c33 := (hB9.ext hb5).cell 33; rw [hf] at c33; have zB := (hB9.ext hb5).lt))
      go_ret
      exact ⟨rfl, hb9.trans (hb5.mono hb9.size)⟩
  | some t =>
    obtain ⟨m', p, old⟩ := t
    have htd : takeD m rd = (m', p, old) := by unfold takeD; rw [htk]; rfl
    rw [htd, htk] at CT
    have hud := undo_take hlen htk
    have hudD : undoD m' rd old = m := by unfold undoD; rw [hud]; rfl
    simp only [Option.isSome_some] at CT
    obtain ⟨ho0, ho1, hf', hl'⟩ : -9223372036854775808 ≤ old ∧ old ≤ 9223372036854775807 ∧ m'.free.length < 17592186044000 ∧ m'.regs.length = 32 := by
      unfold takeP at htk
      cases hff : m.free with
      | nil => rw [hff] at htk; cases htk
      | cons q f =>
        rw [hff] at htk hfew
        simp only at htk
        split at htk
        · rename_i hc
          injection htk with htk
          injection htk with e1 e2
          injection e2 with e2 e3
          subst e1 e3
          have hlk : rd.toNat < m.regs.length := by omega
          have hmem : m.regs.getD rd.toNat 0 ∈ m.regs := by simp [List.getD, List.getElem?_eq_getElem hlk]
          have := hwf _ (List.mem_append_left _ hmem)
          simp only [List.length_cons] at hfew
          exact ⟨this.1, this.2, by show f.length < _; omega, by simp [hlen]⟩
        · cases htk
    have CT := Lib.hid CT
    have hud := Lib.hid hud
    have hudD := Lib.hid hudD
    clear CM htd htk hwf hfew
    go_enter Try.func8, Try.ntmps8
    go_upto_region 1 with (fail)
    go_simp
    refine wp_gen fun wa hq => ?_
    have hb : Below w.heap.size w wa := by rw [hq]; exact (Below.refl w.heap.size w).alloc (Nat.le_refl _) _
    have hB : Blk wa w.heap.size 50 cs := by rw [hq]; exact Blk.new w 50 cs
    clear hq
    go_upto_region 4 with (first
      | (go_at_call 25; (with_reducible refine (new_33 _).mono ?_); rintro e w1 ⟨csN, rfl, hb1, hsN, h1N, hiN, AN, capN, h33N⟩)
      | (refine wpList_store_all rfl 50 _ _ rfl w1.heap.size csN rfl rfl 50 _ (Blk.new _ _ _) hiN (by rw [hsN]; rfl) h1N ?_; intro w2 hB2 hg2; have c33 := hB2.cell 33; rw [h33N] at c33; have zN := hB2.lt))
    go_simp
    have hb2 := below_grown ((hb.trans (hb1.mono hb.size)).alloc (Nat.le_trans hb.size hb1.size) _) hg2 (by have := hb.size; have := hb1.size; simp; omega) (Nat.le_trans hb.size hb1.size)
    replace hB := ((hB.ext hb1).alloc _).grown hg2 (by have := (hB.ext hb1).lt; simp; omega)
    clear hb1 hg2 c33 zN hB2 hsN h1N hiN h33N hb
    go_upto_region 5 with (first
      | (refine wpList_load_all rfl 50 _ rfl w.heap.size rfl 50 cs _ hB Try.underlying50 rfl hs ?_)
      | (go_at_call 26; (with_reducible refine (CT.out _ hb2).mono ?_); rintro e w3 ⟨v3, rfl, hb3, A3, cap3, rfl, hM3, hf3⟩)
      | (refine wpList_store_all rfl 50 _ _ rfl w3.heap.size (mapCells m'.phys m'.regs A3 m'.free.length cap3) rfl rfl 50 _ (Blk.new _ _ _) (map_info hl') (by rw [mapCells_size _ _ _ _ _ hl']; rfl) (map_one _ _ _ _ _) ?_; intro w4 hB4 hg4))
    go_simp
    have hb34 : Below w3.heap.size w3 w4 := below_grown ((Below.refl _ w3).alloc (Nat.le_refl _) _) hg4 (by simp) (Nat.le_refl _)
    have hs3 := map_info (phys := m'.phys) (A := A3) (n := m'.free.length) (cap := cap3) hl'
    have hM4 := hM3.ext hb34
    have hV4 : MapV w4 m' (.agg (mapCells m'.phys m'.regs A3 m'.free.length cap3)) := ⟨A3, cap3, rfl, hM4⟩
    generalize mapCells m'.phys m'.regs A3 m'.free.length cap3 = cs3 at *
    have CU := undo_any hV4 rd old hr0 hr1 ho0 ho1 hf'
    rw [hud.out, hudD.out] at CU
    simp only [Option.isSome_some] at CU
    have CU := Lib.hid CU
    have hb4 := hb2.trans ((hb3.trans (hb34.mono hb3.size)).mono hb2.size)
    replace hB := (hB.ext hb3).ext hb34
    clear hM3 hM4 hV4 hb34 hg4 hb3 hb2 hf3
    go_upto_region 8 with (first
      | (refine wpList_load_all rfl 50 _ rfl w3.heap.size rfl 50 cs3 _ hB4 Try.underlying50 rfl hs3 ?_)
      | (go_at_call 29; (with_reducible refine CU.out.mono ?_); rintro e w5 ⟨v5, rfl, hb5, A5, cap5, rfl, hM5, hf5⟩)
      | (refine wpList_store_all rfl 50 _ _ rfl w5.heap.size (mapCells m.phys m.regs A5 m.free.length cap5) rfl rfl 50 _ (Blk.new _ _ _) (map_info hlen) (by rw [mapCells_size _ _ _ _ _ hlen]; rfl) (map_one _ _ _ _ _) ?_; intro w6 hB6 hg6))
    go_simp
    have hb56 : Below w5.heap.size w5 w6 := below_grown ((Below.refl _ w5).alloc (Nat.le_refl _) _) hg6 (by simp) (Nat.le_refl _)
    have hs5 := map_info (phys := m.phys) (A := A5) (n := m.free.length) (cap := cap5) hlen
    have hM6 := hM5.ext hb56
    have hV6 : MapV w6 m (.agg (mapCells m.phys m.regs A5 m.free.length cap5)) := ⟨A5, cap5, rfl, hM6⟩
    generalize mapCells m.phys m.regs A5 m.free.length cap5 = cs5 at *
    have hb6 := hb4.trans ((hb5.trans (hb56.mono hb5.size)).mono hb4.size)
    have CS := Lib.hid (same_any hV6 (HV.out w6 hb6))
    replace hB := (hB.ext hb5).ext hb56
    clear hM5 hM6 hV6 hb56 hg6 hb5 hb4 hf5
    go_wp2_with (first
      | (refine wpList_want rfl fun K hK => ?_; refine wp_load_all 50 _ rfl w5.heap.size rfl 50 cs5 _ hB6 Try.underlying50 rfl hs5 ?_; refine hK _ _ ?_)
      | (refine wpList_want rfl fun K hK => ?_; refine wp_load_all 50 _ rfl w.heap.size rfl 50 cs _ hB Try.underlying50 rfl hs ?_; refine hK _ _ ?_)
      | (go_at_call 30; (with_reducible refine CS.out.mono ?_); rintro e w7 ⟨rfl, hb7⟩))
    go_ret
    exact ⟨rfl, hb6.trans (hb7.mono hb6.size)⟩
end Go.Proofs.Ytapgojgcmlnbgaa
