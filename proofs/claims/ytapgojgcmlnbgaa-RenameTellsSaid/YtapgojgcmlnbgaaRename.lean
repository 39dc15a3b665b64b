/- The walks of package rename. -/
import Derived.Test.YtapgojgcmlnbgaaCloneInts
import Derived.Test.YtapgojgcmlnbgaaOrd
import Derived.Test.YtapgojgcmlnbgaaBlks
import Derived.Test.YtapgojgcmlnbgaaMapSet
import Derived.Test.YtapgojgcmlnbgaaRenamePlain
import Derived.Test.YtapgojgcmlnbgaaAppend
import Derived.Deep.RegionWith
import Derived.Outline
import Derived.Deep.Cut
namespace Go.Proofs.Ytapgojgcmlnbgaa
open Go.RowKit

/-- The cells of a map of registers. -/
def mapCells (phys : Int) (regs : List Int) (A : Option Addr) (n cap : Nat) : Array Value := (.int .i64 phys :: (regs.map (.int .i64) ++ [.slice A n cap])).toArray
theorem mapCells_size (phys : Int) (regs : List Int) (A : Option Addr) (n cap : Nat) (h : regs.length = 32) : (mapCells phys regs A n cap).size = 34 := by simp [mapCells, h]
theorem mapCells_0 (phys : Int) (regs : List Int) (A : Option Addr) (n cap : Nat) : (mapCells phys regs A n cap)[0]? = some (.int .i64 phys) := rfl
theorem mapCells_reg (phys : Int) (regs : List Int) (A : Option Addr) (n cap : Nat) {i : Nat} (h : i < regs.length) : (mapCells phys regs A n cap)[1 + i]? = some (.int .i64 (regs.getD i 0)) := by
  unfold mapCells
  rw [List.getElem?_toArray, Nat.add_comm 1 i, List.getElem?_cons_succ, List.getElem?_append_left (by simpa using h), List.getElem?_map]
  simp [List.getD, List.getElem?_eq_getElem h]
theorem mapCells_free (phys : Int) (regs : List Int) (A : Option Addr) (n cap : Nat) (h : regs.length = 32) : (mapCells phys regs A n cap)[33]? = some (.slice A n cap) := by
  unfold mapCells
  rw [List.getElem?_toArray, List.getElem?_cons_succ, List.getElem?_append_right (by simp [h])]
  simp [h]

theorem getD_set' (m : List Int) (i j : Nat) (x : Int) : (m.set i x).getD j 0 = if i = j ∧ i < m.length then x else m.getD j 0 := by
  simp only [List.getD]
  by_cases h : i = j
  · subst h
    by_cases h2 : i < m.length
    · rw [List.getElem?_set_self h2, if_pos ⟨rfl, h2⟩]; rfl
    · rw [if_neg (by omega), List.getElem?_eq_none (by simp; omega), List.getElem?_eq_none (by omega)]
  · rw [List.getElem?_set_ne h, if_neg (by omega)]
theorem mapCells_set (phys : Int) (regs : List Int) (A A' : Option Addr) (n cap n' cap' : Nat) (k : Nat) (p : Int) (h : regs.length = 32) (hk : k < 32) :
    ((mapCells phys regs A n cap).setIfInBounds (1 + k) (.int .i64 p)).setIfInBounds 33 (.slice A' n' cap') = mapCells phys (regs.set k p) A' n' cap' := by
  apply Array.ext_getElem?
  intro i
  have hs := mapCells_size phys regs A n cap h
  have hs' : (regs.set k p).length = 32 := by simp [h]
  rw [Array.getElem?_setIfInBounds, Array.getElem?_setIfInBounds]
  simp only [Array.size_setIfInBounds, hs]
  by_cases h33 : 33 = i
  · subst h33
    rw [if_pos rfl, if_pos (by omega), mapCells_free _ _ _ _ _ hs']
  rw [if_neg h33]
  rcases (show i = 0 ∨ (∃ j, j < 32 ∧ i = 1 + j) ∨ 34 ≤ i by rcases Nat.lt_or_ge i 1 with h1 | h1; left; omega; rcases Nat.lt_or_ge i 33 with h2 | h2; exact Or.inr (Or.inl ⟨i - 1, by omega, by omega⟩); right; right; omega) with rfl | ⟨j, hj, rfl⟩ | h34
  · rw [if_neg (by omega)]; rfl
  · rw [show (mapCells phys (regs.set k p) A' n' cap')[1 + j]? = _ from mapCells_reg phys (regs.set k p) A' n' cap' (by rw [hs']; exact hj), getD_set']
    by_cases hkj : k = j
    · subst hkj
      rw [if_pos rfl, if_pos (by omega), if_pos (by omega)]
    · rw [if_neg (by omega), if_neg (by omega), mapCells_reg _ _ _ _ _ (by rw [h]; exact hj)]
  · rw [if_neg (by omega), Array.getElem?_eq_none (by rw [hs]; exact h34), Array.getElem?_eq_none (by rw [mapCells_size _ _ _ _ _ hs']; exact h34)]
theorem wf_i64' {n : Int} (h0 : -9223372036854775808 ≤ n) (h1 : n ≤ 9223372036854775807) : (Lit.int .i64 n).wf = true := by simp only [Lit.wf, Bool.and_eq_true, decide_eq_true_eq]; exact ⟨h0, h1⟩
theorem ints_info : (Try.prog.info? 3).map (fun i => (i.zero, i.size, i.bytes)) = some (some (.int .i64 0), 1, 8) := by kernel_rfl
theorem bool_zero (w : World) : (zeroValue 4).run Try.prog w = .ok (.bool false) w := by rfl
theorem okL_drop (phys : Int) (had : List Int) (l : List Int) (k : Nat) (hk : k < l.length) : okL phys had (l.drop k) = if l.getD k 0 < 0 ∨ phys ≤ l.getD k 0 ∨ l.getD k 0 ∈ had then false else okL phys (l.getD k 0 :: had) (l.drop (k + 1)) := by
  rw [List.drop_eq_getElem_cons hk]
  have : l.getD k 0 = l[k] := by simp [List.getD, List.getElem?_eq_getElem hk]
  rw [this]
  rfl
set_option maxRecDepth 100000 in
set_option maxHeartbeats 1000000 in
theorem used_any (phys : Int) (regs free : List Int) (A : Option Addr) (cap : Nat) (w : World) (hp0 : -9223372036854775808 ≤ phys) (hp1 : phys ≤ 9223372036854775807) (hr : regs.length = 32) (hl : free.length ≤ 17592186044000) (hA : IntsAt w w.heap.size .i64 A free) (hnil : A = none → free = [] ∧ cap = 0)
    (hwf : ∀ x ∈ regs ++ free, -9223372036854775808 ≤ x ∧ x ≤ 9223372036854775807) :
    Calls Try.prog 54 #[.agg (mapCells phys regs A free.length cap)] w fun e w' => ∃ v, e = .returned (.tuple #[v, .bool (mayP phys (regs ++ free))]) ∧ Below w.heap.size w w' ∧
      (mayP phys (regs ++ free) = true → ∃ b n S, v = .map (some b) ∧ OwnSet w' Try.prog 3 4 b n S ∧ ∀ x : Int, S.contains x = (regs ++ free).contains x) := by
  obtain ⟨l, hL⟩ : ∃ l, l = regs ++ free := ⟨_, rfl⟩
  rw [← hL] at hwf ⊢
  have hs := mapCells_size phys regs A free.length cap hr
  have hf := mapCells_free phys regs A free.length cap hr
  have h0 := mapCells_0 phys regs A free.length cap
  have hrg : ∀ j u, (regs.map (Value.int .i64))[j]? = some u → (mapCells phys regs A free.length cap)[1 + j]? = some u := fun j u hu => by
    have hj : j < regs.length := by have := (List.getElem?_eq_some_iff.1 hu).1; simpa using this
    rw [mapCells_reg phys regs A free.length cap hj]
    rw [List.getElem?_map, List.getElem?_eq_getElem hj] at hu
    simp [List.getD, List.getElem?_eq_getElem hj] at hu ⊢
    exact hu
  have hcl := fun W B C D => cloneInts_any (some ⟨w.heap.size, 1, none⟩) 32 32 (regs.map (Value.int .i64)) W B (by simp [hr]) (ints_oneCell' _) C D
  generalize mapCells phys regs A free.length cap = cs at *
  have Hrg := Lib.hid hrg
  have Hcl := Lib.hid hcl
  have HA := Lib.hid hA
  have hmm := @run_makeMap Try.prog
  clear hrg hcl hA
  go_enter Try.func54, Try.ntmps54
  go_upto_region 2 with (fail)
  go_simp
  refine wp_gen fun wa hq => ?_
  have hB : Blk wa w.heap.size 50 cs := by rw [hq]; exact (Blk.new w _ _).alloc _
  have hM : OwnSet wa Try.prog 3 4 (w.heap.size + 1) 0 [] := by rw [hq]; have h := OwnSet.made (w.alloc (.cells cs 50)) Try.prog 3 4; simpa using h
  have hb : Below w.heap.size w wa := by rw [hq]; exact ((Below.refl _ _).alloc (Nat.le_refl _) _).alloc (by simp) _
  have hz : wa.heap.size = w.heap.size + 2 := by rw [hq]; simp
  clear hq
  refine wp_region_ob 203 16 219 [0, 1, 3, 4, 7, 2, 5, 6] (by kernel_rfl) (by kernel_rfl) (by kernel_rfl) rfl ?_
  repeat' (first
    | refine wpO_plain rfl rfl ?_
    | (refine' wpOW_ever _ (by decide) (by decide) (fun wq K hK => ?_) ?_ ?_
       rotate_left 1
       · (go_wp2_with (fail)
          all_goals exact hK)
       · rfl)
    | (refine' wpOW_reads _ (by decide) (by decide) (by decide) (fun wq hwq K hK => ?_) ?_ ?_
       rotate_left 1
       · (have hc33 := (hB.ext hwq).cell 33; rw [hf] at hc33
          first
          | (fail)
          | (go_wp2_with (fail)
             all_goals exact hK))
       · rfl)
    | (refine' wpOW_calls _ (by decide) (by decide) (by decide) (fun wq hwq K hK => ?_) ?_ ?_
       rotate_left 1
       · (have hc33 := (hB.ext hwq).cell 33; rw [hf] at hc33
          first
          | (fail)
          | (go_wp2_with (fail)
             all_goals exact hK _ hwq))
       · rfl)
    | (refine wpO_guardT rfl rfl rfl rfl ?_ ?_ <;> intro hc <;> first | (cases hc; done) | ((try cases hc); simp only [Act.put, List.setIfInBounds_toArray, List.set_cons_succ, List.set_cons_zero]))
    | (refine wpO_guardF rfl rfl rfl rfl ?_ ?_ <;> intro hc <;> first | (cases hc; done) | ((try cases hc); simp only [Act.put, List.setIfInBounds_toArray, List.set_cons_succ, List.set_cons_zero]))
    | refine wpO_guardU rfl rfl rfl rfl ?_)
  refine wpOW_beside (by decide) (by decide) (by decide) (by kernel_rfl) (fun w1 hw1 K1 hK1 => ?_)
  subst hw1
  have hBd := hB.ext (Below.refl _ _).drew
  go_wp2_with (go_at_call 53; (with_reducible refine (Hcl.out _ (by decide) ?_ ?_).mono ?_); (intro ad had j u hu; obtain rfl := Option.some.inj had; (rw [Addr.add_lit, hBd.cell]; exact Hrg.out j u hu)); (intro h; cases h); rintro e w2 ⟨v2, rfl, hown2, hb2⟩)
  refine hK1 _ _ ((Below.refl _ _).drew.trans (hb2.mono (Nat.le_refl _))) ?_
  clear hK1 K1
  simp only [Act.put, List.setIfInBounds_toArray, List.set_cons_succ, List.set_cons_zero]
  -- the registers and the free ones, in one row
  have hnews : ∀ ad, A = some ad → ∀ j u, (free.map (Value.int .i64))[j]? = some u → w2.cell? (ad.add j) = some u := by
    have h1 := (((HA.out.below hb).mono (show w.heap.size ≤ wa.heap.size by omega)).below ((Below.refl _ _).drew.trans (hb2.mono (Nat.le_refl _)))).cells
    exact h1
  obtain ⟨i0, hi, hz0, hz1, hz2⟩ := info_parts ints_info
  refine wpO_plain rfl rfl ?_
  refine wpOW_beside (by decide) (by decide) (by decide) (by kernel_rfl) (fun w1 hw1 K hK => ?_)
  subst hw1
  refine wp_append_any (.tmp 10) (.tmp 12) 48 rfl wa.drew.heap.size 3 i0 _ 1 8 Try.underlying48 hi hz0 hz1 hz2 rfl (by decide) v2 32 _ rfl hown2 A free.length cap (free.map (.int .i64)) rfl (by simp) (fun h => by have := hnil h; simp [this]) hnews (ints_oneCell' _) (by unfold maxLen; omega) (by omega) hb2.size ?_
  intro v3 w3 hown3 hg3
  have hsz2 := hb2.size
  have hb3 : Below wa.heap.size wa w3 := (((Below.refl _ _).drew.trans (hb2.mono (Nat.le_refl _)))).grown hg3 hsz2 (fun k hk => (hown2.lt k hk).1)
  refine hK _ _ hb3 ?_
  simp only [Act.put, List.setIfInBounds_toArray, List.set_cons_succ, List.set_cons_zero]
  rw [← List.map_append, ← hL] at hown3
  obtain ⟨g, cap3, cur, rfl, hgb, hG, hcur⟩ := own_blk hown3 (by omega)
  repeat' (first
    | refine wpO_plain rfl rfl ?_
    | (refine' wpOW_ever _ (by decide) (by decide) (fun wq K hK => ?_) ?_ ?_
       rotate_left 1
       · (go_wp2_with (fail)
          all_goals exact hK)
       · rfl)
    | (refine' wpOW_reads _ (by decide) (by decide) (by decide) (fun wq hwq K hK => ?_) ?_ ?_
       rotate_left 1
       · (skip
          first
          | (fail)
          | (go_wp2_with (fail)
             all_goals exact hK))
       · rfl)
    | (refine' wpOW_calls _ (by decide) (by decide) (by decide) (fun wq hwq K hK => ?_) ?_ ?_
       rotate_left 1
       · (skip
          first
          | (fail)
          | (go_wp2_with (fail)
             all_goals exact hK _ hwq))
       · rfl)
    | (refine wpO_guardT rfl rfl rfl rfl ?_ ?_ <;> intro hc <;> first | (cases hc; done) | ((try cases hc); simp only [Act.put, List.setIfInBounds_toArray, List.set_cons_succ, List.set_cons_zero]))
    | (refine wpO_guardF rfl rfl rfl rfl ?_ ?_ <;> intro hc <;> first | (cases hc; done) | ((try cases hc); simp only [Act.put, List.setIfInBounds_toArray, List.set_cons_succ, List.set_cons_zero]))
    | refine wpO_guardU rfl rfl rfl rfl ?_)
  refine wpO_nil ?_
  rintro w4 rfl
  replace hB := hB.ext hb3
  replace hM := hM.kept (below_grownBy hb3) (by simp)
  have hgz : wa.heap.size ≤ g := hgb
  replace hb := hb.trans (hb3.mono hb.size)
  clear hown2 hown3 hg3 hb3 hgb hK K hBd hsz2 hb2 hnews i0 hi hz0 hz1 hz2
  have hll : l.length = 32 + free.length := by rw [hL]; simp [hr]
  generalize hX : okL phys [] l = X
  have HX : Hid (okL phys [] (l.drop 0) = X) := Lib.hid hX
  have Hm := Lib.hid (show mayP phys l = (X && physOk phys) by unfold mayP; rw [hX])
  have Hcur := Lib.hid hcur
  have Hwf := Lib.hid hwf
  have Hll := Lib.hid hll
  clear hX hcur hwf hll hL
  go_wp2_with (fail)
  go_loopw [15] (fun v wr => ∃ (k : Nat) (S : List Int), v = .int .i64 k ∧ k ≤ 32 + free.length ∧ Below w.heap.size w wr ∧ OwnSet wr Try.prog 3 4 (w.heap.size + 1) k S ∧ Hid (∀ x : Int, S.contains x = (l.take k).contains x) ∧ Blk wr w.heap.size 50 cs ∧ Blk wr g 3 cur ∧ Hid (okL phys S (l.drop k) = X)) (fun v _ => 32 + free.length + 1 - (intOf v).toNat)
  case atStart => exact ⟨0, [], rfl, by omega, hb, hM, Lib.hid (fun x => by simp), hB, hG, HX⟩
  case round =>
    clear hM hB hG hb HX
    obtain ⟨k, S, rfl, hk, hb, hM, HS, hB, hG, HR⟩ := hrel
    have zB := hB.lt
    have c0 := hB.cell 0
    rw [h0] at c0
    by_cases hlt : k < 32 + free.length
    · have hs := okL_drop phys S l k (by rw [Hll.out]; exact hlt)
      have hgl : l[k]? = some (l.getD k 0) := by
        have : k < l.length := by rw [Hll.out]; exact hlt
        simp [List.getD, List.getElem?_eq_getElem this]
      have hw := Hwf.out (l.getD k 0) (List.mem_of_getElem? hgl)
      have ck := hG.cell k
      rw [Hcur.out k hlt] at ck
      have HT := Lib.hid (show ∀ x : Int, (l.take (k + 1)).contains x = ((l.take k).contains x || x == l.getD k 0) by
        intro x
        rw [List.take_succ_eq_append_getElem (by rw [Hll.out]; exact hlt), List.contains_append]
        have : l.getD k 0 = l[k]'(by rw [Hll.out]; exact hlt) := by simp [List.getD, List.getElem?_eq_getElem (show k < l.length by rw [Hll.out]; exact hlt)]
        rw [this, List.contains_cons, List.contains_nil, Bool.or_false])
      clear hgl
      generalize l.getD k 0 = p at hs hw ck HT
      have hlk := hM.look (t := 86) Try.underlying3 Try.underlying86 Try.underlying4 (bool_zero _) p (wf_i64' hw.1 hw.2)
      obtain ⟨w5, hpt, hM5, hg5⟩ := hM.put (t := 86) Try.underlying3 Try.underlying86 Try.underlying4 (by unfold maxLen; omega) p (wf_i64' hw.1 hw.2)
      have hB5 := Lib.hid (hB.grown hg5 (by simp))
      have hG5 := Lib.hid (hG.grown hg5 (by simp; omega))
      have hb5 := Lib.hid (below_grown hb hg5 (by have := hb.size; omega) (Nat.le_succ _))
      have hM5 := Lib.hid hM5
      clear hM hg5
      by_cases h1 : p < 0
      · have HR2 : false = X := by have h := HR.out; rw [hs, if_pos (Or.inl h1)] at h; exact h
        subst HR2
        clear HR hs hlk hpt
        go_wp2_with (fail)
        go_ret2
        exact ⟨_, by rw [Hm.out]; rfl, hb, fun h => by rw [Hm.out] at h; cases h⟩
      by_cases h2 : phys ≤ p
      · have HR2 : false = X := by have h := HR.out; rw [hs, if_pos (Or.inr (Or.inl h2))] at h; exact h
        subst HR2
        clear HR hs hlk hpt
        go_wp2_with (fail)
        go_ret2
        exact ⟨_, by rw [Hm.out]; rfl, hb, fun h => by rw [Hm.out] at h; cases h⟩
      rcases hS : S.contains p with _ | _
      · have HR2 : Hid (okL phys (p :: S) (l.drop (k + 1)) = X) := by
          have h := HR.out
          rw [hs, if_neg (by rintro (h | h | h); exact h1 h; exact h2 h; (have : S.contains p = true := List.contains_iff_mem.2 h); rw [hS] at this; cases this)] at h
          exact Lib.hid h
        rw [hS] at hlk
        have h1' : decide (p < 0) = false := by simpa using h1
        have h2' : decide (phys ≤ p) = false := by simpa using h2
        clear HR hs h1 h2
        go_wp2_with (fail)
        go_roundw
        case rel => exact ⟨k + 1, p :: S, by go_num, by omega, hb5.out, hM5.out, Lib.hid (fun x => by rw [HT.out, List.contains_cons, HS.out, Bool.or_comm]), hB5.out, hG5.out, HR2⟩
        case measure => simp [intOf]; omega
      · have HR2 : false = X := by
          have h := HR.out
          rw [hs, if_pos (Or.inr (Or.inr (List.contains_iff_mem.1 hS)))] at h; exact h
        subst HR2
        rw [hS] at hlk
        have h1' : decide (p < 0) = false := by simpa using h1
        have h2' : decide (phys ≤ p) = false := by simpa using h2
        clear HR hs hpt h1 h2
        go_wp2_with (fail)
        go_ret2
        exact ⟨_, by rw [Hm.out]; rfl, hb, fun h => by rw [Hm.out] at h; cases h⟩
    · obtain rfl : k = 32 + free.length := by omega
      have HR2 : true = X := by have h := HR.out; rw [List.drop_of_length_le (by rw [Hll.out]; omega)] at h; exact h
      subst HR2
      have HS2 := Lib.hid (show ∀ x : Int, S.contains x = l.contains x by intro x; rw [HS.out, List.take_of_length_le (by rw [Hll.out]; omega)])
      have hMh := Lib.hid hM
      clear HR hM
      go_wp2_with (fail)
      go_simp
      refine wp_region_ob 1979 68 2047 [0, 1, 2, 3, 4, 5, 6, 7, 8, 9, 10] (by kernel_rfl) (by kernel_rfl) (by kernel_rfl) rfl ?_
      repeat' (first
        | refine wpO_plain rfl rfl ?_
        | (refine' wpOW_ever _ (by decide) (by decide) (fun wq K hK => ?_) ?_ ?_
           rotate_left 1
           · (go_wp2_with (fail)
              all_goals exact hK)
           · rfl)
        | (refine' wpOW_reads _ (by decide) (by decide) (by decide) (fun wq hwq K hK => ?_) ?_ ?_
           rotate_left 1
           · (have cq := (hB.ext hwq).cell 0; rw [h0] at cq
              first
              | (fail)
              | (go_wp2_with (fail)
                 all_goals exact hK))
           · rfl)
        | (refine' wpOW_calls _ (by decide) (by decide) (by decide) (fun wq hwq K hK => ?_) ?_ ?_
           rotate_left 1
           · (have cq := (hB.ext hwq).cell 0; rw [h0] at cq
              first
              | (fail)
              | (go_wp2_with (fail)
                 all_goals exact hK _ hwq))
           · rfl)
        | (refine wpO_guardT rfl rfl rfl rfl ?_ ?_ <;> intro hc <;> first | (cases hc; done) | ((try cases hc); simp only [Act.put, List.setIfInBounds_toArray, List.set_cons_succ, List.set_cons_zero]))
        | (refine wpO_guardF rfl rfl rfl rfl ?_ ?_ <;> intro hc <;> first | (cases hc; done) | ((try cases hc); simp only [Act.put, List.setIfInBounds_toArray, List.set_cons_succ, List.set_cons_zero]))
        | refine wpO_guardU rfl rfl rfl rfl ?_)
      all_goals
        refine wpO_nil ?_
        rintro w4 rfl
        go_wp2
        go_ret2
        refine ⟨_, ?_, hb.drew, fun _ => ⟨_, _, S, rfl, hMh.out.kept (below_grownBy (Below.refl _ _).drew) (by simp), HS2.out⟩⟩
        rw [Hm.out]
        unfold physOk
        simp at hc ⊢
        try omega
end Go.Proofs.Ytapgojgcmlnbgaa
