/- The walks of the reference of mem: Store. -/
import Derived.Test.YtapgojgcmlnbgaaRef3a
import Derived.Laws.AppendOwnNone
import Derived.Deep.AppendLies
namespace Go.Proofs.Ytapgojgcmlnbgaa
open Go.RowKit

theorem refStore_info : (Try.prog.info? 5).map (fun i => (i.zero, i.size, i.bytes)) = some (some (.int .u8 0), 1, 1) := by kernel_rfl
set_option maxRecDepth 100000 in
set_option maxHeartbeats 1000000 in
theorem refStore_ok (A : Option Addr) (cap : Nat) (m : List Int) (op p x : Int) (w : World) (h0 : 0 ≤ p) (h1 : p ≤ 4294967295) (hl : m.length ≤ 140737488351232) (hx0 : 0 ≤ x) (hx1 : x ≤ 4294967295)
    (hA : IntsAt w w.heap.size .u8 A m) (hok : storeOk m.length op p = true) :
    Calls Try.prog 34 #[.slice A m.length cap, .int .i64 op, .int .u32 p, .int .u32 x] w fun e w' => ∃ v, e = .returned (.tuple #[v, .bool true]) ∧ Below w.heap.size w w' ∧
      w'.ownsRow w.heap.size 5 1 v m.length ((putW m op p.toNat x).map (.int .u8)) := by
  obtain ⟨n, rfl⟩ := Int.eq_ofNat_of_zero_le h0
  have hth : thereB m.length n (sizeI op) = true := by unfold storeOk at hok; simp at hok; exact hok.2
  have ho : 16 ≤ op ∧ op ≤ 18 := by unfold storeOk at hok; simp at hok; exact hok.1
  clear hok
  have hin : (n : Int) + sizeI op ≤ m.length := by unfold thereB at hth; simp at hth; exact hth.2
  obtain ⟨ho1, ho2⟩ := ho
  obtain rfl | rfl | rfl : op = 16 ∨ op = 17 ∨ op = 18 := by omega
  ·
    have s : refSizeI 16 true = 1 := rfl
    have s' : sizeI 16 = 1 := rfl
    rw [s'] at hin hth
    have hn : (n : Int) + (1 - 1) ≤ 4294967295 := by unfold thereB at hth; simp at hth; omega
    have hne : m ≠ [] := by intro e; subst e; simp at hin; omega
    obtain ⟨b0, o0, rfl, hbB, _⟩ := hA hne
    obtain ⟨i0, hi, hz0, hz1, hz2⟩ := info_parts refStore_info
    have Hc := Lib.hid (hA.cells _ rfl)
    have hown0 := World.ownsRow_lit (base := w.heap.size) (e := 5) (size := 1) w #[] 0 (Nat.le_refl _) (by unfold maxLen; omega) rfl
    have hS := Lib.hid s
    clear s s' hA
    go_enter Try.func34, Try.ntmps34
    go_wp2_with (first
      | (go_at_call 59; refine (refSize_any _ _ _).mono ?_; rintro e w1 ⟨rfl, rfl⟩; rw [hS.out])
      | (go_at_call 60; refine (refThere_any _ _ _ _ 1 _ (by omega) (by omega) (by omega) (by omega) (by omega)).mono ?_; rintro e w1 ⟨rfl, rfl⟩; rw [hth])
      | (at_builtin; refine wpList_append_own _ rfl (.tmp 21) (.tmp 22) 26 rfl w.heap.size 5 i0 _ 1 1 Try.underlying26 hi hz0 hz1 hz2 rfl (by decide) _ 0 [] rfl hown0 ⟨b0, o0, none⟩ m.length cap (m.map (.int .u8)) rfl (by simp) (fun j u hu => (World.cell?_alloc_lt _ _ _ (World.block_lt_of_cell? _ _ (Hc.out j u hu))).trans (Hc.out j u hu)) (ints_oneCell _ _) (by unfold maxLen; omega) (by omega) (by simp) ?_; intro v1 w1 hown1 hg1 hat1))
    have hown2 : w1.ownsRow w.heap.size 5 1 v1 m.length (m.map (.int .u8)) := by simpa using hown1
    have hb1 : Below w.heap.size w w1 := ((Below.refl _ _).alloc (Nat.le_refl _) _).grown hg1 (by simp) (fun k hk => by cases hk; exact Nat.le_refl _)
    clear hown1 hg1 hat1
    obtain ⟨g, c1, hv, hgb, hgl⟩ := hown2.form (by omega)
    rw [hv] at hown2 ⊢
    clear hv
    have hc := fun j (hj : j < m.length) => (hown2.cellAt j (by omega)).trans (show (m.map (Value.int .u8))[j]? = some (.int .u8 (m.getD j 0)) by simp [List.getD, hj])
    have hfz := hown2.frozenAt
    have c0 := hc n (by omega)
    have d1 : 1 > 1 → w1.cell? ⟨g, n + 1, none⟩ = some (.int .u8 (m.getD (n + 1) 0)) := fun h => hc (n + 1) (by omega)
    have d2 : 1 > 2 → w1.cell? ⟨g, n + 2, none⟩ = some (.int .u8 (m.getD (n + 2) 0)) := fun h => hc (n + 2) (by omega)
    have d3 : 1 > 3 → w1.cell? ⟨g, n + 3, none⟩ = some (.int .u8 (m.getD (n + 3) 0)) := fun h => hc (n + 3) (by omega)
    have Hown := Lib.hid hown2
    clear hc hown2
    generalize m.getD n 0 = x0 at c0
    generalize m.getD (n + 1) 0 = x1 at d1
    generalize m.getD (n + 2) 0 = x2 at d2
    generalize m.getD (n + 3) 0 = x3 at d3
    refine wp_loop_rounds 2 ?_
    repeat any_goals (rw [rounds_succ]; go_wp2)
    all_goals
      go_ret2
      have e1 := Hown.out.stored n (.int .u8 (x % 256)); exact ⟨_, rfl, hb1.setCell hgb _, by simpa [putW, put1, List.map_set] using e1.1⟩
  ·
    have s : refSizeI 17 true = 2 := rfl
    have s' : sizeI 17 = 2 := rfl
    rw [s'] at hin hth
    have hn : (n : Int) + (2 - 1) ≤ 4294967295 := by unfold thereB at hth; simp at hth; omega
    have hne : m ≠ [] := by intro e; subst e; simp at hin; omega
    obtain ⟨b0, o0, rfl, hbB, _⟩ := hA hne
    obtain ⟨i0, hi, hz0, hz1, hz2⟩ := info_parts refStore_info
    have Hc := Lib.hid (hA.cells _ rfl)
    have hown0 := World.ownsRow_lit (base := w.heap.size) (e := 5) (size := 1) w #[] 0 (Nat.le_refl _) (by unfold maxLen; omega) rfl
    have hS := Lib.hid s
    clear s s' hA
    go_enter Try.func34, Try.ntmps34
    go_wp2_with (first
      | (go_at_call 59; refine (refSize_any _ _ _).mono ?_; rintro e w1 ⟨rfl, rfl⟩; rw [hS.out])
      | (go_at_call 60; refine (refThere_any _ _ _ _ 2 _ (by omega) (by omega) (by omega) (by omega) (by omega)).mono ?_; rintro e w1 ⟨rfl, rfl⟩; rw [hth])
      | (at_builtin; refine wpList_append_own _ rfl (.tmp 21) (.tmp 22) 26 rfl w.heap.size 5 i0 _ 1 1 Try.underlying26 hi hz0 hz1 hz2 rfl (by decide) _ 0 [] rfl hown0 ⟨b0, o0, none⟩ m.length cap (m.map (.int .u8)) rfl (by simp) (fun j u hu => (World.cell?_alloc_lt _ _ _ (World.block_lt_of_cell? _ _ (Hc.out j u hu))).trans (Hc.out j u hu)) (ints_oneCell _ _) (by unfold maxLen; omega) (by omega) (by simp) ?_; intro v1 w1 hown1 hg1 hat1))
    have hown2 : w1.ownsRow w.heap.size 5 1 v1 m.length (m.map (.int .u8)) := by simpa using hown1
    have hb1 : Below w.heap.size w w1 := ((Below.refl _ _).alloc (Nat.le_refl _) _).grown hg1 (by simp) (fun k hk => by cases hk; exact Nat.le_refl _)
    clear hown1 hg1 hat1
    obtain ⟨g, c1, hv, hgb, hgl⟩ := hown2.form (by omega)
    rw [hv] at hown2 ⊢
    clear hv
    have hc := fun j (hj : j < m.length) => (hown2.cellAt j (by omega)).trans (show (m.map (Value.int .u8))[j]? = some (.int .u8 (m.getD j 0)) by simp [List.getD, hj])
    have hfz := hown2.frozenAt
    have c0 := hc n (by omega)
    have d1 : 2 > 1 → w1.cell? ⟨g, n + 1, none⟩ = some (.int .u8 (m.getD (n + 1) 0)) := fun h => hc (n + 1) (by omega)
    have d2 : 2 > 2 → w1.cell? ⟨g, n + 2, none⟩ = some (.int .u8 (m.getD (n + 2) 0)) := fun h => hc (n + 2) (by omega)
    have d3 : 2 > 3 → w1.cell? ⟨g, n + 3, none⟩ = some (.int .u8 (m.getD (n + 3) 0)) := fun h => hc (n + 3) (by omega)
    have Hown := Lib.hid hown2
    clear hc hown2
    generalize m.getD n 0 = x0 at c0
    generalize m.getD (n + 1) 0 = x1 at d1
    generalize m.getD (n + 2) 0 = x2 at d2
    generalize m.getD (n + 3) 0 = x3 at d3
    refine wp_loop_rounds 3 ?_
    repeat any_goals (rw [rounds_succ]; go_wp2)
    all_goals
      go_ret2
      have e1 := Hown.out.stored n (.int .u8 (x % 256)); have e2 := e1.1.stored (n + 1) (.int .u8 (x / 256 % 256)); exact ⟨_, rfl, (hb1.setCell hgb _).setCell hgb _, by simpa [putW, put2, put1, List.map_set] using e2.1⟩
  ·
    have s : refSizeI 18 true = 4 := rfl
    have s' : sizeI 18 = 4 := rfl
    rw [s'] at hin hth
    have hn : (n : Int) + (4 - 1) ≤ 4294967295 := by unfold thereB at hth; simp at hth; omega
    have hne : m ≠ [] := by intro e; subst e; simp at hin; omega
    obtain ⟨b0, o0, rfl, hbB, _⟩ := hA hne
    obtain ⟨i0, hi, hz0, hz1, hz2⟩ := info_parts refStore_info
    have Hc := Lib.hid (hA.cells _ rfl)
    have hown0 := World.ownsRow_lit (base := w.heap.size) (e := 5) (size := 1) w #[] 0 (Nat.le_refl _) (by unfold maxLen; omega) rfl
    have hS := Lib.hid s
    clear s s' hA
    go_enter Try.func34, Try.ntmps34
    go_wp2_with (first
      | (go_at_call 59; refine (refSize_any _ _ _).mono ?_; rintro e w1 ⟨rfl, rfl⟩; rw [hS.out])
      | (go_at_call 60; refine (refThere_any _ _ _ _ 4 _ (by omega) (by omega) (by omega) (by omega) (by omega)).mono ?_; rintro e w1 ⟨rfl, rfl⟩; rw [hth])
      | (at_builtin; refine wpList_append_own _ rfl (.tmp 21) (.tmp 22) 26 rfl w.heap.size 5 i0 _ 1 1 Try.underlying26 hi hz0 hz1 hz2 rfl (by decide) _ 0 [] rfl hown0 ⟨b0, o0, none⟩ m.length cap (m.map (.int .u8)) rfl (by simp) (fun j u hu => (World.cell?_alloc_lt _ _ _ (World.block_lt_of_cell? _ _ (Hc.out j u hu))).trans (Hc.out j u hu)) (ints_oneCell _ _) (by unfold maxLen; omega) (by omega) (by simp) ?_; intro v1 w1 hown1 hg1 hat1))
    have hown2 : w1.ownsRow w.heap.size 5 1 v1 m.length (m.map (.int .u8)) := by simpa using hown1
    have hb1 : Below w.heap.size w w1 := ((Below.refl _ _).alloc (Nat.le_refl _) _).grown hg1 (by simp) (fun k hk => by cases hk; exact Nat.le_refl _)
    clear hown1 hg1 hat1
    obtain ⟨g, c1, hv, hgb, hgl⟩ := hown2.form (by omega)
    rw [hv] at hown2 ⊢
    clear hv
    have hc := fun j (hj : j < m.length) => (hown2.cellAt j (by omega)).trans (show (m.map (Value.int .u8))[j]? = some (.int .u8 (m.getD j 0)) by simp [List.getD, hj])
    have hfz := hown2.frozenAt
    have c0 := hc n (by omega)
    have d1 : 4 > 1 → w1.cell? ⟨g, n + 1, none⟩ = some (.int .u8 (m.getD (n + 1) 0)) := fun h => hc (n + 1) (by omega)
    have d2 : 4 > 2 → w1.cell? ⟨g, n + 2, none⟩ = some (.int .u8 (m.getD (n + 2) 0)) := fun h => hc (n + 2) (by omega)
    have d3 : 4 > 3 → w1.cell? ⟨g, n + 3, none⟩ = some (.int .u8 (m.getD (n + 3) 0)) := fun h => hc (n + 3) (by omega)
    have Hown := Lib.hid hown2
    clear hc hown2
    generalize m.getD n 0 = x0 at c0
    generalize m.getD (n + 1) 0 = x1 at d1
    generalize m.getD (n + 2) 0 = x2 at d2
    generalize m.getD (n + 3) 0 = x3 at d3
    refine wp_loop_rounds 5 ?_
    repeat any_goals (rw [rounds_succ]; go_wp2)
    all_goals
      go_ret2
      have e1 := Hown.out.stored n (.int .u8 (x % 256)); have e2 := e1.1.stored (n + 1) (.int .u8 (x / 256 % 256)); have e3 := e2.1.stored (n + 2) (.int .u8 (x / 256 / 256 % 256)); have e4 := e3.1.stored (n + 3) (.int .u8 (x / 256 / 256 / 256 % 256)); have ex : x / 16777216 % 256 = x / 256 / 256 / 256 % 256 := (by omega); have ey : x / 65536 % 256 = x / 256 / 256 % 256 := (by omega); exact ⟨_, rfl, (((hb1.setCell hgb _).setCell hgb _).setCell hgb _).setCell hgb _, by unfold putW; simp only [show ¬((18 : Int) = 16) by omega, show ¬((18 : Int) = 17) by omega, if_false]; unfold put4; rw [ex, ey]; simpa [put2, put1, List.map_set] using e4.1⟩

set_option maxRecDepth 100000 in
set_option maxHeartbeats 1000000 in
theorem refStore_not (A : Option Addr) (len cap : Nat) (op p x : Int) (w : World) (h0 : 0 ≤ p) (h1 : p ≤ 4294967295) (hl : len ≤ 140737488351232) (hok : storeOk len op p = false) :
    Calls Try.prog 34 #[.slice A len cap, .int .i64 op, .int .u32 p, .int .u32 x] w fun e w' => e = .returned (.tuple #[.slice none 0 0, .bool false]) ∧ w = w' := by
  have hth : thereB len p (refSizeI op true) = false := by
    by_cases h : 16 ≤ op ∧ op ≤ 18
    · have hs : refSizeI op true = sizeI op := by
        unfold refSizeI sizeI
        simp only [if_true]
        (repeat' split) <;> first | rfl | omega
      rw [hs]
      unfold storeOk at hok
      simpa [h.1, h.2] using hok
    · have : refSizeI op true = 0 := by
        unfold refSizeI
        simp only [if_true]
        (repeat' split) <;> omega
      rw [this]
      rfl
  have s0 : 0 ≤ refSizeI op true := by unfold refSizeI; (repeat' split) <;> omega
  have s1 : refSizeI op true ≤ 4 := by unfold refSizeI; (repeat' split) <;> omega
  obtain ⟨sz, hsz⟩ : ∃ z, refSizeI op true = z := ⟨_, rfl⟩
  rw [hsz] at hth s0 s1
  have Hsz := Lib.hid hsz
  clear hsz hok
  go_enter Try.func34, Try.ntmps34
  go_wp2_with (first
    | (go_at_call 59; refine (refSize_any _ _ _).mono ?_; rintro e w1 ⟨rfl, rfl⟩; rw [Hsz.out])
    | (go_at_call 60; refine (refThere_any _ _ _ _ sz _ (by omega) (by omega) (by omega) (by omega) (by omega)).mono ?_; rintro e w1 ⟨rfl, rfl⟩; rw [hth]))
  go_ret2
  exact ⟨rfl, rfl⟩
end Go.Proofs.Ytapgojgcmlnbgaa
