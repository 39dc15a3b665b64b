/- mem.Put, mem.Store. -/
import Derived.Test.YtapgojgcmlnbgaaMem
import Derived.Test.YtapgojgcmlnbgaaCloneBytes
import Derived.Deep.AppendLies
namespace Go.Proofs.Ytapgojgcmlnbgaa
open Go.RowKit

set_option maxRecDepth 100000 in
set_option maxHeartbeats 1000000 in
theorem put_ok (A : Option Addr) (base cap : Nat) (m : List Int) (op p x : Int) (w : World) (h0 : 0 ≤ p) (h1 : p ≤ 4294967295) (hl : m.length ≤ 9223372036854775807) (hx0 : 0 ≤ x) (hx1 : x ≤ 4294967295)
    (hown : w.ownsRow base 5 1 (.slice A m.length cap) m.length (m.map (.int .u8))) (hok : storeOk m.length op p = true) :
    Calls Try.prog 58 #[.slice A m.length cap, .int .i64 op, .int .u32 p, .int .u32 x] w fun e w' => e = .returned (.bool true) ∧
      w'.ownsRow base 5 1 (.slice A m.length cap) m.length ((putW m op p.toNat x).map (.int .u8)) ∧ w.grownBy w' (Value.slice A m.length cap).ownBlock := by
  obtain ⟨n, rfl⟩ := Int.eq_ofNat_of_zero_le h0
  have hth : thereB m.length n (sizeI op) = true := by unfold storeOk at hok; simp at hok; exact hok.2
  have ho : 16 ≤ op ∧ op ≤ 18 := by unfold storeOk at hok; simp at hok; exact hok.1
  clear hok
  have hin : (n : Int) + sizeI op ≤ m.length := by unfold thereB at hth; simp at hth; exact hth.2
  obtain ⟨ho1, ho2⟩ := ho
  obtain rfl | rfl | rfl : op = 16 ∨ op = 17 ∨ op = 18 := by omega
  ·
    have s : sizeI 16 = 1 := rfl
    rw [s] at hin hth
    have hn : (n : Int) + (1 - 1) ≤ 4294967295 := by unfold thereB at hth; simp at hth; omega
    obtain ⟨g, cap', hv, hgb, hgl⟩ := hown.form (by omega)
    injection hv with hA hn' hcap
    subst hA
    have hown' := hown
    have hc := fun j (hj : j < m.length) => (hown.cellAt j (by omega)).trans (show (m.map (Value.int .u8))[j]? = some (.int .u8 (m.getD j 0)) by simp [List.getD, hj])
    have hfz := hown.frozenAt
    have c0 := hc n (by omega)
    have c1 : 1 > 1 → w.cell? ⟨g, n + 1, none⟩ = some (.int .u8 (m.getD (n + 1) 0)) := fun h => hc (n + 1) (by omega)
    have c2 : 1 > 2 → w.cell? ⟨g, n + 2, none⟩ = some (.int .u8 (m.getD (n + 2) 0)) := fun h => hc (n + 2) (by omega)
    have c3 : 1 > 3 → w.cell? ⟨g, n + 3, none⟩ = some (.int .u8 (m.getD (n + 3) 0)) := fun h => hc (n + 3) (by omega)
    have hS := Lib.hid s
    have Hown := Lib.hid hown'
    clear hc s hown hown'
    generalize m.getD n 0 = x0 at c0
    generalize m.getD (n + 1) 0 = x1 at c1
    generalize m.getD (n + 2) 0 = x2 at c2
    generalize m.getD (n + 3) 0 = x3 at c3
    go_enter Try.func58, Try.ntmps58
    go_wp2_with (first
      | (go_at_call 56; refine (size_any _ _).mono ?_; rintro e w1 ⟨rfl, rfl⟩; rw [hS.out])
      | (go_at_call 44; refine (there_any _ _ _ _ 1 _ (by omega) (by omega) (by omega) (by omega) (by omega)).mono ?_; rintro e w1 ⟨rfl, rfl⟩; rw [hth]))
    refine wp_loop_rounds 2 ?_
    repeat any_goals (rw [rounds_succ]; go_wp2)
    all_goals
      go_ret
      have e1 := Hown.out.stored n (.int .u8 (x % 256)); exact ⟨rfl, by simpa [putW, put1, List.map_set] using e1.1, e1.2⟩
  ·
    have s : sizeI 17 = 2 := rfl
    rw [s] at hin hth
    have hn : (n : Int) + (2 - 1) ≤ 4294967295 := by unfold thereB at hth; simp at hth; omega
    obtain ⟨g, cap', hv, hgb, hgl⟩ := hown.form (by omega)
    injection hv with hA hn' hcap
    subst hA
    have hown' := hown
    have hc := fun j (hj : j < m.length) => (hown.cellAt j (by omega)).trans (show (m.map (Value.int .u8))[j]? = some (.int .u8 (m.getD j 0)) by simp [List.getD, hj])
    have hfz := hown.frozenAt
    have c0 := hc n (by omega)
    have c1 : 2 > 1 → w.cell? ⟨g, n + 1, none⟩ = some (.int .u8 (m.getD (n + 1) 0)) := fun h => hc (n + 1) (by omega)
    have c2 : 2 > 2 → w.cell? ⟨g, n + 2, none⟩ = some (.int .u8 (m.getD (n + 2) 0)) := fun h => hc (n + 2) (by omega)
    have c3 : 2 > 3 → w.cell? ⟨g, n + 3, none⟩ = some (.int .u8 (m.getD (n + 3) 0)) := fun h => hc (n + 3) (by omega)
    have hS := Lib.hid s
    have Hown := Lib.hid hown'
    clear hc s hown hown'
    generalize m.getD n 0 = x0 at c0
    generalize m.getD (n + 1) 0 = x1 at c1
    generalize m.getD (n + 2) 0 = x2 at c2
    generalize m.getD (n + 3) 0 = x3 at c3
    go_enter Try.func58, Try.ntmps58
    go_wp2_with (first
      | (go_at_call 56; refine (size_any _ _).mono ?_; rintro e w1 ⟨rfl, rfl⟩; rw [hS.out])
      | (go_at_call 44; refine (there_any _ _ _ _ 2 _ (by omega) (by omega) (by omega) (by omega) (by omega)).mono ?_; rintro e w1 ⟨rfl, rfl⟩; rw [hth]))
    refine wp_loop_rounds 3 ?_
    repeat any_goals (rw [rounds_succ]; go_wp2)
    all_goals
      go_ret
      have e1 := Hown.out.stored n (.int .u8 (x % 256)); have e2 := e1.1.stored (n + 1) (.int .u8 (x / 256 % 256)); exact ⟨rfl, by simpa [putW, put2, put1, List.map_set] using e2.1, grownBy_trans e1.2 e2.2⟩
  ·
    have s : sizeI 18 = 4 := rfl
    rw [s] at hin hth
    have hn : (n : Int) + (4 - 1) ≤ 4294967295 := by unfold thereB at hth; simp at hth; omega
    obtain ⟨g, cap', hv, hgb, hgl⟩ := hown.form (by omega)
    injection hv with hA hn' hcap
    subst hA
    have hown' := hown
    have hc := fun j (hj : j < m.length) => (hown.cellAt j (by omega)).trans (show (m.map (Value.int .u8))[j]? = some (.int .u8 (m.getD j 0)) by simp [List.getD, hj])
    have hfz := hown.frozenAt
    have c0 := hc n (by omega)
    have c1 : 4 > 1 → w.cell? ⟨g, n + 1, none⟩ = some (.int .u8 (m.getD (n + 1) 0)) := fun h => hc (n + 1) (by omega)
    have c2 : 4 > 2 → w.cell? ⟨g, n + 2, none⟩ = some (.int .u8 (m.getD (n + 2) 0)) := fun h => hc (n + 2) (by omega)
    have c3 : 4 > 3 → w.cell? ⟨g, n + 3, none⟩ = some (.int .u8 (m.getD (n + 3) 0)) := fun h => hc (n + 3) (by omega)
    have hS := Lib.hid s
    have Hown := Lib.hid hown'
    clear hc s hown hown'
    generalize m.getD n 0 = x0 at c0
    generalize m.getD (n + 1) 0 = x1 at c1
    generalize m.getD (n + 2) 0 = x2 at c2
    generalize m.getD (n + 3) 0 = x3 at c3
    go_enter Try.func58, Try.ntmps58
    go_wp2_with (first
      | (go_at_call 56; refine (size_any _ _).mono ?_; rintro e w1 ⟨rfl, rfl⟩; rw [hS.out])
      | (go_at_call 44; refine (there_any _ _ _ _ 4 _ (by omega) (by omega) (by omega) (by omega) (by omega)).mono ?_; rintro e w1 ⟨rfl, rfl⟩; rw [hth]))
    refine wp_loop_rounds 5 ?_
    repeat any_goals (rw [rounds_succ]; go_wp2)
    all_goals
      go_ret
      have e1 := Hown.out.stored n (.int .u8 (x % 256)); have e2 := e1.1.stored (n + 1) (.int .u8 (x / 256 % 256)); have e3 := e2.1.stored (n + 2) (.int .u8 (x / 65536 % 256)); have e4 := e3.1.stored (n + 3) (.int .u8 (x / 16777216)); have ex : x / 16777216 % 256 = x / 16777216 := (by omega); exact ⟨rfl, by simpa [putW, put4, put2, put1, List.map_set, ex] using e4.1, grownBy_trans (grownBy_trans (grownBy_trans e1.2 e2.2) e3.2) e4.2⟩

set_option maxRecDepth 100000 in
set_option maxHeartbeats 1000000 in
theorem put_not (A : Option Addr) (len cap : Nat) (op p x : Int) (w : World) (h0 : 0 ≤ p) (h1 : p ≤ 4294967295) (hl : len ≤ 9223372036854775807) (hok : storeOk len op p = false) :
    Calls Try.prog 58 #[.slice A len cap, .int .i64 op, .int .u32 p, .int .u32 x] w fun e w' => e = .returned (.bool false) ∧ w = w' := by
  have s0 : 0 ≤ sizeI op := by unfold sizeI; (repeat' split) <;> omega
  have s1 : sizeI op ≤ 4 := by unfold sizeI; (repeat' split) <;> omega
  obtain ⟨sz, hsz⟩ : ∃ z, sizeI op = z := ⟨_, rfl⟩
  have Hsz := Lib.hid hsz
  rw [hsz] at s0 s1
  by_cases ho : 16 ≤ op ∧ op ≤ 18
  · obtain ⟨o1, o2⟩ := ho
    have hth : thereB len p sz = false := by unfold storeOk at hok; simpa [o1, o2, hsz] using hok
    clear hok hsz
    go_enter Try.func58, Try.ntmps58
    go_wp2_with (first
      | (go_at_call 56; refine (size_any _ _).mono ?_; rintro e w1 ⟨rfl, rfl⟩; rw [Hsz.out])
      | (go_at_call 44; refine (there_any _ _ _ _ sz _ h0 h1 (by omega) (by omega) hl).mono ?_; rintro e w1 ⟨rfl, rfl⟩; rw [hth]))
    go_ret
    exact ⟨rfl, rfl⟩
  · have ho' : 16 ≤ op → 18 < op := fun h => by omega
    clear hok hsz ho
    by_cases h16 : op < 16
    · clear ho'
      go_enter Try.func58, Try.ntmps58
      go_wp2_with (go_at_call 56; refine (size_any _ _).mono ?_; rintro e w1 ⟨rfl, rfl⟩)
      go_ret
      exact ⟨rfl, rfl⟩
    · have h18 := ho' (by omega)
      clear ho'
      go_enter Try.func58, Try.ntmps58
      go_wp2_with (go_at_call 56; refine (size_any _ _).mono ?_; rintro e w1 ⟨rfl, rfl⟩)
      go_ret
      exact ⟨rfl, rfl⟩

theorem putW_length (m : List Int) (op : Int) (n : Nat) (x : Int) : (putW m op n x).length = m.length := by
  unfold putW put4 put2 put1
  (repeat' split) <;> simp

set_option maxRecDepth 100000 in
set_option maxHeartbeats 1000000 in
theorem store_any (A : Option Addr) (cap : Nat) (m : List Int) (op p x : Int) (w : World) (h0 : 0 ≤ p) (h1 : p ≤ 4294967295) (hl : m.length ≤ 140737488351232) (hx0 : 0 ≤ x) (hx1 : x ≤ 4294967295)
    (hA : IntsAt w w.heap.size .u8 A m) (hnil : A = none → m = []) :
    Calls Try.prog 32 #[.slice A m.length cap, .int .i64 op, .int .u32 p, .int .u32 x] w fun e w' => ∃ v, e = .returned (.tuple #[v, .bool (storeOk m.length op p)]) ∧ Below w.heap.size w w' ∧
      (storeOk m.length op p = true → w'.ownsRow w.heap.size 5 1 v m.length ((putW m op p.toNat x).map (.int .u8))) ∧ (storeOk m.length op p = false → v = .slice none 0 0) := by
  have hcl := fun W => cloneBytes_any A m.length cap (m.map (.int .u8)) W (by omega) (by simp) (ints_oneCell _ _)
  have hc := hA.cells
  have hn : A = none → m.length = 0 := fun h => by rw [hnil h]; rfl
  have hl' : m.length ≤ 9223372036854775807 := by omega
  rcases hok : storeOk m.length op p with _ | _
  · go_enter Try.func32, Try.ntmps32
    go_wp2_with (first
      | (go_at_call 57; refine (hcl _ hc hn).mono ?_; rintro e w1 ⟨v1, rfl, hown1, hb1⟩; obtain ⟨A1, cap1, rfl⟩ := own_value hown1)
      | (go_at_call 58; refine (put_not A1 m.length cap1 op p x _ h0 h1 hl' hok).mono ?_; rintro e w2 ⟨rfl, rfl⟩))
    go_ret2
    exact ⟨_, rfl, hb1, (fun h => by cases h), fun _ => rfl⟩
  · go_enter Try.func32, Try.ntmps32
    go_wp2_with (first
      | (go_at_call 57; refine (hcl _ hc hn).mono ?_; rintro e w1 ⟨v1, rfl, hown1, hb1⟩; obtain ⟨A1, cap1, rfl⟩ := own_value hown1)
      | (go_at_call 58; refine (put_ok A1 w.heap.size cap1 m op p x _ h0 h1 hl' hx0 hx1 hown1 hok).mono ?_; rintro e w2 ⟨rfl, hown2, hg2⟩))
    go_ret2
    refine ⟨_, rfl, hb1.grown hg2 hb1.size (fun k hk => ?_), fun _ => hown2, (fun h => by cases h)⟩
    exact (hown1.lt k hk).1
end Go.Proofs.Ytapgojgcmlnbgaa
