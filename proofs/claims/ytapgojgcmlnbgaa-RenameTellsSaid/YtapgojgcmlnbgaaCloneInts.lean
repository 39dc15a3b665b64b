/- slices.Clone of ints. -/
import Derived.Test.YtapgojgcmlnbgaaData
import Derived.Test.YtapgojgcmlnbgaaProg
import Derived.WalkLawsBesides
import Derived.WalkSpells
import Derived.Lib.Hide
namespace Go.Proofs.Ytapgojgcmlnbgaa
open Go.RowKit
theorem cloneInts_any_info : (Try.prog.info? 3).map (fun i => (i.zero, i.size, i.bytes)) = some (some (.int .i64 0), 1, 8) := by kernel_rfl
set_option maxRecDepth 100000 in
set_option maxHeartbeats 400000 in
theorem cloneInts_any (A : Option Addr) (n cap : Nat) (cs : List Value) (w : World) (hl : n * 8 ≤ 140737488355328) (hlen : cs.length = n * 1) (h1 : ∀ u ∈ cs, u.oneCell' = true)
    (hc : ∀ ad, A = some ad → ∀ j u, cs[j]? = some u → w.cell? (ad.add j) = some u) (hnil : A = none → n = 0) :
    Calls Try.prog 53 #[.slice A n cap] w fun e w' => ∃ v, e = .returned v ∧ w'.ownsRow w.heap.size 3 1 v n cs ∧ Below w.heap.size w w' := by
  rcases A with _ | ad
  · obtain rfl := hnil rfl
    obtain rfl : cs = [] := List.eq_nil_of_length_eq_zero (by simpa using hlen)
    have hn := Lib.run_eql_slice_nil (P := Try.prog) w 48 3 none 0 cap 0 0 Try.underlying48
    go_enter Try.func53, Try.ntmps53
    go_wp2
    go_ret
    exact ⟨_, rfl, World.ownsRow_nil _ _ _ _, Below.refl _ _⟩
  · have hn := Lib.run_eql_slice_nil (P := Try.prog) w 48 3 (some ad) n cap 0 0 Try.underlying48
    obtain ⟨i0, hi, hz0, hz1, hz2⟩ := info_parts cloneInts_any_info
    have Hc := Lib.hid (hc ad rfl)
    clear hc hnil
    have hown0 := World.ownsRow_lit (base := w.heap.size) (e := 3) (size := 1) w #[] 0 (Nat.le_refl _) (by unfold maxLen; omega) rfl
    go_enter Try.func53, Try.ntmps53
    go_wp2_with (at_builtin; refine wpList_append_own _ rfl (.tmp 5) (.tmp 6) 48 rfl w.heap.size 3 i0 _ 1 8 Try.underlying48 hi hz0 hz1 hz2 rfl (by decide) _ 0 [] rfl hown0 ad n cap cs rfl hlen (fun j u hu => (World.cell?_alloc_lt _ _ _ (World.block_lt_of_cell? _ _ (Hc.out j u hu))).trans (Hc.out j u hu)) h1 (by unfold maxLen; omega) (by omega) (by simp) ?_; intro v1 w1 hown1 hg1 hat1)
    go_ret
    refine ⟨v1, rfl, by simpa using hown1, ((Below.refl _ _).alloc (Nat.le_refl _) _).grown hg1 (by simp) (fun k hk => ?_)⟩
    cases hk
    exact Nat.le_refl _
end Go.Proofs.Ytapgojgcmlnbgaa
