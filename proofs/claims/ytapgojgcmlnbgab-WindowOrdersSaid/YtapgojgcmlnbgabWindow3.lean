/- humpyardref8.Push. -/
import Derived.Test.YtapgojgcmlnbgabWindow2
namespace Go.Proofs.Ytapgojgcmlnbgab
open Go.RowKit

/-- What both Push hand back. -/
def PushPost (w : World) (l : List Slt) (room seq : Int) (e : Ending) (w' : World) : Prop :=
  Below w.heap.size w w' ∧ match pushP l room seq with
      | none => e = .returned (.tuple #[.slice none 0 0, .bool false])
      | some k => ∃ v, e = .returned (.tuple #[v, .bool true]) ∧ SlotsPost w k v w'
theorem any_drop {α : Type} (p : α → Bool) (l : List α) {k : Nat} (hk : k < l.length) : (l.drop k).any p = (p (l[k]'hk) || (l.drop (k + 1)).any p) := by
  rw [List.drop_eq_getElem_cons hk, List.any_cons]
set_option maxRecDepth 100000 in
set_option maxHeartbeats 2000000 in
theorem rpush_any (A : Option Addr) (cap : Nat) (l : List Slt) (room seq : Int) (w : World) (hl : l.length * 16 ≤ 140737488351232) (hA : SlotsAt w w.heap.size A l) (hnil : A = none → l = [] ∧ cap = 0) :
    Calls Try.prog 16 #[.slice A l.length cap, .int .i64 room, .int .i64 seq] w (PushPost w l room seq) := by
  obtain ⟨N, hN⟩ : ∃ N, N = l.length := ⟨_, rfl⟩
  have hP : PushPost w l room seq = PushPost w l room seq := rfl
  obtain ⟨PP, hPP⟩ : ∃ PP, PP = PushPost w l room seq := ⟨_, rfl⟩
  rw [← hPP]
  have HPP := Lib.hid hPP
  rw [← hN] at hl ⊢
  have HA := Lib.hid hA
  have HN := Lib.hid hN
  have Hnil := Lib.hid hnil
  obtain ⟨X, hX⟩ : ∃ X, (l.any fun s => decide (seq ≤ s.seq)) = X := ⟨_, rfl⟩
  have HX0 := Lib.hid hX
  have HX : Hid (((l.drop 0).any fun s => decide (seq ≤ s.seq)) = X) := Lib.hid (by simpa using hX)
  clear hA hN hX hnil hP hPP
  obtain ⟨i0, hi, hz0, hz1, hz2⟩ := info_parts cloneSlots_any_info
  go_enter Try.func16, Try.ntmps16
  go_upto_region 2 with (fail)
  go_loopw [8] (fun v wr => ∃ k : Nat, v = .int .i64 k ∧ k ≤ N ∧ wr = w ∧ Hid (((l.drop k).any fun s => decide (seq ≤ s.seq)) = X)) (fun v _ => N + 1 - (intOf v).toNat)
  case atStart => exact ⟨0, rfl, Nat.zero_le _, rfl, HX⟩
  case round =>
    clear HX
    obtain ⟨k, rfl, hk, rfl, Hk⟩ := hrel
    by_cases hlt : k < N
    · have hk' : k < l.length := by rw [← HN.out]; exact hlt
      obtain ⟨b, o, rfl, hgB, c0, c1⟩ := HA.out.at_ hk'
      have hd := any_drop (fun s : Slt => decide (seq ≤ s.seq)) l hk'
      rw [Hk.out] at hd
      generalize (l[k]'hk').seq = sq at *
      by_cases hs : seq ≤ sq
      · have t1 : decide (seq ≤ sq) = true := decide_eq_true hs
        have Hd : Hid (X = true) := Lib.hid (by rw [hd, t1]; rfl)
        clear hd Hk hs c1
        go_wp2
        try go_ret2
        rw [HPP.out]
        refine ⟨Below.refl _ _, ?_⟩
        have : pushP l room seq = none := by unfold pushP; rw [HX0.out, Hd.out, if_pos (Or.inr rfl)]
        rw [this]
        rfl
      · have t1 : decide (seq ≤ sq) = false := decide_eq_false hs
        have Hd : Hid (((l.drop (k + 1)).any fun s => decide (seq ≤ s.seq)) = X) := Lib.hid (by rw [hd, t1]; rfl)
        clear hd Hk hs c1
        go_wp2
        go_roundw
        case rel => exact ⟨k + 1, by go_num, by omega, by first | rfl | trivial, Hd⟩
        case measure => simp [intOf]; omega
    · obtain rfl : k = N := by omega
      have e1 : decide ((k : Int) < k) = false := by simp
      have Hd : Hid (X = false) := Lib.hid (by rw [← Hk.out, HN.out, List.drop_length]; rfl)
      clear Hk
      by_cases hr : room ≤ (k : Int)
      · have t1 : decide (room ≤ (k : Int)) = true := decide_eq_true hr
        have HR := Lib.hid hr
        clear hr
        go_wp2
        try go_ret2
        rw [HPP.out]
        refine ⟨Below.refl _ _, ?_⟩
        have : pushP l room seq = none := by unfold pushP; rw [if_pos (Or.inl (by rw [← HN.out]; exact HR.out))]
        rw [this]
        rfl
      · have t1 : decide (room ≤ (k : Int)) = false := decide_eq_false hr
        have HR := Lib.hid hr
        have hown0 := World.ownsRow_lit (base := wr.heap.size) (e := 34) (size := 2) wr #[] 0 (Nat.le_refl _) (by unfold maxLen; omega) rfl
        have hcl : Hid ((slotsV l).length = k * 2) := Lib.hid (by rw [slotsV_len, HN.out])
        have Hc := Lib.hid HA.out.cells
        clear hr
        go_wp2_with (first
          | (at_builtin; refine wpList_append_any rfl (.tmp 27) (.tmp 28) 22 rfl wr.heap.size 34 i0 _ 2 16 Try.underlying22 hi hz0 hz1 hz2 rfl (by decide) _ 0 [] rfl hown0 A k cap (slotsV l) rfl hcl.out (fun hn => by obtain ⟨e1, e2⟩ := Hnil.out hn; exact ⟨by rw [HN.out, e1]; rfl, e2⟩) (fun ad hd j u hu => (World.cell?_alloc_lt _ _ _ (World.block_lt_of_cell? _ _ (Hc.out ad hd j u hu))).trans (Hc.out ad hd j u hu)) (slotsV_oneCell _) (by unfold maxLen; omega) (by omega) (by simp) ?_; intro v5 w5 hown5 hg5; have hb5 : Below wr.heap.size wr w5 := ((Below.refl _ _).alloc (Nat.le_refl _) _).grown hg5 (by simp) (fun k hk => by cases hk; exact Nat.le_refl _))
          | (at_builtin; refine wpList_append_any rfl (.tmp 30) (.tmp 33) 22 rfl wr.heap.size 34 i0 _ 2 16 Try.underlying22 hi hz0 hz1 hz2 rfl (by decide) v5 (0 + k) ([] ++ slotsV l) rfl (hown5.alloc _) (some ⟨w5.heap.size, 0, none⟩) 1 1 (slotsV [⟨seq, false⟩]) rfl rfl (fun h => by cases h) (lit_slot w5 seq _) (slotsV_oneCell _) (by unfold maxLen; omega) (by omega) (by have := hb5.size; simp; omega) ?_; intro v6 w6 hown6 hg6))
        try go_ret2
        rw [HPP.out]
        have hb9 : Below wr.heap.size wr w6 := (hb5.alloc hb5.size _).grown hg6 (by have := hb5.size; simp; omega) (fun k hk => (hown5.lt k hk).1)
        refine ⟨hb9, ?_⟩
        have : pushP l room seq = some (l ++ [⟨seq, false⟩]) := by
          unfold pushP
          rw [HX0.out, Hd.out, if_neg (by rw [← HN.out]; have := HR.out; simp; omega)]
        rw [this]
        refine ⟨v6, rfl, ?_⟩
        unfold SlotsPost
        rw [slotsV_append, List.length_append, ← HN.out]
        simpa using hown6
end Go.Proofs.Ytapgojgcmlnbgab
