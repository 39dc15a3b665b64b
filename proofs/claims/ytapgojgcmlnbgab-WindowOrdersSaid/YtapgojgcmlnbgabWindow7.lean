/- window.Pop. -/
import Derived.Test.YtapgojgcmlnbgabWindow6
namespace Go.Proofs.Ytapgojgcmlnbgab
open Go.RowKit

def sliceLen' : Value → Nat
  | .slice _ n _ => n
  | _ => 0
/-- What both Pop hand back. -/
def PopPost (w : World) (l : List Slt) (most : Int) (e : Ending) (w' : World) : Prop :=
  Below w.heap.size w w' ∧ ∃ v u, e = .returned (.tuple #[v, u]) ∧ SlotsPost w (l.drop (popK l most)) v w' ∧ w'.ownsRow w.heap.size 3 1 u (popK l most) (((l.take (popK l most)).map (·.seq)).map (Value.int .i64))
theorem ints_info8 : (Try.prog.info? 3).map (fun i => (i.zero, i.size, i.bytes)) = some (some (.int .i64 0), 1, 8) := by kernel_rfl
theorem popK_drop (l : List Slt) {k : Nat} (hk : k < l.length) (z : Int) : popK (l.drop k) z = if 0 < z ∧ (l[k]'hk).done = true then 1 + popK (l.drop (k + 1)) (z - 1) else 0 := by
  rw [List.drop_eq_getElem_cons hk]
  rfl
theorem SlotsAt.tail {w : World} {B b o : Nat} {s : Slt} {l : List Slt} (h : SlotsAt w B (some ⟨b, o, none⟩) (s :: l)) : SlotsAt w B (some ⟨b, o + 2, none⟩) l := fun _ => by
  obtain ⟨b', o', he, hb, hc⟩ := h (by simp)
  injection he with he
  injection he with h1 h2
  subst h1 h2
  refine ⟨b, o + 2, rfl, hb, fun j u hj => ?_⟩
  have e : slotsV (s :: l) = .int .i64 s.seq :: .bool s.done :: slotsV l := rfl
  have := hc (j + 1 + 1) u (by rw [e]; simpa using hj)
  rw [show o + 2 + j = o + (j + 1 + 1) by omega]
  exact this
theorem _root_.Go.World.ownsRow.keptBelow {w w' : World} {base : Nat} {e : TypeId} {size : Nat} {v : Value} {n : Nat} {xs : List Value} (h : w.ownsRow base e size v n xs) (hb : Below w.heap.size w w') (_hk : ∀ j, v.ownBlock = some j → j < w.heap.size) : w'.ownsRow base e size v n xs :=
  ⟨h.1, h.2.imp id fun ⟨g, cap, cur, hv, l, hh, r⟩ => ⟨g, cap, cur, hv, l, by
    have hg : g < w.heap.size := (Array.getElem?_eq_some_iff.1 hh).1
    rw [← hh]
    exact hb.block g hg, r⟩⟩
set_option maxRecDepth 100000 in
set_option maxHeartbeats 2000000 in
theorem pop_any (A : Option Addr) (cap : Nat) (l : List Slt) (most : Int) (w : World) (hl : l.length * 16 ≤ 140737488351232) (hcap : l.length ≤ cap) (hcm : cap ≤ 9223372036854775807) (hA : SlotsAt w w.heap.size A l) (hnil : A = none → l = [] ∧ cap = 0) :
    Calls Try.prog 20 #[.slice A l.length cap, .int .i64 most] w (PopPost w l most) := by
  obtain ⟨N, hN⟩ : ∃ N, N = l.length := ⟨_, rfl⟩
  have HN := Lib.hid hN
  rw [← hN] at hl hcap ⊢
  have H0 : Hid (SlotsAt w w.heap.size A (l.drop 0) ∧ (A = none → N - 0 = 0 ∧ cap = 0) ∧ popK l most = 0 + popK (l.drop 0) (most - (0 : Nat))) := Lib.hid ⟨by simpa using hA, fun e => ⟨by rw [hN, (hnil e).1]; rfl, (hnil e).2⟩, by simp⟩
  clear hA hnil hN
  obtain ⟨i0, hi, hz0, hz1, hz2⟩ := info_parts ints_info8
  go_enter Try.func20, Try.ntmps20
  go_upto_region 2 with (fail)
  go_loopw [0, 6] (fun v0 v6 wr => ∃ (k : Nat) (A' : Option Addr) (c' : Nat) (AI : Option Addr) (cI : Nat), v0 = .slice A' (N - k) c' ∧ v6 = .slice AI k cI ∧ k ≤ N ∧ N - k ≤ c' ∧ c' ≤ 9223372036854775807 ∧ Below w.heap.size w wr ∧ wr.ownsRow w.heap.size 3 1 (.slice AI k cI) k (((l.take k).map (·.seq)).map (Value.int .i64)) ∧ Hid (SlotsAt w w.heap.size A' (l.drop k) ∧ (A' = none → N - k = 0 ∧ c' = 0) ∧ popK l most = k + popK (l.drop k) (most - k))) (fun v0 _ _ => N + 1 + sliceLen' v0)
  case atStart => exact ⟨0, A, cap, none, 0, rfl, rfl, Nat.zero_le _, hcap, hcm, Below.refl _ _, by simpa using World.ownsRow_nil _ _ _ _, H0⟩
  case round =>
    clear H0
    obtain ⟨k, A', c', AI, cI, rfl, rfl, hk, hkc, hcm', hb, hI, Hrel⟩ := hrel
    obtain ⟨hS, hn, hp⟩ := Hrel.out
    clear Hrel
    by_cases hlt : k < N ∧ (k : Int) < most
    · have hk' : k < l.length := by rw [← HN.out]; exact hlt.1
      have hk0 : 0 < (l.drop k).length := by rw [List.length_drop]; omega
      obtain ⟨b, o, hAe, hgB, c0, c1⟩ := hS.at_ hk0
      have hq := popK_drop l hk' (most - k)
      have hge : (l.drop k)[0]'hk0 = l[k]'hk' := by simp
      rw [hge] at c0 c1
      have htk : (l.take (k + 1)).map (·.seq) = (l.take k).map (·.seq) ++ [(l[k]'hk').seq] := by rw [List.take_succ_eq_append_getElem hk', List.map_append]; rfl
      generalize l[k]'hk' = s at *
      obtain ⟨sq, dn⟩ := s
      dsimp only at c0 c1 hq htk
      have e1 : decide ((k : Int) < most) = true := decide_eq_true hlt.2
      have e2 : decide (0 < N - k) = true := decide_eq_true (by omega)
      have z1 : b < wr.heap.size := Nat.lt_of_lt_of_le hgB hb.size
      have d0 : wr.cell? ⟨b, o, none⟩ = some (.int .i64 sq) := (hb.cell (p := ⟨b, o, none⟩) hgB).trans (by simpa using c0)
      have d1 : wr.cell? ⟨b, o + 1, none⟩ = some (.bool dn) := (hb.cell (p := ⟨b, o + 1, none⟩) hgB).trans (by simpa using c1)
      clear c0 c1 hge
      subst hAe
      cases dn with
      | true =>
        have HQ : Hid (popK l most = (k + 1) + popK (l.drop (k + 1)) (most - ((k + 1 : Nat) : Int))) := Lib.hid (by
          rw [hp, hq, if_pos ⟨by omega, rfl⟩, show most - (k : Int) - 1 = most - ((k + 1 : Nat) : Int) by omega]
          omega)
        have HS := Lib.hid hS
        have HT := Lib.hid htk
        have hk1 : k < N := hlt.1
        clear hp hq hS htk hn hlt
        go_upto_region 4 with (at_builtin; refine wpList_append_any rfl (.tmp 22) (.tmp 27) 27 rfl w.heap.size 3 i0 _ 1 8 Try.underlying27 hi hz0 hz1 hz2 rfl (by decide) (.slice AI k cI) k _ rfl (hI.alloc _) (some ⟨wr.heap.size, 0, none⟩) 1 1 [.int .i64 sq] rfl rfl (fun h => by cases h) (lit_one wr _ _) (by simp; rfl) (by unfold maxLen; omega) (by omega) (by have := hb.size; simp; omega) ?_; intro v7 w7 hown7 hg7)
        try go_simp
        have b1 : 1 ≤ N - k := by omega
        have b2 : decide ((N - k : Nat) < 1) = false := decide_eq_false (by omega)
        obtain ⟨A7, c7, rfl⟩ := own_value hown7
        have hb7 : Below w.heap.size w w7 := (hb.alloc hb.size _).grown hg7 (by have := hb.size; simp; omega) (fun j hj => (hI.lt j hj).1)
        have hown8 : w7.ownsRow w.heap.size 3 1 (.slice A7 (k + 1) c7) (k + 1) (((l.take (k + 1)).map (·.seq)).map (Value.int .i64)) := by
          rw [HT.out, List.map_append]
          exact hown7
        have hS2 : SlotsAt w w.heap.size (if c' = 1 then some ⟨b, o, none⟩ else some ⟨b, o + 2, none⟩) (l.drop (k + 1)) := by
          by_cases h1 : c' = 1
          · have : l.drop (k + 1) = [] := List.drop_eq_nil_of_le (by rw [← HN.out]; omega)
            rw [this]
            exact fun h => absurd rfl h
          · rw [if_neg h1]
            have := HS.out
            rw [List.drop_eq_getElem_cons hk'] at this
            exact this.tail
        have HF := Lib.hid (And.intro hS2 (And.intro (show (if c' = 1 then some (⟨b, o, none⟩ : Addr) else some ⟨b, o + 2, none⟩) = none → N - (k + 1) = 0 ∧ c' - 1 = 0 from fun e => by split at e <;> cases e) HQ.out))
        clear hS2 HS hg7 hown7 hI
        have hNk : N - (k + 1) = N - k - 1 := by omega
        go_wp2
        go_roundw
        case rel => exact ⟨k + 1, _, c' - 1, A7, c7, by rw [hNk], rfl, by omega, by omega, by omega, hb7, hown8, HF.out.imp id id |> Lib.hid⟩
        case measure => simp [sliceLen']; omega
      | false =>
        have hp0 : popK l most = k := by rw [hp, hq, if_neg (by simp)]; omega
        have b1 : 0 < N - k := by have := hlt.1; omega
        clear hq htk hlt
        have HP := Lib.hid hp0
        have hSl : (slotsV (l.drop k)).length = (N - k) * 2 := by rw [slotsV_len, List.length_drop, ← HN.out]
        have CL := Lib.hid (fun W (hW : SlotsAt W W.heap.size (some ⟨b, o, none⟩) (l.drop k)) => cloneSlots_any (some ⟨b, o, none⟩) (N - k) c' (slotsV (l.drop k)) W (by omega) hSl (slotsV_oneCell _) hW.cells (fun e => (hn e).1))
        have hSr := (hS.below hb).mono hb.size
        clear hp0 hp hS hn hSl
        go_wp2_with (go_at_call 45; (with_reducible refine (CL.out _ hSr).mono ?_); rintro e w5 ⟨v5, rfl, hown5, hb5⟩)
        go_ret2
        refine ⟨hb.trans (hb5.mono hb.size), v5, .slice AI k cI, rfl, ?_, ?_⟩
        · unfold SlotsPost
          rw [HP.out, List.length_drop, ← HN.out]
          exact own_low hown5 hb.size
        · rw [HP.out]
          have hk2 : ∀ j, (Value.slice AI k cI).ownBlock = some j → j < wr.heap.size := fun j hj => (hI.lt j hj).2
          exact hI.keptBelow hb5 hk2
    · by_cases hm : (k : Int) < most
      · have hkN : k = N := by omega
        have hp0 : popK l most = k := by
          rw [hp, List.drop_eq_nil_of_le (by rw [← HN.out]; omega)]
          rfl
        have e1 : decide ((k : Int) < most) = true := decide_eq_true hm
        have e2 : decide (0 < N - k) = false := decide_eq_false (by omega)
        clear hlt hm hkN
        have HP := Lib.hid hp0
        have hSl : (slotsV (l.drop k)).length = (N - k) * 2 := by rw [slotsV_len, List.length_drop, ← HN.out]
        have CL := Lib.hid (fun W (hW : SlotsAt W W.heap.size A' (l.drop k)) => cloneSlots_any A' (N - k) c' (slotsV (l.drop k)) W (by omega) hSl (slotsV_oneCell _) hW.cells (fun e => (hn e).1))
        have hSr := (hS.below hb).mono hb.size
        clear hp0 hp hS hn hSl
        go_wp2_with (go_at_call 45; (with_reducible refine (CL.out _ hSr).mono ?_); rintro e w5 ⟨v5, rfl, hown5, hb5⟩)
        go_ret2
        refine ⟨hb.trans (hb5.mono hb.size), v5, .slice AI k cI, rfl, ?_, ?_⟩
        · unfold SlotsPost
          rw [HP.out, List.length_drop, ← HN.out]
          exact own_low hown5 hb.size
        · rw [HP.out]
          have hk2 : ∀ j, (Value.slice AI k cI).ownBlock = some j → j < wr.heap.size := fun j hj => (hI.lt j hj).2
          exact hI.keptBelow hb5 hk2
      · have hp0 : popK l most = k := by rw [hp, popK_neg _ (by omega)]; omega
        have e1 : decide ((k : Int) < most) = false := decide_eq_false hm
        clear hlt hm
        have HP := Lib.hid hp0
        have hSl : (slotsV (l.drop k)).length = (N - k) * 2 := by rw [slotsV_len, List.length_drop, ← HN.out]
        have CL := Lib.hid (fun W (hW : SlotsAt W W.heap.size A' (l.drop k)) => cloneSlots_any A' (N - k) c' (slotsV (l.drop k)) W (by omega) hSl (slotsV_oneCell _) hW.cells (fun e => (hn e).1))
        have hSr := (hS.below hb).mono hb.size
        clear hp0 hp hS hn hSl
        go_wp2_with (go_at_call 45; (with_reducible refine (CL.out _ hSr).mono ?_); rintro e w5 ⟨v5, rfl, hown5, hb5⟩)
        go_ret2
        refine ⟨hb.trans (hb5.mono hb.size), v5, .slice AI k cI, rfl, ?_, ?_⟩
        · unfold SlotsPost
          rw [HP.out, List.length_drop, ← HN.out]
          exact own_low hown5 hb.size
        · rw [HP.out]
          have hk2 : ∀ j, (Value.slice AI k cI).ownBlock = some j → j < wr.heap.size := fun j hj => (hI.lt j hj).2
          exact hI.keptBelow hb5 hk2
end Go.Proofs.Ytapgojgcmlnbgab
