/- The walks of what a load sees. -/
import Derived.Test.YtapgojgcmlnbgaaOrder
import Derived.Test.YtapgojgcmlnbgaaMem
import Derived.Test.YtapgojgcmlnbgaaOrderSeePlain
namespace Go.Proofs.Ytapgojgcmlnbgaa
open Go.RowKit

def accOf : Option Acc → Acc
  | some a => a
  | none => ⟨0, false, false, 0, 0, 0, false⟩

set_option maxRecDepth 100000 in
set_option maxHeartbeats 2000000 in
theorem byteAt_any (A : Option Addr) (cap : Nat) (l : List Acc) (A' : Option Addr) (cap' : Nat) (m : List Int) (seq p : Int) (w : World) (hl : l.length ≤ 9223372036854775807) (_hl' : m.length ≤ 9223372036854775807)
    (hwf : ∀ a ∈ l, a.Wf) (hA : AccsAt w w.heap.size A l) (hA' : IntsAt w w.heap.size .u8 A' m) (h0 : 0 ≤ p) (h1 : p ≤ 4294967295) (hp : p < m.length) :
    Calls Try.prog 45 #[.slice A l.length cap, .slice A' m.length cap', .int .i64 seq, .int .u32 p] w
      fun e w' => e = .returned (.int .u8 (byteP l m seq p)) ∧ Below w.heap.size w w' := by
  obtain ⟨bA, oA, rfl, hbA, hcA⟩ := hA'.at_ (n := p.toNat) (by omega)
  have cP := hcA p.toNat (by omega)
  clear hcA hA'
  generalize hx : byteP l m seq p = x
  have HB : Hid (byteOf m p (l.foldl (bestStep seq p) none) = x) := Lib.hid hx
  clear hx
  go_enter Try.func45, Try.ntmps45
  go_wp2_with fail
  refine wp_gen ?_
  intro W1 hW1
  have hbk : Blk W1 w.heap.size 72 (Acc.cells (accOf none)) := by rw [hW1]; exact Blk.new _ _ _
  have hb1 : Below w.heap.size w W1 := by rw [hW1]; exact (Below.refl _ _).alloc (Nat.le_refl _) _
  clear hW1
  go_loopw [10, 16] (fun v10 v16 wr => ∃ (k : Nat) (best : Option Acc), v10 = .bool best.isSome ∧ v16 = .int .i64 k ∧ k ≤ l.length ∧ Blk wr w.heap.size 72 (Acc.cells (accOf best)) ∧ Below w.heap.size w wr ∧ Hid (byteOf m p ((l.drop k).foldl (bestStep seq p) best) = x) ∧ (∀ c, best = some c → hasB c p = true ∧ c.Wf)) (fun _ v _ => l.length - (intOf v).toNat)
  case atStart => exact ⟨0, none, rfl, rfl, by omega, hbk, hb1, HB, fun c h => by cases h⟩
  case round =>
    obtain ⟨k, best, rfl, rfl, hk, hbk, hbr, HR, hbest⟩ := hrel
    have hgb := hbk.lt
    have hcg := hbk.cell
    have hfg := hbk.frozen
    by_cases hlt : k < l.length
    · obtain ⟨b, o, a, rfl, hbB, ha, hd, hmem, hcs⟩ := (hA.below hbr).at_ hlt
      have hwa := hwf a hmem
      have HR' : Hid (byteOf m p ((l.drop (k + 1)).foldl (bestStep seq p) (bestStep seq p best a)) = x) := by
        have h := HR.out
        rw [hd, List.foldl_cons] at h
        exact h
      clear hd ha HR
      obtain ⟨d0, d1, d2, d3, d4, d5, d6⟩ := hcs
      by_cases hgo : (a.store && a.known && decide (a.seq < seq) && hasB a p && notNewer a best) = true
      · have HR2 : Hid (byteOf m p ((l.drop (k + 1)).foldl (bestStep seq p) (some a)) = x) := by
          have h := HR'.out
          rw [show bestStep seq p best a = some a by unfold bestStep; rw [if_pos hgo]] at h
          exact h
        clear HR'
        simp only [Bool.and_eq_true] at hgo
        obtain ⟨⟨⟨⟨g1, g2⟩, g3⟩, g4⟩, g5⟩ := hgo
        have w0 := hwa.at0
        have w1' := hwa.at1
        obtain ⟨aq, ast, akn, aat, amn, adt, adn⟩ := a
        dsimp only at d0 d1 d2 d3 d4 d5 d6 g1 g2 g3 w0 w1'
        subst g1 g2
        rcases best with _ | c
        · clear g5 hcg hfg
          go_wp2_with (go_at_call 65; ((with_reducible refine (has_any ⟨aq, true, true, aat, amn, adt, adn⟩ p _ w0 w1' h0 (by omega)).mono ?_); rintro e w2 ⟨rfl, hb2⟩; rw [g4]; have hn2 := ((Blk.new wr _ _).ext hb2).cell; have hg2 := ((hbk.alloc _).ext hb2).frozen; have hgc2 := ((hbk.alloc _).ext hb2).cell; simp only [Acc.cells, accOf] at hgc2))
          go_roundw
          case rel => exact ⟨k + 1, some ⟨aq, true, true, aat, amn, adt, adn⟩, rfl, by go_num, by omega, (((((((((hbk.alloc _).ext hb2).set 0 _).set 1 _).set 2 _).set 3 _).set 4 _).set 5 _).set 6 _), ((((((((hbr.alloc hbr.size _).trans (hb2.mono (by simp; omega))).setCell (Nat.le_refl _) _).setCell (Nat.le_refl _) _).setCell (Nat.le_refl _) _).setCell (Nat.le_refl _) _).setCell (Nat.le_refl _) _).setCell (Nat.le_refl _) _).setCell (Nat.le_refl _) _, HR2, fun c hc => by injection hc with hc; subst hc; exact ⟨g4, hwa⟩⟩
          case measure => simp [intOf]; omega
        · obtain ⟨cq, cst, ckn, cat, cmn, cdt, cdn⟩ := c
          have g5' : decide (cq ≤ aq) = true := g5
          clear g5 hcg hfg
          go_wp2_with (go_at_call 65; ((with_reducible refine (has_any ⟨aq, true, true, aat, amn, adt, adn⟩ p _ w0 w1' h0 (by omega)).mono ?_); rintro e w2 ⟨rfl, hb2⟩; rw [g4]; have hn2 := ((Blk.new wr _ _).ext hb2).cell; have hg2 := ((hbk.alloc _).ext hb2).frozen; have hgc2 := ((hbk.alloc _).ext hb2).cell; simp only [Acc.cells, accOf] at hgc2))
          go_roundw
          case rel => exact ⟨k + 1, some ⟨aq, true, true, aat, amn, adt, adn⟩, rfl, by go_num, by omega, (((((((((hbk.alloc _).ext hb2).set 0 _).set 1 _).set 2 _).set 3 _).set 4 _).set 5 _).set 6 _), ((((((((hbr.alloc hbr.size _).trans (hb2.mono (by simp; omega))).setCell (Nat.le_refl _) _).setCell (Nat.le_refl _) _).setCell (Nat.le_refl _) _).setCell (Nat.le_refl _) _).setCell (Nat.le_refl _) _).setCell (Nat.le_refl _) _).setCell (Nat.le_refl _) _, HR2, fun c hc => by injection hc with hc; subst hc; exact ⟨g4, hwa⟩⟩
          case measure => simp [intOf]; omega
      · have HR2 : Hid (byteOf m p ((l.drop (k + 1)).foldl (bestStep seq p) best) = x) := by
          have h := HR'.out
          rw [show bestStep seq p best a = best by unfold bestStep; rw [if_neg hgo]] at h
          exact h
        clear HR'
        have w0 := hwa.at0
        have w1' := hwa.at1
        clear hwa hcg hfg
        obtain ⟨aq, ast, akn, aat, amn, adt, adn⟩ := a
        dsimp only at d0 d1 d2 d3 d4 d5 d6 hgo w0 w1'
        rcases ast with _ | _
        · clear hgo
          go_wp2_with fail
          go_roundw
          case rel => exact ⟨k + 1, best, rfl, by go_num, by omega, hbk.alloc _, hbr.alloc hbr.size _, HR2, hbest⟩
          case measure => simp [intOf]; omega
        rcases akn with _ | _
        · clear hgo
          go_wp2_with fail
          go_roundw
          case rel => exact ⟨k + 1, best, rfl, by go_num, by omega, hbk.alloc _, hbr.alloc hbr.size _, HR2, hbest⟩
          case measure => simp [intOf]; omega
        rcases g3 : decide (aq < seq) with _ | _
        · clear hgo
          go_wp2_with fail
          go_roundw
          case rel => exact ⟨k + 1, best, rfl, by go_num, by omega, hbk.alloc _, hbr.alloc hbr.size _, HR2, hbest⟩
          case measure => simp [intOf]; omega
        rcases g4 : hasB ⟨aq, true, true, aat, amn, adt, adn⟩ p with _ | _
        · clear hgo
          go_wp2_with (go_at_call 65; ((with_reducible refine (has_any ⟨aq, true, true, aat, amn, adt, adn⟩ p _ w0 w1' h0 (by omega)).mono ?_); rintro e w2 ⟨rfl, hb2⟩; rw [g4]))
          go_roundw
          case rel => exact ⟨k + 1, best, rfl, by go_num, by omega, (hbk.alloc _).ext hb2, (hbr.alloc hbr.size _).trans (hb2.mono (by simp; omega)), HR2, hbest⟩
          case measure => simp [intOf]; omega
        rcases best with _ | c
        · simp [g3, g4, notNewer] at hgo
        · obtain ⟨cq, cst, ckn, cat, cmn, cdt, cdn⟩ := c
          have g5' : decide (cq ≤ aq) = false := by
            simp only [g3, g4, notNewer, Bool.and_true, Bool.true_and, Bool.not_eq_true] at hgo
            exact hgo
          clear hgo
          go_wp2_with (go_at_call 65; ((with_reducible refine (has_any ⟨aq, true, true, aat, amn, adt, adn⟩ p _ w0 w1' h0 (by omega)).mono ?_); rintro e w2 ⟨rfl, hb2⟩; rw [g4]; have hn2 := ((Blk.new wr _ _).ext hb2).cell; have hg2 := ((hbk.alloc _).ext hb2).frozen; have hgc2 := ((hbk.alloc _).ext hb2).cell; simp only [Acc.cells, accOf] at hgc2))
          go_roundw
          case rel => exact ⟨k + 1, some ⟨cq, cst, ckn, cat, cmn, cdt, cdn⟩, rfl, by go_num, by omega, (hbk.alloc _).ext hb2, (hbr.alloc hbr.size _).trans (hb2.mono (by simp; omega)), HR2, hbest⟩
          case measure => simp [intOf]; omega
    · obtain rfl : k = l.length := by omega
      have HR' : Hid (byteOf m p best = x) := by
        have h := HR.out
        rw [List.drop_length] at h
        exact h
      clear HR
      rcases best with _ | c
      · have cP' := (hbr.cell (p := ⟨bA, oA + p.toNat, none⟩) hbA).trans cP
        clear cP
        have hy := HR'.out
        rw [show byteOf m p none = m.getD p.toNat 0 from rfl] at hy
        rw [hy] at cP'
        clear hy HR'
        go_wp2_with fail
        go_ret
        exact ⟨rfl, hbr⟩
      · obtain ⟨hc1, hc2⟩ := hbest c rfl
        have d0 := hc2.data0
        have d1 := hc2.data1
        have e0 := hc2.at0
        have e1 := hc2.at1
        have l2 := manyI_hi c.many
        unfold hasB at hc1
        simp only [Bool.and_eq_true, decide_eq_true_eq] at hc1
        obtain ⟨⟨hc3, hc4⟩, _⟩ := hc1
        obtain ⟨cq, cst, ckn, cat, cmn, cdt, cdn⟩ := c
        simp only [Acc.cells, accOf] at hcg
        dsimp only at d0 d1 e0 e1 l2 hc3 hc4
        go_wp2_with fail
        go_ret
        refine ⟨?_, hbr⟩
        rw [← HR'.out]
        refine ret_int ?_
        show _ = cdt / ((2 ^ (8 * (p - cat).toNat) : Nat) : Int) % 256
        rw [show (8 * (p - cat)).toNat = 8 * (p - cat).toNat by omega, Int.natCast_pow]
        rfl
end Go.Proofs.Ytapgojgcmlnbgaa
