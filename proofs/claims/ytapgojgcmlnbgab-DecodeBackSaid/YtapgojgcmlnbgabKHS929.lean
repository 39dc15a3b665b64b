/- The walk of the document's answer for decode: form. -/
import Derived.Test.YtapgojgcmlnbgabKHS928
set_option linter.unusedSimpArgs false
set_option linter.unusedVariables false

namespace Go.Proofs.Ytapgojgcmlnbgab
open Go.RowKit

def letterP (f : Int) : Int := if f = 0 then 85 else if f = 1 then 74 else if f = 2 then 73 else if f = 3 then 72 else if f = 4 then 66 else if f = 5 then 83 else if f = 6 then 82 else 69
theorem pick_blk (n : Int) (l : List (Int × Int)) (len : Nat) (g g2 : Nat) (t t2 : TypeId) (w : World) (hl : l.length = len) (hll : len ≤ 100) (hg : Blk w g t (l.map fun p => Value.int .i64 p.1).toArray) (hg2 : Blk w g2 t2 (l.map fun p => Value.int .i64 p.2).toArray) :
    Calls Try.prog 79 #[.int .i64 n, .slice (some ⟨g, 0, none⟩) len len, .slice (some ⟨g2, 0, none⟩) len len] w fun e w' => e = .returned (.int .i64 (pickP n l)) ∧ w = w' :=
  pick_any n l len g g2 w hl hll (fun k hk => by rw [hg.cell]; simp [List.getD, show k < l.length by omega]) (fun k hk => by rw [hg2.cell]; simp [List.getD, show k < l.length by omega])
set_option maxRecDepth 100000 in
set_option maxHeartbeats 4000000 in
theorem form_any (x : Int) (w : World) (h0 : 0 ≤ x) (h1 : x ≤ 4294967295) :
    Calls Try.prog 55 #[.int .u32 x] w fun e w' => e = .returned (.tuple #[.int .i64 (formR (cutI x 0 6) (cutI x 12 14) (cutI x 25 31) x).1, .int .u8 (letterP (formR (cutI x 0 6) (cutI x 12 14) (cutI x 25 31) x).2)]) ∧ Below w.heap.size w w' := by
  obtain ⟨u0, u1⟩ := cut_hi x 25 31 128 (by decide)
  obtain ⟨m0, m1⟩ := cut_hi x 12 14 8 (by decide)
  generalize hl : cutI x 0 6 = low
  generalize hm : cutI x 12 14 = mid at m0 m1 ⊢
  generalize hu : cutI x 25 31 = up at u0 u1 ⊢
  have Hl := Lib.hid hl
  have Hm := Lib.hid hm
  have Hu := Lib.hid hu
  clear hl hm hu
  by_cases h : low = 55
  · subst h
    go_enter Try.func55, Try.ntmps55
    go_wp2_with (first
      | (go_at_call 56; (with_reducible refine (rcut_0_6 x _ h0 h1).mono ?_); rintro e w1 ⟨rfl, rfl⟩; rw [Hl.out])
      | (go_at_call 56; (with_reducible refine (rcut_12_14 x _ h0 h1).mono ?_); rintro e w1 ⟨rfl, rfl⟩; rw [Hm.out])
      | (go_at_call 56; (with_reducible refine (rcut_25_31 x _ h0 h1).mono ?_); rintro e w1 ⟨rfl, rfl⟩; rw [Hu.out])
      | (go_at_call 79; refine (pick_blk (0) [] 0 w.heap.size (w.heap.size + 1) 2 3 _ rfl (by decide) ((Blk.new w _ _).alloc _) (Blk.newAt _ _ _ (by simp))).mono ?_; rintro e w1 ⟨rfl, rfl⟩))
    go_ret2
    refine ⟨?_, Below.refl _ _⟩
    skip
    rfl
  by_cases h : low = 23
  · subst h
    go_enter Try.func55, Try.ntmps55
    go_wp2_with (first
      | (go_at_call 56; (with_reducible refine (rcut_0_6 x _ h0 h1).mono ?_); rintro e w1 ⟨rfl, rfl⟩; rw [Hl.out])
      | (go_at_call 56; (with_reducible refine (rcut_12_14 x _ h0 h1).mono ?_); rintro e w1 ⟨rfl, rfl⟩; rw [Hm.out])
      | (go_at_call 56; (with_reducible refine (rcut_25_31 x _ h0 h1).mono ?_); rintro e w1 ⟨rfl, rfl⟩; rw [Hu.out])
      | (go_at_call 79; refine (pick_blk (0) [] 0 w.heap.size (w.heap.size + 1) 2 3 _ rfl (by decide) ((Blk.new w _ _).alloc _) (Blk.newAt _ _ _ (by simp))).mono ?_; rintro e w1 ⟨rfl, rfl⟩))
    go_ret2
    refine ⟨?_, Below.refl _ _⟩
    skip
    rfl
  by_cases h : low = 111
  · subst h
    go_enter Try.func55, Try.ntmps55
    go_wp2_with (first
      | (go_at_call 56; (with_reducible refine (rcut_0_6 x _ h0 h1).mono ?_); rintro e w1 ⟨rfl, rfl⟩; rw [Hl.out])
      | (go_at_call 56; (with_reducible refine (rcut_12_14 x _ h0 h1).mono ?_); rintro e w1 ⟨rfl, rfl⟩; rw [Hm.out])
      | (go_at_call 56; (with_reducible refine (rcut_25_31 x _ h0 h1).mono ?_); rintro e w1 ⟨rfl, rfl⟩; rw [Hu.out])
      | (go_at_call 79; refine (pick_blk (0) [] 0 w.heap.size (w.heap.size + 1) 2 3 _ rfl (by decide) ((Blk.new w _ _).alloc _) (Blk.newAt _ _ _ (by simp))).mono ?_; rintro e w1 ⟨rfl, rfl⟩))
    go_ret2
    refine ⟨?_, Below.refl _ _⟩
    skip
    rfl
  by_cases h : low = 103
  · subst h
    go_enter Try.func55, Try.ntmps55
    go_wp2_with (first
      | (go_at_call 56; (with_reducible refine (rcut_0_6 x _ h0 h1).mono ?_); rintro e w1 ⟨rfl, rfl⟩; rw [Hl.out])
      | (go_at_call 56; (with_reducible refine (rcut_12_14 x _ h0 h1).mono ?_); rintro e w1 ⟨rfl, rfl⟩; rw [Hm.out])
      | (go_at_call 56; (with_reducible refine (rcut_25_31 x _ h0 h1).mono ?_); rintro e w1 ⟨rfl, rfl⟩; rw [Hu.out])
      | (go_at_call 79; refine (pick_blk (mid) [(0, 4)] 1 w.heap.size (w.heap.size + 1) 2 3 _ rfl (by decide) ((Blk.new w _ _).alloc _) (Blk.newAt _ _ _ (by simp))).mono ?_; rintro e w1 ⟨rfl, rfl⟩))
    go_ret2
    refine ⟨?_, ((Below.refl _ _).alloc (Nat.le_refl _) _).alloc (by simp) _⟩
    skip
    rfl
  by_cases h : low = 99
  · subst h
    go_enter Try.func55, Try.ntmps55
    go_wp2_with (first
      | (go_at_call 56; (with_reducible refine (rcut_0_6 x _ h0 h1).mono ?_); rintro e w1 ⟨rfl, rfl⟩; rw [Hl.out])
      | (go_at_call 56; (with_reducible refine (rcut_12_14 x _ h0 h1).mono ?_); rintro e w1 ⟨rfl, rfl⟩; rw [Hm.out])
      | (go_at_call 56; (with_reducible refine (rcut_25_31 x _ h0 h1).mono ?_); rintro e w1 ⟨rfl, rfl⟩; rw [Hu.out])
      | (go_at_call 79; refine (pick_blk (mid) [(0, 5), (1, 6), (4, 7), (5, 8), (6, 9), (7, 10)] 6 w.heap.size (w.heap.size + 1) 2 3 _ rfl (by decide) ((Blk.new w _ _).alloc _) (Blk.newAt _ _ _ (by simp))).mono ?_; rintro e w1 ⟨rfl, rfl⟩))
    go_ret2
    refine ⟨?_, ((Below.refl _ _).alloc (Nat.le_refl _) _).alloc (by simp) _⟩
    skip
    rfl
  by_cases h : low = 3
  · subst h
    go_enter Try.func55, Try.ntmps55
    go_wp2_with (first
      | (go_at_call 56; (with_reducible refine (rcut_0_6 x _ h0 h1).mono ?_); rintro e w1 ⟨rfl, rfl⟩; rw [Hl.out])
      | (go_at_call 56; (with_reducible refine (rcut_12_14 x _ h0 h1).mono ?_); rintro e w1 ⟨rfl, rfl⟩; rw [Hm.out])
      | (go_at_call 56; (with_reducible refine (rcut_25_31 x _ h0 h1).mono ?_); rintro e w1 ⟨rfl, rfl⟩; rw [Hu.out])
      | (go_at_call 79; refine (pick_blk (mid) [(0, 11), (1, 12), (2, 13), (4, 14), (5, 15)] 5 w.heap.size (w.heap.size + 1) 2 3 _ rfl (by decide) ((Blk.new w _ _).alloc _) (Blk.newAt _ _ _ (by simp))).mono ?_; rintro e w1 ⟨rfl, rfl⟩))
    go_ret2
    refine ⟨?_, ((Below.refl _ _).alloc (Nat.le_refl _) _).alloc (by simp) _⟩
    skip
    rfl
  by_cases h : low = 35
  · subst h
    go_enter Try.func55, Try.ntmps55
    go_wp2_with (first
      | (go_at_call 56; (with_reducible refine (rcut_0_6 x _ h0 h1).mono ?_); rintro e w1 ⟨rfl, rfl⟩; rw [Hl.out])
      | (go_at_call 56; (with_reducible refine (rcut_12_14 x _ h0 h1).mono ?_); rintro e w1 ⟨rfl, rfl⟩; rw [Hm.out])
      | (go_at_call 56; (with_reducible refine (rcut_25_31 x _ h0 h1).mono ?_); rintro e w1 ⟨rfl, rfl⟩; rw [Hu.out])
      | (go_at_call 79; refine (pick_blk (mid) [(0, 16), (1, 17), (2, 18)] 3 w.heap.size (w.heap.size + 1) 2 3 _ rfl (by decide) ((Blk.new w _ _).alloc _) (Blk.newAt _ _ _ (by simp))).mono ?_; rintro e w1 ⟨rfl, rfl⟩))
    go_ret2
    refine ⟨?_, ((Below.refl _ _).alloc (Nat.le_refl _) _).alloc (by simp) _⟩
    skip
    rfl
  by_cases h : low = 15
  · subst h
    go_enter Try.func55, Try.ntmps55
    go_wp2_with (first
      | (go_at_call 56; (with_reducible refine (rcut_0_6 x _ h0 h1).mono ?_); rintro e w1 ⟨rfl, rfl⟩; rw [Hl.out])
      | (go_at_call 56; (with_reducible refine (rcut_12_14 x _ h0 h1).mono ?_); rintro e w1 ⟨rfl, rfl⟩; rw [Hm.out])
      | (go_at_call 56; (with_reducible refine (rcut_25_31 x _ h0 h1).mono ?_); rintro e w1 ⟨rfl, rfl⟩; rw [Hu.out])
      | (go_at_call 79; refine (pick_blk (mid) [(0, 46)] 1 w.heap.size (w.heap.size + 1) 2 3 _ rfl (by decide) ((Blk.new w _ _).alloc _) (Blk.newAt _ _ _ (by simp))).mono ?_; rintro e w1 ⟨rfl, rfl⟩))
    go_ret2
    refine ⟨?_, ((Below.refl _ _).alloc (Nat.le_refl _) _).alloc (by simp) _⟩
    skip
    rfl
  by_cases h : low = 115
  · subst h
    go_enter Try.func55, Try.ntmps55
    go_wp2_with (first
      | (go_at_call 56; (with_reducible refine (rcut_0_6 x _ h0 h1).mono ?_); rintro e w1 ⟨rfl, rfl⟩; rw [Hl.out])
      | (go_at_call 56; (with_reducible refine (rcut_12_14 x _ h0 h1).mono ?_); rintro e w1 ⟨rfl, rfl⟩; rw [Hm.out])
      | (go_at_call 56; (with_reducible refine (rcut_25_31 x _ h0 h1).mono ?_); rintro e w1 ⟨rfl, rfl⟩; rw [Hu.out])
      | (go_at_call 79; refine (pick_blk (x) [(115, 47), (1048691, 48)] 2 w.heap.size (w.heap.size + 1) 2 3 _ rfl (by decide) ((Blk.new w _ _).alloc _) (Blk.newAt _ _ _ (by simp))).mono ?_; rintro e w1 ⟨rfl, rfl⟩))
    go_ret2
    refine ⟨?_, ((Below.refl _ _).alloc (Nat.le_refl _) _).alloc (by simp) _⟩
    skip
    rfl
  by_cases h : low = 19
  · subst h
    by_cases hm1 : mid = 1
    · subst hm1
      go_enter Try.func55, Try.ntmps55
      go_wp2_with (first
        | (go_at_call 56; (with_reducible refine (rcut_0_6 x _ h0 h1).mono ?_); rintro e w1 ⟨rfl, rfl⟩; rw [Hl.out])
        | (go_at_call 56; (with_reducible refine (rcut_12_14 x _ h0 h1).mono ?_); rintro e w1 ⟨rfl, rfl⟩; rw [Hm.out])
        | (go_at_call 56; (with_reducible refine (rcut_25_31 x _ h0 h1).mono ?_); rintro e w1 ⟨rfl, rfl⟩; rw [Hu.out])
        | (go_at_call 79; refine (pick_blk (8 * up + 1) [(1, 25), (5, 26), (261, 27)] 3 w.heap.size (w.heap.size + 1) 2 3 _ rfl (by decide) ((Blk.new w _ _).alloc _) (Blk.newAt _ _ _ (by simp))).mono ?_; rintro e w1 ⟨rfl, rfl⟩))
      go_ret2
      refine ⟨?_, ((Below.refl _ _).alloc (Nat.le_refl _) _).alloc (by simp) _⟩
      skip
      rfl
    by_cases hm5 : mid = 5
    · subst hm5
      go_enter Try.func55, Try.ntmps55
      go_wp2_with (first
        | (go_at_call 56; (with_reducible refine (rcut_0_6 x _ h0 h1).mono ?_); rintro e w1 ⟨rfl, rfl⟩; rw [Hl.out])
        | (go_at_call 56; (with_reducible refine (rcut_12_14 x _ h0 h1).mono ?_); rintro e w1 ⟨rfl, rfl⟩; rw [Hm.out])
        | (go_at_call 56; (with_reducible refine (rcut_25_31 x _ h0 h1).mono ?_); rintro e w1 ⟨rfl, rfl⟩; rw [Hu.out])
        | (go_at_call 79; refine (pick_blk (8 * up + 5) [(1, 25), (5, 26), (261, 27)] 3 w.heap.size (w.heap.size + 1) 2 3 _ rfl (by decide) ((Blk.new w _ _).alloc _) (Blk.newAt _ _ _ (by simp))).mono ?_; rintro e w1 ⟨rfl, rfl⟩))
      go_ret2
      refine ⟨?_, ((Below.refl _ _).alloc (Nat.le_refl _) _).alloc (by simp) _⟩
      skip
      rfl
    have e1 : (mid == 1) = false := by simp [hm1]
    have e5 : (mid == 5) = false := by simp [hm5]
    have Hmm := Lib.hid (show ¬ (mid = 1 ∨ mid = 5) by omega)
    clear hm1 hm5
    go_enter Try.func55, Try.ntmps55
    go_wp2_with (first
      | (go_at_call 56; (with_reducible refine (rcut_0_6 x _ h0 h1).mono ?_); rintro e w1 ⟨rfl, rfl⟩; rw [Hl.out])
      | (go_at_call 56; (with_reducible refine (rcut_12_14 x _ h0 h1).mono ?_); rintro e w1 ⟨rfl, rfl⟩; rw [Hm.out])
      | (go_at_call 56; (with_reducible refine (rcut_25_31 x _ h0 h1).mono ?_); rintro e w1 ⟨rfl, rfl⟩; rw [Hu.out])
      | (go_at_call 79; refine (pick_blk (mid) [(0, 19), (2, 20), (3, 21), (4, 22), (6, 23), (7, 24)] 6 w.heap.size (w.heap.size + 1) 2 3 _ rfl (by decide) ((Blk.new w _ _).alloc _) (Blk.newAt _ _ _ (by simp))).mono ?_; rintro e w1 ⟨rfl, rfl⟩))
    go_ret2
    refine ⟨?_, ((Below.refl _ _).alloc (Nat.le_refl _) _).alloc (by simp) _⟩
    show _ = Ending.returned (.tuple #[.int .i64 (if mid = 1 ∨ mid = 5 then _ else _ : Int × Int).1, .int .u8 (letterP (if mid = 1 ∨ mid = 5 then _ else _ : Int × Int).2)]); rw [if_neg Hmm.out]
    rfl
  by_cases h : low = 51
  · subst h
    by_cases hu0 : up = 0
    · subst hu0
      go_enter Try.func55, Try.ntmps55
      go_wp2_with (first
        | (go_at_call 56; (with_reducible refine (rcut_0_6 x _ h0 h1).mono ?_); rintro e w1 ⟨rfl, rfl⟩; rw [Hl.out])
        | (go_at_call 56; (with_reducible refine (rcut_12_14 x _ h0 h1).mono ?_); rintro e w1 ⟨rfl, rfl⟩; rw [Hm.out])
        | (go_at_call 56; (with_reducible refine (rcut_25_31 x _ h0 h1).mono ?_); rintro e w1 ⟨rfl, rfl⟩; rw [Hu.out])
        | (go_at_call 79; refine (pick_blk (mid) [(0, 28), (1, 30), (2, 31), (3, 32), (4, 33), (5, 34), (6, 36), (7, 37)] 8 w.heap.size (w.heap.size + 1) 2 3 _ rfl (by decide) ((Blk.new w _ _).alloc _) (Blk.newAt _ _ _ (by simp))).mono ?_; rintro e w1 ⟨rfl, rfl⟩))
      go_ret2
      refine ⟨?_, ((Below.refl _ _).alloc (Nat.le_refl _) _).alloc (by simp) _⟩
      skip
      rfl
    by_cases hu32 : up = 32
    · subst hu32
      go_enter Try.func55, Try.ntmps55
      go_wp2_with (first
        | (go_at_call 56; (with_reducible refine (rcut_0_6 x _ h0 h1).mono ?_); rintro e w1 ⟨rfl, rfl⟩; rw [Hl.out])
        | (go_at_call 56; (with_reducible refine (rcut_12_14 x _ h0 h1).mono ?_); rintro e w1 ⟨rfl, rfl⟩; rw [Hm.out])
        | (go_at_call 56; (with_reducible refine (rcut_25_31 x _ h0 h1).mono ?_); rintro e w1 ⟨rfl, rfl⟩; rw [Hu.out])
        | (go_at_call 79; refine (pick_blk (mid) [(0, 29), (5, 35)] 2 w.heap.size (w.heap.size + 1) 2 3 _ rfl (by decide) ((Blk.new w _ _).alloc _) (Blk.newAt _ _ _ (by simp))).mono ?_; rintro e w1 ⟨rfl, rfl⟩))
      go_ret2
      refine ⟨?_, ((Below.refl _ _).alloc (Nat.le_refl _) _).alloc (by simp) _⟩
      skip
      rfl
    by_cases hu1 : up = 1
    · subst hu1
      go_enter Try.func55, Try.ntmps55
      go_wp2_with (first
        | (go_at_call 56; (with_reducible refine (rcut_0_6 x _ h0 h1).mono ?_); rintro e w1 ⟨rfl, rfl⟩; rw [Hl.out])
        | (go_at_call 56; (with_reducible refine (rcut_12_14 x _ h0 h1).mono ?_); rintro e w1 ⟨rfl, rfl⟩; rw [Hm.out])
        | (go_at_call 56; (with_reducible refine (rcut_25_31 x _ h0 h1).mono ?_); rintro e w1 ⟨rfl, rfl⟩; rw [Hu.out])
        | (go_at_call 79; refine (pick_blk (mid) [(0, 38), (1, 39), (2, 40), (3, 41), (4, 42), (5, 43), (6, 44), (7, 45)] 8 w.heap.size (w.heap.size + 1) 2 3 _ rfl (by decide) ((Blk.new w _ _).alloc _) (Blk.newAt _ _ _ (by simp))).mono ?_; rintro e w1 ⟨rfl, rfl⟩))
      go_ret2
      refine ⟨?_, ((Below.refl _ _).alloc (Nat.le_refl _) _).alloc (by simp) _⟩
      skip
      rfl
    have e0 : (up == 0) = false := by simp [hu0]
    have e32 : (up == 32) = false := by simp [hu32]
    have e1 : (up == 1) = false := by simp [hu1]
    have Hv := Lib.hid (show ¬ up = 0 ∧ ¬ up = 32 ∧ ¬ up = 1 by omega)
    clear hu0 hu32 hu1
    go_enter Try.func55, Try.ntmps55
    go_wp2_with (first
      | (go_at_call 56; (with_reducible refine (rcut_0_6 x _ h0 h1).mono ?_); rintro e w1 ⟨rfl, rfl⟩; rw [Hl.out])
      | (go_at_call 56; (with_reducible refine (rcut_12_14 x _ h0 h1).mono ?_); rintro e w1 ⟨rfl, rfl⟩; rw [Hm.out])
      | (go_at_call 56; (with_reducible refine (rcut_25_31 x _ h0 h1).mono ?_); rintro e w1 ⟨rfl, rfl⟩; rw [Hu.out])
      | (go_at_call 79; refine (pick_blk (0) [] 0 w.heap.size (w.heap.size + 1) 2 3 _ rfl (by decide) ((Blk.new w _ _).alloc _) (Blk.newAt _ _ _ (by simp))).mono ?_; rintro e w1 ⟨rfl, rfl⟩))
    go_ret2
    refine ⟨?_, Below.refl _ _⟩
    show _ = Ending.returned (.tuple #[.int .i64 (if up = 0 then _ else if up = 32 then _ else if up = 1 then _ else _ : Int × Int).1, .int .u8 (letterP (if up = 0 then _ else if up = 32 then _ else if up = 1 then _ else _ : Int × Int).2)]); rw [if_neg Hv.out.1, if_neg Hv.out.2.1, if_neg Hv.out.2.2]
    rfl
  have f55 : (low == 55) = false := by simp [*]
  have f23 : (low == 23) = false := by simp [*]
  have f111 : (low == 111) = false := by simp [*]
  have f103 : (low == 103) = false := by simp [*]
  have f99 : (low == 99) = false := by simp [*]
  have f3 : (low == 3) = false := by simp [*]
  have f35 : (low == 35) = false := by simp [*]
  have f15 : (low == 15) = false := by simp [*]
  have f115 : (low == 115) = false := by simp [*]
  have f19 : (low == 19) = false := by simp [*]
  have f51 : (low == 51) = false := by simp [*]
  have Hf := Lib.hid (show ¬ low = 55 ∧ ¬ low = 23 ∧ ¬ low = 111 ∧ ¬ low = 103 ∧ ¬ low = 99 ∧ ¬ low = 3 ∧ ¬ low = 35 ∧ ¬ low = 15 ∧ ¬ low = 115 ∧ ¬ low = 19 ∧ ¬ low = 51 by refine ⟨?_, ?_, ?_, ?_, ?_, ?_, ?_, ?_, ?_, ?_, ?_⟩ <;> assumption)
  clear h
  go_enter Try.func55, Try.ntmps55
  go_wp2_with (first
    | (go_at_call 56; (with_reducible refine (rcut_0_6 x _ h0 h1).mono ?_); rintro e w1 ⟨rfl, rfl⟩; rw [Hl.out])
    | (go_at_call 56; (with_reducible refine (rcut_12_14 x _ h0 h1).mono ?_); rintro e w1 ⟨rfl, rfl⟩; rw [Hm.out])
    | (go_at_call 56; (with_reducible refine (rcut_25_31 x _ h0 h1).mono ?_); rintro e w1 ⟨rfl, rfl⟩; rw [Hu.out])
    | (go_at_call 79; refine (pick_blk (0) [] 0 w.heap.size (w.heap.size + 1) 2 3 _ rfl (by decide) ((Blk.new w _ _).alloc _) (Blk.newAt _ _ _ (by simp))).mono ?_; rintro e w1 ⟨rfl, rfl⟩))
  go_ret2
  refine ⟨?_, Below.refl _ _⟩
  unfold formR; simp only [Hf.out, if_false]
  rfl
end Go.Proofs.Ytapgojgcmlnbgab
