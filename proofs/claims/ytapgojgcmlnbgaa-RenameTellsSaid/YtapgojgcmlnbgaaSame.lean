/- humpyardref7.Same: of two maps that are one. -/
import Derived.Test.YtapgojgcmlnbgaaRename6
import Derived.Test.YtapgojgcmlnbgaaFlat
namespace Go.Proofs.Ytapgojgcmlnbgaa
open Go.RowKit

theorem neq_self {P : Program} {t : TypeId} {cs : Array Value} {m : Nat} {ks : List (Option IntKind)} (w : World) (hk : P.keyTypeAt m t = true) (hm : m ≤ 10000) (hf : (Value.agg cs).formed P t = true) {d : Nat} (hb : fitsB P d t ks = true)
    (h : Fits ks cs.toList) : (binOp .neq t (.agg cs) (.agg cs)).run P w = .ok (.bool false) w := by
  obtain ⟨la, hla⟩ := keyLits_fits d t ks cs.toList hb h
  obtain ⟨r, hr, hiff⟩ := run_equalIn_deep (P := P) (10000 - m) m t hk w d d (.agg cs) (.agg cs) la la hf hf hla hla
  rw [run_neq_struct, show 10000 = 10000 - m + m by omega, hr, hiff.2 rfl]
  rfl
theorem wpList_want {P : Program} {ops : Array Oper} {Q : Exit → Act → World → Prop} {a : Act} {w : World} {rest : List Oper} {o : Oper} (hw : Region.wanted o (yielded ops a.tmps) = true)
    (h : ∀ K : Act → World → Prop, (∀ a w, wpList P ops Q rest a w → K a w) → o.wp P a w K Q) : wpList P ops Q (o :: rest) a w := by
  unfold wpList
  rw [if_pos hw]
  exact Or.inl (h _ fun _ _ h => h)
/-- At the operation. -/
theorem wp_neq_self {P : Program} {o : Oper} {a : Act} {w : World} {K : Act → World → Prop} {Q : Exit → Act → World → Prop} (t : TypeId) (x y : Operand) (r : TypeId) (ho : o.op = .binOp .neq t x y r) (cs : Array Value) (hx : a.eval x = .agg cs) (hy : a.eval y = .agg cs)
    (hg : P.eqGuardType P.depth t = false) (hs : (binOp .neq t (.agg cs) (.agg cs)).run P w = .ok (.bool false) w) (hk : K (a.put o.dst (.bool false)) w) : o.wp P a w K Q := by
  have hq := run_eqGuard_agg (P := P) (w := w) .neq t x y cs cs hg
  unfold Oper.wp execOp
  simp only [ho, hx, hy, hs, hq, Sem.run_bind, Sem.run_pure, Result.andThen_ok]
  exact hk
def regKinds : List (Option IntKind) := List.replicate 32 (some .i64)
theorem regs_key : Try.prog.keyTypeAt 20 47 = true := by kernel_rfl
theorem regs_fitsB : fitsB Try.prog 20 47 regKinds = true := by kernel_rfl
theorem regs_guard : Try.prog.eqGuardType Try.prog.depth 47 = false := by kernel_rfl
theorem regs_cells : Try.prog.cellsOf 47 = 32 := by kernel_rfl
theorem regs_info : (Try.prog.info? 47).map (·.size) = some 32 := by kernel_rfl
theorem regs_fits {l : List Int} (hl : l.length = 32) (hw : ∀ x ∈ l, -9223372036854775808 ≤ x ∧ x ≤ 9223372036854775807) : Fits regKinds (l.map (Value.int .i64)) :=
  Fits.mk (by simp [regKinds, hl]) fun i k v h1 h2 => by
    unfold regKinds at h1
    rw [List.getElem?_replicate] at h1
    split at h1
    · cases h1
      rw [List.getElem?_map] at h2
      obtain ⟨x, hx, rfl⟩ := Option.map_eq_some_iff.1 h2
      have := hw x (List.mem_of_getElem? hx)
      exact ⟨x, rfl, wf_i64' this.1 this.2⟩
    · cases h1
theorem regs_formed (l : List Int) (hl : l.length = 32) : (Value.agg (l.map (Value.int .i64)).toArray).formed Try.prog 47 = true := by
  simp [Value.formed, Try.underlying47, regs_cells, hl]
theorem regs_neq {l : List Int} (hl : l.length = 32) (hw : ∀ x ∈ l, -9223372036854775808 ≤ x ∧ x ≤ 9223372036854775807) (w : World) :
    (binOp .neq 47 (.agg (l.map (Value.int .i64)).toArray) (.agg (l.map (Value.int .i64)).toArray)).run Try.prog w = .ok (.bool false) w :=
  neq_self w regs_key (by omega) (regs_formed l hl) regs_fitsB (by simpa using regs_fits hl hw)
theorem mapCells_extract (phys : Int) (regs : List Int) (A : Option Addr) (n cap : Nat) (h : regs.length = 32) : (mapCells phys regs A n cap).extract 1 (1 + 32) = (regs.map (Value.int .i64)).toArray := by
  unfold mapCells
  apply Array.ext_getElem?
  intro i
  rw [Array.getElem?_extract]
  simp only [List.size_toArray, List.length_cons, List.length_append, List.length_map, h, List.length_nil, List.getElem?_toArray]
  by_cases hi : i < 32
  · rw [if_pos (by omega), Nat.add_comm 1 i, List.getElem?_cons_succ, List.getElem?_append_left (by simp [h]; omega)]
  · rw [if_neg (by omega), List.getElem?_eq_none (by simp [h]; omega)]

set_option maxRecDepth 100000 in
set_option maxHeartbeats 1000000 in
theorem same_any {w : World} {m : RMap} {v1 v2 : Value} (h1 : MapV w m v1) (h2 : MapV w m v2) :
    Calls Try.prog 30 #[v1, v2] w fun e w' => e = .returned (.bool true) ∧ Below w.heap.size w w' := by
  obtain ⟨A, cap, rfl, h1⟩ := h1
  obtain ⟨A', cap', rfl, h2⟩ := h2
  have hlen := h1.len
  have hn := Lib.hid (fun W => regs_neq (l := m.regs) hlen (fun x hx => h1.wf x (List.mem_append_left _ hx)) W)
  have e1 := mapCells_extract m.phys m.regs A m.free.length cap hlen
  have e2 := mapCells_extract m.phys m.regs A' m.free.length cap' hlen
  have s1 := mapCells_size m.phys m.regs A m.free.length cap hlen
  have s2 := mapCells_size m.phys m.regs A' m.free.length cap' hlen
  have f1 := mapCells_free m.phys m.regs A m.free.length cap hlen
  have f2 := mapCells_free m.phys m.regs A' m.free.length cap' hlen
  have z1 := mapCells_0 m.phys m.regs A m.free.length cap
  have z2 := mapCells_0 m.phys m.regs A' m.free.length cap'
  have hA1 := Lib.hid h1.free
  have hA2 := Lib.hid h2.free
  have hfew := h1.few
  generalize mapCells m.phys m.regs A m.free.length cap = cs1 at *
  generalize mapCells m.phys m.regs A' m.free.length cap' = cs2 at *
  generalize m.phys = phys at *
  generalize (m.regs.map (Value.int .i64)).toArray = R at *
  clear h1 h2
  generalize m.free = l at *
  obtain ⟨N, hN⟩ : ∃ N, N = l.length := ⟨_, rfl⟩
  rw [← hN] at f1 f2 hfew
  have HN := Lib.hid hN
  have E1 := Lib.hid e1
  have E2 := Lib.hid e2
  have S1 := Lib.hid s1
  have S2 := Lib.hid s2
  clear hN e1 e2 s1 s2
  have q1 : (phys == phys) = true := by simp
  have q2 : ((N : Int) == N) = true := by simp
  go_enter Try.func30, Try.ntmps30
  go_upto_region 1 with (fail)
  go_simp
  refine wp_gen fun wa hq => ?_
  have hb : Below w.heap.size w wa := by rw [hq]; exact ((Below.refl w.heap.size w).alloc (Nat.le_refl _) _).alloc (by simp) _
  have hB1 : Blk wa w.heap.size 50 cs1 := by rw [hq]; exact (Blk.new w 50 cs1).alloc _
  have hB2 : Blk wa (w.heap.size + 1) 50 cs2 := by rw [hq]; exact Blk.newAt (w.alloc (.cells cs1 50)) 50 _ (by simp)
  clear hq
  have a0 := hB1.cell 0
  rw [z1] at a0
  have b0 := hB2.cell 0
  rw [z2] at b0
  have a33 := hB1.cell 33
  rw [f1] at a33
  have b33 := hB2.cell 33
  rw [f2] at b33
  have zA := hB1.lt
  have zB := hB2.lt
  go_wp2_with (first
    | (refine wpList_want rfl fun K hK => ?_; refine wp_load_blk 47 _ rfl w.heap.size 1 rfl 50 cs1 32 _ hB1 Try.underlying47 rfl regs_info (by rw [S1.out]; omega) ?_; rw [E1.out]; refine hK _ _ ?_)
    | (refine wpList_want rfl fun K hK => ?_; refine wp_load_blk 47 _ rfl (w.heap.size + 1) 1 rfl 50 cs2 32 _ hB2 Try.underlying47 rfl regs_info (by rw [S2.out]; omega) ?_; rw [E2.out]; refine hK _ _ ?_)
    | (refine wpList_want rfl fun K hK => ?_; refine wp_neq_self 47 _ _ _ rfl R rfl rfl regs_guard (hn.out _) ?_; refine hK _ _ ?_))
  clear a0 b0 a33 b33 hn
  go_loopw [5] (fun v wr => ∃ k : Nat, v = .int .i64 k ∧ k ≤ N ∧ Below wa.heap.size wa wr) (fun v _ => N + 1 - (intOf v).toNat)
  case atStart => exact ⟨0, rfl, by omega, Below.refl _ _⟩
  case round =>
    obtain ⟨k, rfl, hk, hr⟩ := hrel
    have a33 := (hB1.ext hr).cell 33
    rw [f1] at a33
    have zA' := (hB1.ext hr).lt
    by_cases hlt : k < N
    · have hkl : k < l.length := by rw [← HN.out]; exact hlt
      obtain ⟨b, o, rfl, hb1, hc1⟩ := hA1.out.at_ hkl
      obtain ⟨b', o', rfl, hb2, hc2⟩ := hA2.out.at_ hkl
      have c1 := (hr.cell (p := ⟨b, o + k, none⟩) (Nat.lt_of_lt_of_le hb1 hb.size)).trans ((hb.cell (p := ⟨b, o + k, none⟩) hb1).trans (hc1 k hkl))
      have c2 := (hr.cell (p := ⟨b', o' + k, none⟩) (Nat.lt_of_lt_of_le hb2 hb.size)).trans ((hb.cell (p := ⟨b', o' + k, none⟩) hb2).trans (hc2 k hkl))
      generalize l.getD k 0 = x at c1 c2
      have l1 := Nat.lt_of_lt_of_le (Nat.lt_of_lt_of_le hb1 hb.size) hr.size
      have l2 := Nat.lt_of_lt_of_le (Nat.lt_of_lt_of_le hb2 hb.size) hr.size
      clear hc1 hc2 hkl
      go_upto_region 6 with (fail)
      go_simp
      refine wp_region_ob 1453 594 2047 [0, 1, 2, 3, 4, 5, 6, 7, 8, 9, 10] (by kernel_rfl) (by kernel_rfl) (by kernel_rfl) rfl ?_
      repeat' (first
        | refine wpO_plain rfl rfl ?_
        | (refine' wpOW_ever _ (by decide) (by decide) (fun wq K hK => ?_) ?_ ?_
           rotate_left 1
           · (go_wp2_with (fail)
              all_goals exact hK)
           · rfl)
        | (refine' wpOW_reads _ (by decide) (by decide) (by decide) (fun wq hwq K hK => ?_) ?_ ?_
           rotate_left 1
           · (have p33 := ((hB1.ext hr).ext hwq).cell 33; rw [f1] at p33; have r33 := ((hB2.ext hr).ext hwq).cell 33; rw [f2] at r33; have d1 := (hwq.cell (p := ⟨b, o + k, none⟩) l1).trans c1; have d2 := (hwq.cell (p := ⟨b', o' + k, none⟩) l2).trans c2
              first
              | (fail)
              | (go_wp2_with (fail)
                 all_goals exact hK))
           · rfl)
        | (refine' wpOW_calls _ (by decide) (by decide) (by decide) (fun wq hwq K hK => ?_) ?_ ?_
           rotate_left 1
           · (have p33 := ((hB1.ext hr).ext hwq).cell 33; rw [f1] at p33; have r33 := ((hB2.ext hr).ext hwq).cell 33; rw [f2] at r33; have d1 := (hwq.cell (p := ⟨b, o + k, none⟩) l1).trans c1; have d2 := (hwq.cell (p := ⟨b', o' + k, none⟩) l2).trans c2
              first
              | (fail)
              | (go_wp2_with (fail)
                 all_goals exact hK _ hwq))
           · rfl)
        | (refine wpO_guardT rfl rfl rfl rfl ?_ ?_ <;> intro hc <;> first | (cases hc; done) | ((try cases hc); simp only [Act.put, List.setIfInBounds_toArray, List.set_cons_succ, List.set_cons_zero]))
        | (refine wpO_guardF rfl rfl rfl rfl ?_ ?_ <;> intro hc <;> first | (cases hc; done) | ((try cases hc); simp only [Act.put, List.setIfInBounds_toArray, List.set_cons_succ, List.set_cons_zero]))
        | refine wpO_guardU rfl rfl rfl rfl ?_)
      refine wpO_nil ?_
      rintro w4 rfl
      go_wp2
      go_roundw
      case rel => exact ⟨k + 1, by go_num, by omega, hr.drew⟩
      case measure => simp [intOf]; omega
    · obtain rfl : k = N := by omega
      go_wp2_with (fail)
      go_ret
      exact ⟨rfl, hb.trans (hr.mono hb.size)⟩
end Go.Proofs.Ytapgojgcmlnbgaa
