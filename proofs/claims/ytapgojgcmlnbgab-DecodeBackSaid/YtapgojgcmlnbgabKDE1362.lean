/- decode.Encode, of one form. Printed by gen_enc.py. -/
import Derived.Test.YtapgojgcmlnbgabKDE1357
set_option linter.unusedSimpArgs false
set_option linter.unusedVariables false

namespace Go.Proofs.Ytapgojgcmlnbgab
open Go.RowKit

set_option maxRecDepth 100000 in
set_option maxHeartbeats 4000000 in
theorem enc_form4 (op rd rs1 rs2 imm low mid up : Int) (w : World) (hk : kindP op = some ⟨4, low, mid, up⟩) (l0 : 0 ≤ low) (l1 : low < 128) (m0 : 0 ≤ mid) (m1 : mid < 8) (u0 : 0 ≤ up) (u1 : up < 128) (hmid : True) (r0 : 0 ≤ rd) (r1 : rd ≤ 31) (s0 : 0 ≤ rs1) (s1 : rs1 ≤ 31) (q0 : 0 ≤ rs2) (q1 : rs2 ≤ 31) (i0 : -2147483648 ≤ imm) (i1 : imm ≤ 2147483647) :
    Calls Try.prog 31 #[.agg #[.int .i64 op, .int .i64 rd, .int .i64 rs1, .int .i64 rs2, .int .i32 imm]] w (EncPost w op rd rs1 rs2 imm) := by
  have hop : 1 ≤ op ∧ op ≤ 48 := kindP_range hk
  have hkf := kind_form hk
  have CO := Lib.hid (fun W => dof_any op _ hk W)
  obtain ⟨K, hKd⟩ : ∃ K : Array Value, K = (Kind.mk 4 low mid up).cells := ⟨_, rfl⟩
  rw [← hKd] at CO
  have kinf : (Try.prog.info? 83).map (·.size) = some K.size := by rw [hKd]; exact kind_info
  have kone : K.all (·.oneCell') = true := by rw [hKd]; exact kind_one
  have ksz : K.size = 4 := by rw [hKd]; rfl
  have kc0 : K[0]? = some (.int .i64 4) := by rw [hKd]; rfl
  have kc1 : K[1]? = some (.int .u32 low) := by rw [hKd]; rfl
  have kc2 : K[2]? = some (.int .u32 mid) := by rw [hKd]; rfl
  have kc3 : K[3]? = some (.int .u32 up) := by rw [hKd]; rfl
  have n0 := Int.emod_nonneg imm (show (4294967296 : Int) ≠ 0 by omega)
  have n1 : imm % 4294967296 ≤ 4294967295 := by omega
  have hEW : ∀ n, n = imm % 4294967296 → IsP (Ins.mk op rd rs1 rs2 imm) = true → (bits .or .u32 (bits .or .u32 (bits .or .u32 (bits .or .u32 (bits .or .u32 low (rd * 128)) (mid * 4096)) (rs1 * 32768)) (rs2 * 1048576)) (bits .or .u32 (bits .or .u32 (bits .or .u32 (cutI n 12 12 * 2147483648 % 4294967296) (cutI n 11 11 * 128 % 4294967296)) (cutI n 5 10 * 33554432 % 4294967296)) (cutI n 1 4 * 256 % 4294967296))) = encW (Ins.mk op rd rs1 rs2 imm) := fun n hn hi => by
    subst hn
    have hz : True ∧ rd = 0 := by
      have hf := isP_form hi
      dsimp only at hf hkf
      obtain ⟨h0, h1, h2, h3, h4, h5, h7⟩ := hf
      have hq := hkf.symm
      exact ⟨trivial, h4 hq⟩
    rw [encE_4 low rd mid rs1 rs2 up (imm % 4294967296) l0 l1 m0 m1 u0 u1 r0 r1 s0 s1 q0 q1 n0 n1 hz.2]
    unfold encW
    dsimp only
    rw [hk]
    simp only [ite_true, ite_false]
    have := hz
    omega
  have HEW := Lib.hid hEW
  have HK := Lib.hid hk
  clear hKd hk hEW hmid hkf
  have t1 : decide (0 ≤ rd) = true := decide_eq_true (by omega)
  have t2 : decide (rd < 32) = true := decide_eq_true (by omega)
  have t3 : decide (0 ≤ rs1) = true := decide_eq_true (by omega)
  have t4 : decide (rs1 < 32) = true := decide_eq_true (by omega)
  have t5 : decide (0 ≤ rs2) = true := decide_eq_true (by omega)
  have t6 : decide (rs2 < 32) = true := decide_eq_true (by omega)
  have ix0 : ∀ W, (Instr.index 95 (.agg #[.int .i64 rd, .int .i64 rs1, .int .i64 rs2]) (.int .i64 0)).run Try.prog W = .ok (.int .i64 rd) W := fun _ => by kernel_rfl
  have ix1 : ∀ W, (Instr.index 95 (.agg #[.int .i64 rd, .int .i64 rs1, .int .i64 rs2]) (.int .i64 1)).run Try.prog W = .ok (.int .i64 rs1) W := fun _ => by kernel_rfl
  have ix2 : ∀ W, (Instr.index 95 (.agg #[.int .i64 rd, .int .i64 rs1, .int .i64 rs2]) (.int .i64 2)).run Try.prog W = .ok (.int .i64 rs2) W := fun _ => by kernel_rfl
  have built3 : Try.prog.built 95 [(0, .int .i64 rd), (1, .int .i64 rs1), (2, .int .i64 rs2)] = some #[.int .i64 rd, .int .i64 rs1, .int .i64 rs2] := by kernel_rfl
  go_enter Try.func31, Try.ntmps31
  go_upto_region 1 with (fail)
  go_simp
  refine wp_gen fun wa hq => ?_
  have hI : Blk wa w.heap.size 40 #[.int .i64 op, .int .i64 rd, .int .i64 rs1, .int .i64 rs2, .int .i32 imm] := by rw [hq]; exact Blk.new w _ _
  have hbl : Below w.heap.size w wa := by rw [hq]; exact (Below.refl _ _).alloc (Nat.le_refl _) _
  clear hq
  have d0 : wa.cell? ⟨w.heap.size, 0, none⟩ = some (.int .i64 op) := hI.cell 0
  go_upto_region 2 with (first
    | (go_at_call 52; (with_reducible refine (CO.out _).mono ?_); rintro e w2 ⟨rfl, hb2⟩)
    | (refine wpList_store_all rfl 83 _ _ rfl w2.heap.size K rfl rfl 83 _ (Blk.new w2 _ _) kinf (by rw [ksz]; rfl) kone ?_; intro w3 hKb hg3))
  try go_simp
  have hzI := hI.lt
  have hz2 := hb2.size
  replace hI := ((hI.ext hb2).alloc (.cells #[.int .i64 0, .int .u32 0, .int .u32 0, .int .u32 0] 83)).grown hg3 (fun e => by injection e; omega)
  replace hbl := below_grown ((hbl.trans (hb2.mono hbl.size)).alloc (by have := hbl.size; omega) (.cells #[.int .i64 0, .int .u32 0, .int .u32 0, .int .u32 0] 83)) hg3 (by have := hbl.size; simp; omega) (by have := hbl.size; omega)
  clear d0 hb2 hg3 CO
  have d1 : w3.cell? ⟨w.heap.size, 1, none⟩ = some (.int .i64 rd) := hI.cell 1
  have d2 : w3.cell? ⟨w.heap.size, 2, none⟩ = some (.int .i64 rs1) := hI.cell 2
  have d3 : w3.cell? ⟨w.heap.size, 3, none⟩ = some (.int .i64 rs2) := hI.cell 3
  go_upto_region 3 with (refine wpList_build_to rfl 95 _ rfl [(0, .int .i64 rd), (1, .int .i64 rs1), (2, .int .i64 rs2)] rfl _ built3 ?_)
  try go_simp
  refine wp_loop_rounds 4 ?_
  iterate 3 (rw [rounds_succ]; go_wp2)
  rw [rounds_succ]
  clear ix0 ix1 ix2 built3
  have k0 := hKb.cell 0
  have k1 := hKb.cell 1
  have k2 := hKb.cell 2
  have k3 := hKb.cell 3
  rw [kc0] at k0
  rw [kc1] at k1
  rw [kc2] at k2
  rw [kc3] at k3
  have d4 : w3.cell? ⟨w.heap.size, 4, none⟩ = some (.int .i32 imm) := hI.cell 4
  go_upto_region 10 with (fail)
  try go_simp
  obtain ⟨n, hnn⟩ : ∃ n, n = imm % 4294967296 := ⟨_, rfl⟩
  rw [← hnn] at n0 n1 ⊢
  have Hn := Lib.hid hnn
  clear hnn t1 t2 t3 t4 t5 t6 d4
  go_upto_region 28 with (first | (go_at_call 65; (with_reducible refine (cut_12_12 n _ n0 n1).mono ?_); rintro e wx ⟨rfl, hbx⟩; replace hbl := hbl.trans (hbx.mono hbl.size); replace hI := hI.ext hbx; replace hKb := hKb.ext hbx; clear hbx k3; have k3 := hKb.cell 3; rw [kc3] at k3) | (go_at_call 65; (with_reducible refine (cut_11_11 n _ n0 n1).mono ?_); rintro e wx ⟨rfl, hbx⟩; replace hbl := hbl.trans (hbx.mono hbl.size); replace hI := hI.ext hbx; replace hKb := hKb.ext hbx; clear hbx k3; have k3 := hKb.cell 3; rw [kc3] at k3) | (go_at_call 65; (with_reducible refine (cut_5_10 n _ n0 n1).mono ?_); rintro e wx ⟨rfl, hbx⟩; replace hbl := hbl.trans (hbx.mono hbl.size); replace hI := hI.ext hbx; replace hKb := hKb.ext hbx; clear hbx k3; have k3 := hKb.cell 3; rw [kc3] at k3) | (go_at_call 65; (with_reducible refine (cut_1_4 n _ n0 n1).mono ?_); rintro e wx ⟨rfl, hbx⟩; replace hbl := hbl.trans (hbx.mono hbl.size); replace hI := hI.ext hbx; replace hKb := hKb.ext hbx; clear hbx k3; have k3 := hKb.cell 3; rw [kc3] at k3))
  try go_simp
  clear k0 k1 k2 k3
  obtain ⟨E, hE⟩ : ∃ E, E = (bits .or .u32 (bits .or .u32 (bits .or .u32 (bits .or .u32 (bits .or .u32 low (rd * 128)) (mid * 4096)) (rs1 * 32768)) (rs2 * 1048576)) (bits .or .u32 (bits .or .u32 (bits .or .u32 (cutI n 12 12 * 2147483648 % 4294967296) (cutI n 11 11 * 128 % 4294967296)) (cutI n 5 10 * 33554432 % 4294967296)) (cutI n 1 4 * 256 % 4294967296))) := ⟨_, rfl⟩
  rw [← hE]
  have hEr : 0 ≤ E ∧ E ≤ 4294967295 := by rw [hE]; repeat' (first | exact or_range _ _ | apply or_range | apply andNot_range | omega)
  have HE := Lib.hid (fun h => hE.trans (HEW.out n Hn.out h))
  clear hE HEW Hn n0 n1 hKb kinf kone ksz kc0 kc1 kc2 kc3
  by_cases his : IsP (Ins.mk op rd rs1 rs2 imm) = true
  · have hb := enc_back (Ins.mk op rd rs1 rs2 imm) his i0 i1
    have hew := HE.out his
    have CD : Hid (∀ W, Calls Try.prog 26 #[.int .u32 E] W fun e w' => e = .returned (.tuple #[.agg #[.int .i64 op, .int .i64 rd, .int .i64 rs1, .int .i64 rs2, .int .i32 imm], .bool true]) ∧ Below W.heap.size W w') := Lib.hid (fun W => by
      have := decode_any E W hEr.1 hEr.2
      rw [hew, hb.2.2] at this
      rw [hew]
      exact this)
    have HEE := Lib.hid hew
    have HIS := Lib.hid his
    clear hb hew his HE
    go_wp2_with (first
      | (go_at_call 26; (with_reducible refine (CD.out _).mono ?_); rintro e w4 ⟨rfl, hb4⟩; replace hbl := hbl.trans (hb4.mono hbl.size); replace hI := hI.ext hb4; clear hb4)
      | (refine wpList_store_all rfl 40 _ _ rfl w4.heap.size #[.int .i64 op, .int .i64 rd, .int .i64 rs1, .int .i64 rs2, .int .i32 imm] rfl rfl 40 _ (Blk.new w4 _ _) ins_info rfl ins_one ?_; intro w5 hJ hg5; replace hI := (hI.alloc (.cells #[.int .i64 0, .int .i64 0, .int .i64 0, .int .i64 0, .int .i32 0] 40)).grown hg5 (fun e => by injection e; have := hI.lt; omega); replace hbl := below_grown (hbl.alloc hbl.size (.cells #[.int .i64 0, .int .i64 0, .int .i64 0, .int .i64 0, .int .i32 0] 40)) hg5 (by have := hbl.size; simp; omega) hbl.size)
      | (refine wpList_wanted' rfl fun K hK => ?_; first
        | (refine wp_load_all 40 _ rfl w4.heap.size rfl 40 _ _ hJ Try.underlying40 rfl ins_info ?_; refine hK _ _ ?_)
        | (refine wp_load_all 40 _ rfl w.heap.size rfl 40 _ _ hI Try.underlying40 rfl ins_info ?_; refine hK _ _ ?_)))
    go_ret2
    refine ⟨?_, hbl⟩
    rw [if_pos HIS.out, ← HEE.out]
    rfl
  · have hno : ∀ j, decP E = some j → j ≠ Ins.mk op rd rs1 rs2 imm := fun j hj e => his (by rw [← e]; exact dec_is hj)
    have HIS := Lib.hid his
    clear his HE
    rcases hd : decP E with _ | j
    · have CD : Hid (∀ W, Calls Try.prog 26 #[.int .u32 E] W fun e w' => e = .returned (.tuple #[.agg #[.int .i64 0, .int .i64 0, .int .i64 0, .int .i64 0, .int .i32 0], .bool false]) ∧ Below W.heap.size W w') := Lib.hid (fun W => by
        have := decode_any E W hEr.1 hEr.2
        rw [hd] at this
        exact this)
      clear hd hno
      go_wp2_with (first
        | (go_at_call 26; (with_reducible refine (CD.out _).mono ?_); rintro e w4 ⟨rfl, hb4⟩; replace hbl := hbl.trans (hb4.mono hbl.size); replace hI := hI.ext hb4; clear hb4)
        | (refine wpList_store_all rfl 40 _ _ rfl w4.heap.size #[.int .i64 0, .int .i64 0, .int .i64 0, .int .i64 0, .int .i32 0] rfl rfl 40 _ (Blk.new w4 _ _) ins_info rfl ins_one ?_; intro w5 hJ hg5; replace hI := (hI.alloc (.cells #[.int .i64 0, .int .i64 0, .int .i64 0, .int .i64 0, .int .i32 0] 40)).grown hg5 (fun e => by injection e; have := hI.lt; omega); replace hbl := below_grown (hbl.alloc hbl.size (.cells #[.int .i64 0, .int .i64 0, .int .i64 0, .int .i64 0, .int .i32 0] 40)) hg5 (by have := hbl.size; simp; omega) hbl.size))
      go_ret2
      refine ⟨?_, hbl⟩
      rw [if_neg HIS.out]
      rfl
    · obtain ⟨jo, jd, j1, j2, jm⟩ := j
      have hne := Lib.hid (hno _ hd)
      have CD : Hid (∀ W, Calls Try.prog 26 #[.int .u32 E] W fun e w' => e = .returned (.tuple #[.agg #[.int .i64 jo, .int .i64 jd, .int .i64 j1, .int .i64 j2, .int .i32 jm], .bool true]) ∧ Below W.heap.size W w') := Lib.hid (fun W => by
        have := decode_any E W hEr.1 hEr.2
        rw [hd] at this
        exact this)
      clear hd hno
      go_wp2_with (first
        | (go_at_call 26; (with_reducible refine (CD.out _).mono ?_); rintro e w4 ⟨rfl, hb4⟩; replace hbl := hbl.trans (hb4.mono hbl.size); replace hI := hI.ext hb4; clear hb4)
        | (refine wpList_store_all rfl 40 _ _ rfl w4.heap.size #[.int .i64 jo, .int .i64 jd, .int .i64 j1, .int .i64 j2, .int .i32 jm] rfl rfl 40 _ (Blk.new w4 _ _) ins_info rfl ins_one ?_; intro w5 hJ hg5; replace hI := (hI.alloc (.cells #[.int .i64 0, .int .i64 0, .int .i64 0, .int .i64 0, .int .i32 0] 40)).grown hg5 (fun e => by injection e; have := hI.lt; omega); replace hbl := below_grown (hbl.alloc hbl.size (.cells #[.int .i64 0, .int .i64 0, .int .i64 0, .int .i64 0, .int .i32 0] 40)) hg5 (by have := hbl.size; simp; omega) hbl.size)
        | (refine wpList_wanted' rfl fun K hK => ?_; first
          | (refine wp_load_all 40 _ rfl w4.heap.size rfl 40 _ _ hJ Try.underlying40 rfl ins_info ?_; refine hK _ _ ?_)
          | (refine wp_load_all 40 _ rfl w.heap.size rfl 40 _ _ hI Try.underlying40 rfl ins_info ?_; refine hK _ _ ?_)))
      all_goals
        first
          | (go_ret2
             refine ⟨?_, hbl⟩
             rw [if_neg HIS.out]
             rfl)
          | (exfalso; exact hne.out (by simp_all))
end Go.Proofs.Ytapgojgcmlnbgab
