/- decode.Encode, of whatever instruction. -/
import Derived.Test.YtapgojgcmlnbgabKDE1358
import Derived.Test.YtapgojgcmlnbgabKDE1359
import Derived.Test.YtapgojgcmlnbgabKDE1360
import Derived.Test.YtapgojgcmlnbgabKDE1361
import Derived.Test.YtapgojgcmlnbgabKDE1362
import Derived.Test.YtapgojgcmlnbgabKDE1363
import Derived.Test.YtapgojgcmlnbgabKDE1364
import Derived.Test.YtapgojgcmlnbgabKDE1365
import Derived.Test.YtapgojgcmlnbgabKHS915
import Derived.Test.YtapgojgcmlnbgabKHS902
import Derived.Test.YtapgojgcmlnbgabKHS930
import Derived.Test.YtapgojgcmlnbgabKHS900
import Derived.Test.YtapgojgcmlnbgabProg
import Derived.ProofKit
import Derived.OpenShut
import Derived.SizedLaws
set_option linter.unusedSimpArgs false
set_option linter.unusedVariables false

namespace Go.Proofs.Ytapgojgcmlnbgab
open Go.RowKit

def kindMidB (op : Int) : Bool :=
  match kindP op with
  | some k => decide (k.form = 0 ∨ k.form = 1 ∨ k.form = 7 → k.middle = 0)
  | none => false
theorem kindMid_all : ∀ n : Nat, n < 48 → kindMidB ((n : Int) + 1) = true := by decide +kernel
theorem kind_mid {op : Int} {k : Kind} (hk : kindP op = some k) : k.form = 0 ∨ k.form = 1 ∨ k.form = 7 → k.middle = 0 := by
  obtain ⟨h0, h1⟩ := kindP_range hk
  have h := kindMid_all (op - 1).toNat (by omega)
  rw [show (((op - 1).toNat : Int) + 1) = op by omega] at h
  unfold kindMidB at h
  rw [hk] at h
  exact of_decide_eq_true h
theorem encode_any (op rd rs1 rs2 imm : Int) (w : World) (i0 : -2147483648 ≤ imm) (i1 : imm ≤ 2147483647) :
    Calls Try.prog 31 #[.agg #[.int .i64 op, .int .i64 rd, .int .i64 rs1, .int .i64 rs2, .int .i32 imm]] w (EncPost w op rd rs1 rs2 imm) := by
  by_cases hr : 1 ≤ op ∧ op ≤ 48 ∧ 0 ≤ rd ∧ rd ≤ 31 ∧ 0 ≤ rs1 ∧ rs1 ≤ 31 ∧ 0 ≤ rs2 ∧ rs2 ≤ 31
  · obtain ⟨o0, o1, r0, r1, s0, s1, q0, q1⟩ := hr
    obtain ⟨k, hk, l0, l1, m0, m1, u0, u1, hf, _⟩ := kind_ok op o0 o1
    have hm := kind_mid hk
    have hb := formOf_bd op
    obtain ⟨f, low, mid, up⟩ := k
    dsimp only at l0 l1 m0 m1 u0 u1 hf hm
    rw [← hf] at hb
    obtain rfl | rfl | rfl | rfl | rfl | rfl | rfl | rfl : f = 0 ∨ f = 1 ∨ f = 2 ∨ f = 3 ∨ f = 4 ∨ f = 5 ∨ f = 6 ∨ f = 7 := by omega
    · exact enc_form0 op rd rs1 rs2 imm low mid up w hk l0 l1 m0 m1 u0 u1 ⟨trivial, hm (by omega)⟩ r0 r1 s0 s1 q0 q1 i0 i1
    · exact enc_form1 op rd rs1 rs2 imm low mid up w hk l0 l1 m0 m1 u0 u1 ⟨trivial, hm (by omega)⟩ r0 r1 s0 s1 q0 q1 i0 i1
    · exact enc_form2 op rd rs1 rs2 imm low mid up w hk l0 l1 m0 m1 u0 u1 trivial r0 r1 s0 s1 q0 q1 i0 i1
    · exact enc_form3 op rd rs1 rs2 imm low mid up w hk l0 l1 m0 m1 u0 u1 trivial r0 r1 s0 s1 q0 q1 i0 i1
    · exact enc_form4 op rd rs1 rs2 imm low mid up w hk l0 l1 m0 m1 u0 u1 trivial r0 r1 s0 s1 q0 q1 i0 i1
    · exact enc_form5 op rd rs1 rs2 imm low mid up w hk l0 l1 m0 m1 u0 u1 trivial r0 r1 s0 s1 q0 q1 i0 i1
    · exact enc_form6 op rd rs1 rs2 imm low mid up w hk l0 l1 m0 m1 u0 u1 trivial r0 r1 s0 s1 q0 q1 i0 i1
    · exact enc_form7 op rd rs1 rs2 imm low mid up w hk l0 l1 m0 m1 u0 u1 ⟨trivial, hm (by omega)⟩ r0 r1 s0 s1 q0 q1 i0 i1
  · have hX : ¬ IsP (Ins.mk op rd rs1 rs2 imm) = true := by
      unfold IsP
      dsimp only
      rw [if_neg hr]
      simp
    refine (enc_bad op rd rs1 rs2 imm w (by omega)).mono ?_
    rintro e w' ⟨rfl, hb⟩
    exact ⟨by rw [if_neg hX], hb⟩
end Go.Proofs.Ytapgojgcmlnbgab

/- humpyardref2.Is. -/
namespace Go.Proofs.Ytapgojgcmlnbgab
open Go.RowKit

theorem within_any (lo hi n : Int) (g : Nat) (w : World) (hg : w.cell? ⟨g, 0, none⟩ = some (.int .i64 n)) :
    Calls Try.prog 66 #[.int .i64 lo, .int .i64 hi, .pointer (some ⟨g, 0, none⟩)] w fun e w' => e = .returned (.bool (decide (lo ≤ n) && decide (n ≤ hi))) ∧ w = w' := by
  rcases h1 : decide (lo ≤ n) with _ | _
  all_goals
    go_enter Try.func66, Try.ntmps66
    go_wp2
    go_ret
    exact ⟨by simp, rfl⟩
theorem tmod_zero (x k : Int) (hk : 0 < k) : x.tmod k = 0 ↔ x % k = 0 := by
  rcases Int.le_total 0 x with h | h
  · rw [Int.tmod_eq_emod_of_nonneg h]
  · have e : x.tmod k = -((-x) % k) := by
      rw [← Int.tmod_eq_emod_of_nonneg (show 0 ≤ -x by omega), Int.neg_tmod, Int.neg_neg]
    rw [e]
    constructor
    · intro h2
      have : (-x) % k = 0 := by omega
      exact Int.emod_eq_zero_of_dvd (Int.dvd_neg.1 (Int.dvd_of_emod_eq_zero this))
    · intro h2
      have : (-x) % k = 0 := Int.emod_eq_zero_of_dvd (Int.dvd_neg.2 (Int.dvd_of_emod_eq_zero h2))
      omega
set_option maxRecDepth 100000 in
set_option maxHeartbeats 4000000 in
theorem is_out (op rd rs1 rs2 imm : Int) (w : World) (hr : ¬ (1 ≤ op ∧ op ≤ 48 ∧ 0 ≤ rd ∧ rd ≤ 31 ∧ 0 ≤ rs1 ∧ rs1 ≤ 31 ∧ 0 ≤ rs2 ∧ rs2 ≤ 31)) :
    Calls Try.prog 32 #[.agg #[.int .i64 op, .int .i64 rd, .int .i64 rs1, .int .i64 rs2, .int .i32 imm]] w fun e w' => e = .returned (.bool (IsP (Ins.mk op rd rs1 rs2 imm))) ∧ Below w.heap.size w w' := by
  have hX : IsP (Ins.mk op rd rs1 rs2 imm) = false := by
    unfold IsP
    dsimp only
    rw [if_neg hr]
  rw [hX]
  clear hX
  rcases (by simp only [decide_eq_true_eq, decide_eq_false_iff_not]; omega : (decide (op < 1) = true) ∨ (decide (op < 1) = false ∧ decide (48 < op) = true) ∨ (decide (op < 1) = false ∧ decide (48 < op) = false ∧ decide (rd < 0) = true) ∨ (decide (op < 1) = false ∧ decide (48 < op) = false ∧ decide (rd < 0) = false ∧ decide (31 < rd) = true) ∨
      (decide (op < 1) = false ∧ decide (48 < op) = false ∧ decide (rd < 0) = false ∧ decide (31 < rd) = false ∧ decide (rs1 < 0) = true) ∨ (decide (op < 1) = false ∧ decide (48 < op) = false ∧ decide (rd < 0) = false ∧ decide (31 < rd) = false ∧ decide (rs1 < 0) = false ∧ decide (31 < rs1) = true) ∨
      (decide (op < 1) = false ∧ decide (48 < op) = false ∧ decide (rd < 0) = false ∧ decide (31 < rd) = false ∧ decide (rs1 < 0) = false ∧ decide (31 < rs1) = false ∧ decide (rs2 < 0) = true) ∨ (decide (op < 1) = false ∧ decide (48 < op) = false ∧ decide (rd < 0) = false ∧ decide (31 < rd) = false ∧ decide (rs1 < 0) = false ∧ decide (31 < rs1) = false ∧ decide (rs2 < 0) = false ∧ decide (31 < rs2) = true))
    with t1 | ⟨t1, t2⟩ | ⟨t1, t2, t3⟩ | ⟨t1, t2, t3, t4⟩ | ⟨t1, t2, t3, t4, t5⟩ | ⟨t1, t2, t3, t4, t5, t6⟩ | ⟨t1, t2, t3, t4, t5, t6, t7⟩ | ⟨t1, t2, t3, t4, t5, t6, t7, t8⟩
  all_goals
    clear hr
    go_enter Try.func32, Try.ntmps32
    go_upto_region 1 with (fail)
    go_simp
    refine wp_gen fun wa hq => ?_
    have hI : Blk wa w.heap.size 40 #[.int .i64 op, .int .i64 rd, .int .i64 rs1, .int .i64 rs2, .int .i32 imm] := by rw [hq]; exact Blk.new w _ _
    have hbl : Below w.heap.size w wa := by rw [hq]; exact (Below.refl _ _).alloc (Nat.le_refl _) _
    clear hq
    have d0 : wa.cell? ⟨w.heap.size, 0, none⟩ = some (.int .i64 op) := hI.cell 0
    have d1 : wa.cell? ⟨w.heap.size, 1, none⟩ = some (.int .i64 rd) := hI.cell 1
    have d2 : wa.cell? ⟨w.heap.size, 2, none⟩ = some (.int .i64 rs1) := hI.cell 2
    have d3 : wa.cell? ⟨w.heap.size, 3, none⟩ = some (.int .i64 rs2) := hI.cell 3
    have d4 : wa.cell? ⟨w.heap.size, 4, none⟩ = some (.int .i32 imm) := hI.cell 4
    go_wp2
    go_ret
    exact ⟨rfl, hbl⟩
set_option maxRecDepth 100000 in
set_option maxHeartbeats 8000000 in
theorem is_in (op rd rs1 rs2 imm : Int) (w : World) (hr : 1 ≤ op ∧ op ≤ 48 ∧ 0 ≤ rd ∧ rd ≤ 31 ∧ 0 ≤ rs1 ∧ rs1 ≤ 31 ∧ 0 ≤ rs2 ∧ rs2 ≤ 31) (i0 : -2147483648 ≤ imm) (i1 : imm ≤ 2147483647) :
    Calls Try.prog 32 #[.agg #[.int .i64 op, .int .i64 rd, .int .i64 rs1, .int .i64 rs2, .int .i32 imm]] w fun e w' => e = .returned (.bool (IsP (Ins.mk op rd rs1 rs2 imm))) ∧ Below w.heap.size w w' := by
  obtain ⟨X, hX⟩ : ∃ X, IsP (Ins.mk op rd rs1 rs2 imm) = X := ⟨_, rfl⟩
  rw [hX]
  unfold IsP at hX
  dsimp only at hX
  rw [if_pos hr] at hX
  have hz1 := tmod_zero imm 4096 (by omega)
  have hz2 := tmod_zero imm 2 (by omega)
  have HX := Lib.hid hX
  have HZ := Lib.hid (And.intro hz1 hz2)
  clear hX hz1 hz2
  have t1 : decide (op < 1) = false := decide_eq_false (by omega)
  have t2 : decide (48 < op) = false := decide_eq_false (by omega)
  have t3 : decide (rd < 0) = false := decide_eq_false (by omega)
  have t4 : decide (31 < rd) = false := decide_eq_false (by omega)
  have t5 : decide (rs1 < 0) = false := decide_eq_false (by omega)
  have t6 : decide (31 < rs1) = false := decide_eq_false (by omega)
  have t7 : decide (rs2 < 0) = false := decide_eq_false (by omega)
  have t8 : decide (31 < rs2) = false := decide_eq_false (by omega)
  have HR := Lib.hid hr
  clear hr
  go_enter Try.func32, Try.ntmps32
  go_upto_region 1 with (fail)
  go_simp
  refine wp_gen fun wa hq => ?_
  have hI : Blk wa w.heap.size 40 #[.int .i64 op, .int .i64 rd, .int .i64 rs1, .int .i64 rs2, .int .i32 imm] := by rw [hq]; exact Blk.new w _ _
  have hbl : Below w.heap.size w wa := by rw [hq]; exact (Below.refl _ _).alloc (Nat.le_refl _) _
  clear hq
  have d0 : wa.cell? ⟨w.heap.size, 0, none⟩ = some (.int .i64 op) := hI.cell 0
  have d1 : wa.cell? ⟨w.heap.size, 1, none⟩ = some (.int .i64 rd) := hI.cell 1
  have d2 : wa.cell? ⟨w.heap.size, 2, none⟩ = some (.int .i64 rs1) := hI.cell 2
  have d3 : wa.cell? ⟨w.heap.size, 3, none⟩ = some (.int .i64 rs2) := hI.cell 3
  have d4 : wa.cell? ⟨w.heap.size, 4, none⟩ = some (.int .i32 imm) := hI.cell 4
  go_upto_region 4 with (fail)
  try go_simp
  clear t1 t2 t3 t4 t5 t6 t7 t8 d0 d1 d2 d3 d4
  refine wp_gen fun wb hq => ?_
  have hb9 : Below w.heap.size w wb := by rw [hq]; exact hbl.alloc hbl.size _
  have d0 : wb.cell? ⟨w.heap.size, 0, none⟩ = some (.int .i64 op) := by rw [hq]; exact (hI.alloc _).cell 0
  have d1 : wb.cell? ⟨w.heap.size, 1, none⟩ = some (.int .i64 rd) := by rw [hq]; exact (hI.alloc _).cell 1
  have d2 : wb.cell? ⟨w.heap.size, 2, none⟩ = some (.int .i64 rs1) := by rw [hq]; exact (hI.alloc _).cell 2
  have d3 : wb.cell? ⟨w.heap.size, 3, none⟩ = some (.int .i64 rs2) := by rw [hq]; exact (hI.alloc _).cell 3
  have hn : wb.cell? ⟨wa.heap.size, 0, none⟩ = some (.int .i64 imm) := by rw [hq]; exact (Blk.new wa 2 #[.int .i64 imm]).cell 0
  clear hq hI hbl
  go_wp2_with (go_at_call 66; (with_reducible refine (within_any _ _ imm wa.heap.size _ hn).mono ?_); rintro e w4 ⟨rfl, rfl⟩)
  all_goals
    go_ret
    refine ⟨ret_bool ?_, hb9⟩
    have hX := HX.out
    have hZ := HZ.out
    have hR := HR.out
    clear HX HZ HR hn d0 d1 d2 d3
    rw [← hX, Bool.eq_iff_iff]
    simp only [Bool.and_eq_true, Bool.or_eq_true, decide_eq_true_eq, decide_eq_false_iff_not, beq_iff_eq, beq_eq_false_iff_ne, ne_eq, Bool.not_eq_true', Bool.false_eq_true, Bool.and_eq_false_imp] at *
    (repeat' split) <;> simp only [decide_eq_true_eq] <;> (try simp) <;> omega
end Go.Proofs.Ytapgojgcmlnbgab

/- DecodeEncodes, walked. -/
namespace Go.Proofs.Ytapgojgcmlnbgab
open Go.RowKit

theorem is_any (op rd rs1 rs2 imm : Int) (w : World) (i0 : -2147483648 ≤ imm) (i1 : imm ≤ 2147483647) :
    Calls Try.prog 32 #[.agg #[.int .i64 op, .int .i64 rd, .int .i64 rs1, .int .i64 rs2, .int .i32 imm]] w fun e w' => e = .returned (.bool (IsP (Ins.mk op rd rs1 rs2 imm))) ∧ Below w.heap.size w w' := by
  by_cases hr : 1 ≤ op ∧ op ≤ 48 ∧ 0 ≤ rd ∧ rd ≤ 31 ∧ 0 ≤ rs1 ∧ rs1 ≤ 31 ∧ 0 ≤ rs2 ∧ rs2 ≤ 31
  · exact is_in op rd rs1 rs2 imm w hr i0 i1
  · exact is_out op rd rs1 rs2 imm w hr
set_option maxRecDepth 100000 in
set_option maxHeartbeats 2000000 in
theorem decodeEncodes_walk (op rd rs1 rs2 imm : Int) (w : World) (i0 : -2147483648 ≤ imm) (i1 : imm ≤ 2147483647) :
    Calls Try.prog 8 #[.agg #[.int .i64 op, .int .i64 rd, .int .i64 rs1, .int .i64 rs2, .int .i32 imm]] w fun e w' => e = .returned (.bool true) ∧ Below w.heap.size w w' := by
  have CE := fun W => encode_any op rd rs1 rs2 imm W i0 i1
  have CI := fun W => is_any op rd rs1 rs2 imm W i0 i1
  unfold EncPost at CE
  by_cases his : IsP (Ins.mk op rd rs1 rs2 imm) = true
  · have hb := enc_back (Ins.mk op rd rs1 rs2 imm) his i0 i1
    simp only [his, if_true] at CE CI
    have CD : ∀ W, Calls Try.prog 27 #[.int .u32 (encW (Ins.mk op rd rs1 rs2 imm))] W fun e w' => e = .returned (.tuple #[.agg #[.int .i64 op, .int .i64 rd, .int .i64 rs1, .int .i64 rs2, .int .i32 imm], .bool true]) ∧ Below W.heap.size W w' := fun W => by
      have := rdec_any (encW (Ins.mk op rd rs1 rs2 imm)) W hb.1 hb.2.1
      rw [hb.2.2] at this
      exact this
    generalize encW (Ins.mk op rd rs1 rs2 imm) = E at *
    have CE := Lib.hid CE
    have CI := Lib.hid CI
    have CD := Lib.hid CD
    clear his hb
    go_enter Try.func8, Try.ntmps8
    go_upto_region 1 with (fail)
    go_simp
    refine wp_gen fun wa hq => ?_
    have hI : Blk wa w.heap.size 40 #[.int .i64 op, .int .i64 rd, .int .i64 rs1, .int .i64 rs2, .int .i32 imm] := by rw [hq]; exact Blk.new w _ _
    have hbl : Below w.heap.size w wa := by rw [hq]; exact (Below.refl _ _).alloc (Nat.le_refl _) _
    clear hq
    go_wp2_with (first
      | (refine wpList_load_all rfl 40 _ rfl w.heap.size rfl 40 _ _ hI Try.underlying40 rfl ins_info ?_)
      | (go_at_call 31; (with_reducible refine (CE.out _).mono ?_); rintro e w2 ⟨rfl, hb2⟩; replace hbl := hbl.trans (hb2.mono hbl.size); replace hI := hI.ext hb2; clear hb2)
      | (go_at_call 32; (with_reducible refine (CI.out _).mono ?_); rintro e w3 ⟨rfl, hb2⟩; replace hbl := hbl.trans (hb2.mono hbl.size); replace hI := hI.ext hb2; clear hb2)
      | (go_at_call 27; (with_reducible refine (CD.out _).mono ?_); rintro e w4 ⟨rfl, hb2⟩; replace hbl := hbl.trans (hb2.mono hbl.size); replace hI := hI.ext hb2; clear hb2)
      | (refine wpList_store_all rfl 40 _ _ rfl w4.heap.size #[.int .i64 op, .int .i64 rd, .int .i64 rs1, .int .i64 rs2, .int .i32 imm] rfl rfl 40 _ (Blk.new w4 _ _) ins_info rfl ins_one ?_; intro w5 hJ hg5; replace hI := (hI.alloc (.cells #[.int .i64 0, .int .i64 0, .int .i64 0, .int .i64 0, .int .i32 0] 40)).grown hg5 (fun e => by injection e; have := hI.lt; omega); replace hbl := below_grown (hbl.alloc hbl.size (.cells #[.int .i64 0, .int .i64 0, .int .i64 0, .int .i64 0, .int .i32 0] 40)) hg5 (by have := hbl.size; simp; omega) hbl.size)
      | (refine wpList_wanted' rfl fun K hK => ?_; first
        | (refine wp_load_all 40 _ rfl w4.heap.size rfl 40 _ _ hJ Try.underlying40 rfl ins_info ?_; refine hK _ _ ?_)
        | (refine wp_load_all 40 _ rfl w.heap.size rfl 40 _ _ hI Try.underlying40 rfl ins_info ?_; refine hK _ _ ?_)))
    go_ret
    exact ⟨rfl, hbl⟩
  · have hisf : IsP (Ins.mk op rd rs1 rs2 imm) = false := by simpa using his
    simp only [hisf, Bool.false_eq_true, if_false] at CE CI
    have CE := Lib.hid CE
    have CI := Lib.hid CI
    clear his hisf
    go_enter Try.func8, Try.ntmps8
    go_upto_region 1 with (fail)
    go_simp
    refine wp_gen fun wa hq => ?_
    have hI : Blk wa w.heap.size 40 #[.int .i64 op, .int .i64 rd, .int .i64 rs1, .int .i64 rs2, .int .i32 imm] := by rw [hq]; exact Blk.new w _ _
    have hbl : Below w.heap.size w wa := by rw [hq]; exact (Below.refl _ _).alloc (Nat.le_refl _) _
    clear hq
    go_wp2_with (first
      | (refine wpList_load_all rfl 40 _ rfl w.heap.size rfl 40 _ _ hI Try.underlying40 rfl ins_info ?_)
      | (go_at_call 31; (with_reducible refine (CE.out _).mono ?_); rintro e w2 ⟨rfl, hb2⟩; replace hbl := hbl.trans (hb2.mono hbl.size); replace hI := hI.ext hb2; clear hb2)
      | (go_at_call 32; (with_reducible refine (CI.out _).mono ?_); rintro e w3 ⟨rfl, hb2⟩; replace hbl := hbl.trans (hb2.mono hbl.size); clear hb2))
    go_ret
    exact ⟨rfl, hbl⟩
end Go.Proofs.Ytapgojgcmlnbgab

/- How an instruction reads, handed over by value. -/
namespace Go.Proofs.Ytapgojgcmlnbgab
open Go.ChangeShapes Go.WideShapes Go.RowKit

theorem okWide_ins {P : Program} {w : World} {base : Nat} {t : TypeId} {fs : Array Field} {r : Reach} {v : Value} (he : P.underlying t = some (.struct fs)) (h : Value.okWide P w r base t v) : ∃ cs, v = .agg cs := by
  unfold Value.okWide at h
  rw [he] at h
  obtain ⟨cs, hv, _⟩ := h
  exact ⟨cs, hv⟩
def insKinds : List (Option IntKind) := [some .i64, some .i64, some .i64, some .i64, some .i32]
theorem fits_ins {cs : Array Value} (h : Fits insKinds cs.toList) : ∃ op rd rs1 rs2 imm : Int, -2147483648 ≤ imm ∧ imm ≤ 2147483647 ∧ cs = #[.int .i64 op, .int .i64 rd, .int .i64 rs1, .int .i64 rs2, .int .i32 imm] := by
  have hl := h.length
  obtain ⟨a, b, c, d, e, hc⟩ : ∃ a b c d e, cs.toList = [a, b, c, d, e] := by
    match hq : cs.toList, hl with
    | [a, b, c, d, e], _ => exact ⟨a, b, c, d, e, rfl⟩
  rw [hc] at h
  obtain ⟨⟨op, rfl, _⟩, ⟨rd, rfl, _⟩, ⟨r1, rfl, _⟩, ⟨r2, rfl, _⟩, ⟨im, rfl, hw⟩, _⟩ := h
  simp only [Lit.wf, Bool.and_eq_true, decide_eq_true_eq] at hw
  exact ⟨op, rd, r1, r2, im, hw.1, hw.2, by apply Array.toList_inj.1; rw [hc]⟩
section
variable {H : Type} {enc : TypeId × Value → H} {w : World} {base : Nat} {spare : Nat → Bool} {held : Bool}
theorem open_ins {fuel : Nat} {cs : Array Value} {x : DataW H × List MemPlace} (h : DataW.trod enc Try.prog w base spare held fuel 40 (Value.agg cs).cells.toList = some x) : ∃ op rd rs1 rs2 imm : Int, -2147483648 ≤ imm ∧ imm ≤ 2147483647 ∧ cs = #[.int .i64 op, .int .i64 rd, .int .i64 rs1, .int .i64 rs2, .int .i32 imm] :=
  fits_ins (trod_fits 20 40 insKinds fuel _ _ (by kernel_rfl) h)
end
end Go.Proofs.Ytapgojgcmlnbgab
