/- DecodeBack, walked. -/
import Derived.Test.YtapgojgcmlnbgabKDE1366
set_option linter.unusedSimpArgs false
set_option linter.unusedVariables false

namespace Go.Proofs.Ytapgojgcmlnbgab
open Go.RowKit

theorem find_read2 (w : Int) : ∀ (n : Nat) (op : Int) (i : Ins), findP w n op = some i → ∃ op form, i = readP op form w
  | 0, _, _, h => by cases h
  | n + 1, op, i, h => by
    have e : findP w (n + 1) op = match kindP op with
      | some k => if tellsB k w = true then some (readP op k.form w) else findP w n (op + 1)
      | none => findP w n (op + 1) := rfl
    rw [e] at h
    split at h
    · split at h
      · exact ⟨_, _, (Option.some.inj h).symm⟩
      · exact find_read2 w n _ i h
    · exact find_read2 w n _ i h
theorem dec_imm2 {w : Int} {i : Ins} (w0 : 0 ≤ w) (w1 : w ≤ 4294967295) (h : decP w = some i) : -2147483648 ≤ i.imm ∧ i.imm ≤ 2147483647 := by
  obtain ⟨op, form, rfl⟩ := find_read2 w 48 1 i h
  have b1 := cut_hi w 31 31 2 rfl
  have b2 := cut_hi w 12 19 256 rfl
  have b3 := cut_hi w 20 20 2 rfl
  have b4 := cut_hi w 21 30 1024 rfl
  have b5 := cut_hi w 20 31 4096 rfl
  have b6 := cut_hi w 20 24 32 rfl
  have b7 := cut_hi w 7 7 2 rfl
  have b8 := cut_hi w 25 30 64 rfl
  have b9 := cut_hi w 8 11 16 rfl
  have b10 := cut_hi w 25 31 128 rfl
  have b11 := cut_hi w 7 11 32 rfl
  have b12 := cut_hi w 0 11 4096 rfl
  have b13 : cutI w 0 11 ≤ w := by
    have : cutI w 0 11 = w / 1 % 4096 := cut_eq w 0 11 1 4096 rfl rfl
    omega
  unfold readP
  dsimp only
  (repeat' split) <;> (try unfold sgnI) <;> (try split) <;> simp <;> omega

theorem dec19 : decP 19 = some ⟨19, 0, 0, 0, 0⟩ := by decide +kernel
set_option maxRecDepth 100000 in
set_option maxHeartbeats 2000000 in
theorem decodeBack_walk (x : Int) (w : World) (h0 : 0 ≤ x) (h1 : x ≤ 4294967295) :
    Calls Try.prog 9 #[.int .u32 x] w fun e w' => e = .returned (.bool true) ∧ Below w.heap.size w w' := by
  rcases hd : decP x with _ | i
  · have CD : Hid (∀ W, Calls Try.prog 26 #[.int .u32 x] W fun e w' => e = .returned (.tuple #[.agg #[.int .i64 0, .int .i64 0, .int .i64 0, .int .i64 0, .int .i32 0], .bool false]) ∧ Below W.heap.size W w') := Lib.hid (fun W => by
      have := decode_any x W h0 h1
      rw [hd] at this
      exact this)
    have CE : Hid (∀ W, Calls Try.prog 31 #[.agg #[.int .i64 0, .int .i64 0, .int .i64 0, .int .i64 0, .int .i32 0]] W fun e w' => e = .returned (.tuple #[.int .u32 0, .int .i64 2]) ∧ Below W.heap.size W w') := Lib.hid (fun W => enc_bad 0 0 0 0 0 W (by omega))
    clear hd
    have C19 : Hid (∀ W, Calls Try.prog 26 #[.int .u32 19] W fun e w' => e = .returned (.tuple #[.agg #[.int .i64 19, .int .i64 0, .int .i64 0, .int .i64 0, .int .i32 0], .bool true]) ∧ Below W.heap.size W w') := Lib.hid (fun W => by
      have := decode_any 19 W (by omega) (by omega)
      rw [dec19] at this
      exact this)
    go_enter Try.func9, Try.ntmps9
    go_upto_region 2 with (first
      | (go_at_call 26; (with_reducible refine (C19.out _).mono ?_); rintro e w2 ⟨rfl, hbl⟩)
      | (refine wpList_store_all rfl 40 _ _ rfl w2.heap.size #[.int .i64 19, .int .i64 0, .int .i64 0, .int .i64 0, .int .i32 0] rfl rfl 40 _ (Blk.new w2 _ _) ins_info rfl ins_one ?_; intro w3 hJ hg3))
    try go_simp
    replace hbl := below_grown (hbl.alloc hbl.size (.cells #[.int .i64 0, .int .i64 0, .int .i64 0, .int .i64 0, .int .i32 0] 40)) hg3 (by have := hbl.size; simp; omega) hbl.size
    have k19 : w3.cell? ⟨w2.heap.size, 0, none⟩ = some (.int .i64 19) := hJ.cell 0
    clear hg3 hJ
    go_upto_region 4 with (fail)
    try go_simp
    clear k19 C19
    go_wp2_with (first
      | (go_at_call 26; (with_reducible refine (CD.out _).mono ?_); rintro e w4 ⟨rfl, hb2⟩; replace hbl := hbl.trans (hb2.mono hbl.size); clear hb2)
      | (refine wpList_store_all rfl 40 _ _ rfl w4.heap.size #[.int .i64 0, .int .i64 0, .int .i64 0, .int .i64 0, .int .i32 0] rfl rfl 40 _ (Blk.new w4 _ _) ins_info rfl ins_one ?_; intro w5 hI hg5; replace hbl := below_grown (hbl.alloc hbl.size (.cells #[.int .i64 0, .int .i64 0, .int .i64 0, .int .i64 0, .int .i32 0] 40)) hg5 (by have := hbl.size; simp; omega) hbl.size)
      | (refine wpList_load_all rfl 40 _ rfl w4.heap.size rfl 40 _ _ hI Try.underlying40 rfl ins_info ?_)
      | (go_at_call 31; (with_reducible refine (CE.out _).mono ?_); rintro e w6 ⟨rfl, hb2⟩; replace hbl := hbl.trans (hb2.mono hbl.size); replace hI := hI.ext hb2; clear hb2)
      | (refine wpList_wanted' rfl fun K hK => ?_; first
        | (refine wp_load_all 40 _ rfl w4.heap.size rfl 40 _ _ hI Try.underlying40 rfl ins_info ?_; refine hK _ _ ?_)))
    go_ret
    exact ⟨rfl, hbl⟩
  · have his := dec_is hd
    have him := dec_imm2 h0 h1 hd
    obtain ⟨op, rd, rs1, rs2, imm⟩ := i
    have hb := enc_back _ his him.1 him.2
    have CD : Hid (∀ W, Calls Try.prog 26 #[.int .u32 x] W fun e w' => e = .returned (.tuple #[.agg #[.int .i64 op, .int .i64 rd, .int .i64 rs1, .int .i64 rs2, .int .i32 imm], .bool true]) ∧ Below W.heap.size W w') := Lib.hid (fun W => by
      have := decode_any x W h0 h1
      rw [hd] at this
      exact this)
    have CD2 : ∀ W, Calls Try.prog 26 #[.int .u32 (encW (Ins.mk op rd rs1 rs2 imm))] W fun e w' => e = .returned (.tuple #[.agg #[.int .i64 op, .int .i64 rd, .int .i64 rs1, .int .i64 rs2, .int .i32 imm], .bool true]) ∧ Below W.heap.size W w' := fun W => by
      have := decode_any (encW (Ins.mk op rd rs1 rs2 imm)) W hb.1 hb.2.1
      rw [hb.2.2] at this
      exact this
    have CE := fun W => encode_any op rd rs1 rs2 imm W him.1 him.2
    unfold EncPost at CE
    simp only [his, if_true] at CE
    generalize encW (Ins.mk op rd rs1 rs2 imm) = E at *
    have CE := Lib.hid CE
    have CD2 := Lib.hid CD2
    clear his him hb hd
    have C19 : Hid (∀ W, Calls Try.prog 26 #[.int .u32 19] W fun e w' => e = .returned (.tuple #[.agg #[.int .i64 19, .int .i64 0, .int .i64 0, .int .i64 0, .int .i32 0], .bool true]) ∧ Below W.heap.size W w') := Lib.hid (fun W => by
      have := decode_any 19 W (by omega) (by omega)
      rw [dec19] at this
      exact this)
    go_enter Try.func9, Try.ntmps9
    go_upto_region 2 with (first
      | (go_at_call 26; (with_reducible refine (C19.out _).mono ?_); rintro e w2 ⟨rfl, hbl⟩)
      | (refine wpList_store_all rfl 40 _ _ rfl w2.heap.size #[.int .i64 19, .int .i64 0, .int .i64 0, .int .i64 0, .int .i32 0] rfl rfl 40 _ (Blk.new w2 _ _) ins_info rfl ins_one ?_; intro w3 hJ hg3))
    try go_simp
    replace hbl := below_grown (hbl.alloc hbl.size (.cells #[.int .i64 0, .int .i64 0, .int .i64 0, .int .i64 0, .int .i32 0] 40)) hg3 (by have := hbl.size; simp; omega) hbl.size
    have k19 : w3.cell? ⟨w2.heap.size, 0, none⟩ = some (.int .i64 19) := hJ.cell 0
    clear hg3 hJ
    go_upto_region 4 with (fail)
    try go_simp
    clear k19 C19
    go_wp2_with (first
      | (go_at_call 26; (with_reducible refine (CD.out _).mono ?_); rintro e w4 ⟨rfl, hb2⟩; replace hbl := hbl.trans (hb2.mono hbl.size); clear hb2)
      | (go_at_call 26; (with_reducible refine (CD2.out _).mono ?_); rintro e w7 ⟨rfl, hb2⟩; replace hbl := hbl.trans (hb2.mono hbl.size); replace hI := hI.ext hb2; clear hb2)
      | (refine wpList_store_all rfl 40 _ _ rfl w4.heap.size #[.int .i64 op, .int .i64 rd, .int .i64 rs1, .int .i64 rs2, .int .i32 imm] rfl rfl 40 _ (Blk.new w4 _ _) ins_info rfl ins_one ?_; intro w5 hI hg5; replace hbl := below_grown (hbl.alloc hbl.size (.cells #[.int .i64 0, .int .i64 0, .int .i64 0, .int .i64 0, .int .i32 0] 40)) hg5 (by have := hbl.size; simp; omega) hbl.size)
      | (refine wpList_store_all rfl 40 _ _ rfl w7.heap.size #[.int .i64 op, .int .i64 rd, .int .i64 rs1, .int .i64 rs2, .int .i32 imm] rfl rfl 40 _ (Blk.new w7 _ _) ins_info rfl ins_one ?_; intro w8 hJ hg8; replace hI := (hI.alloc (.cells #[.int .i64 0, .int .i64 0, .int .i64 0, .int .i64 0, .int .i32 0] 40)).grown hg8 (fun e => by injection e; have := hI.lt; omega); replace hbl := below_grown (hbl.alloc hbl.size (.cells #[.int .i64 0, .int .i64 0, .int .i64 0, .int .i64 0, .int .i32 0] 40)) hg8 (by have := hbl.size; simp; omega) hbl.size)
      | (refine wpList_load_all rfl 40 _ rfl w4.heap.size rfl 40 _ _ hI Try.underlying40 rfl ins_info ?_)
      | (go_at_call 31; (with_reducible refine (CE.out _).mono ?_); rintro e w6 ⟨rfl, hb2⟩; replace hbl := hbl.trans (hb2.mono hbl.size); replace hI := hI.ext hb2; clear hb2)
      | (refine wpList_wanted' rfl fun K hK => ?_; first
        | (refine wp_load_all 40 _ rfl w7.heap.size rfl 40 _ _ hJ Try.underlying40 rfl ins_info ?_; refine hK _ _ ?_)
        | (refine wp_load_all 40 _ rfl w4.heap.size rfl 40 _ _ hI Try.underlying40 rfl ins_info ?_; refine hK _ _ ?_)))
    go_ret
    exact ⟨rfl, hbl⟩
end Go.Proofs.Ytapgojgcmlnbgab
