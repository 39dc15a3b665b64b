/- The walk of decode.Decode. -/
import Derived.Test.YtapgojgcmlnbgabDecode4
namespace Go.Proofs.Ytapgojgcmlnbgab
open Go.RowKit

theorem read_any (op form x : Int) (w : World) (hf : 0 ≤ form) (hf' : form ≤ 7) (h0 : 0 ≤ x) (h1 : x ≤ 4294967295) :
    Calls Try.prog 54 #[.int .i64 op, .int .i64 form, .int .u32 x] w fun e w' => e = .returned (.agg (readP op form x).cells) ∧ Below w.heap.size w w' := by
  obtain rfl | rfl | rfl | rfl | rfl | rfl | rfl | rfl : form = 0 ∨ form = 1 ∨ form = 2 ∨ form = 3 ∨ form = 4 ∨ form = 5 ∨ form = 6 ∨ form = 7 := by omega
  · exact read_0 op x w h0 h1
  · exact read_1 op x w h0 h1
  · exact read_2 op x w h0 h1
  · exact read_3 op x w h0 h1
  · exact read_4 op x w h0 h1
  · exact read_5 op x w h0 h1
  · exact read_6 op x w h0 h1
  · exact read_7 op x w h0 h1
theorem formOf_bd (op : Int) : 0 ≤ formOf op ∧ formOf op ≤ 7 := by unfold formOf; (repeat' split) <;> omega
def insZ : Ins := ⟨0, 0, 0, 0, 0⟩
theorem kind_info {a b c d : Value} : (Try.prog.info? 83).map (·.size) = some (#[a, b, c, d] : Array Value).size := by kernel_rfl
theorem kind_one {a b c d : Int} : (#[.int .i64 a, .int .u32 b, .int .u32 c, .int .u32 d] : Array Value).all (·.oneCell') = true := by kernel_rfl
theorem built_ins0 : Try.prog.built 40 [] = some #[.int .i64 0, .int .i64 0, .int .i64 0, .int .i64 0, .int .i32 0] := by kernel_rfl
set_option maxRecDepth 100000 in
set_option maxHeartbeats 1000000 in
theorem decode_any (x : Int) (w : World) (h0 : 0 ≤ x) (h1 : x ≤ 4294967295) :
    Calls Try.prog 26 #[.int .u32 x] w fun e w' => e = .returned (.tuple #[.agg ((decP x).getD insZ).cells, .bool (decP x).isSome]) ∧ Below w.heap.size w w' := by
  generalize hX : decP x = X
  have HX : Hid (findP x 48 1 = X) := Lib.hid hX
  clear hX
  go_enter Try.func26, Try.ntmps26
  go_wp2_with (fail)
  go_loopw [4] (fun v wr => ∃ n : Nat, v = .int .i64 ((n : Int) + 1) ∧ n ≤ 48 ∧ Below w.heap.size w wr ∧ Blk wr w.heap.size 40 insZ.cells ∧ Hid (findP x (48 - n) ((n : Int) + 1) = X)) (fun v _ => 50 - (intOf v).toNat)
  case atStart => exact ⟨0, rfl, by omega, (Below.refl _ _).alloc (Nat.le_refl _) _, Blk.new w _ _, HX⟩
  case round =>
    obtain ⟨n, rfl, hn, hb, hR, HR⟩ := hrel
    by_cases hlt : n < 48
    · obtain ⟨k, hk, l0, l1, m0, m1, u0, u1, hf, _⟩ := kind_ok ((n : Int) + 1) (by omega) (by omega)
      have hstep : findP x (48 - n) ((n : Int) + 1) = if tellsB k x = true then some (readP ((n : Int) + 1) k.form x) else findP x (48 - (n + 1)) ((n : Int) + 1 + 1) := by
        rw [show 48 - n = (48 - (n + 1)) + 1 by omega]
        show (match kindP ((n : Int) + 1) with | some k => _ | none => _) = _
        rw [hk]
      have CO := Lib.hid (fun W => dof_any ((n : Int) + 1) k hk W)
      have CT := Lib.hid (fun W => tells_any k x W h0 h1 l0 l1 u0 u1)
      have CR := Lib.hid (fun W => read_any ((n : Int) + 1) k.form x W (by rw [hf]; exact (formOf_bd _).1) (by rw [hf]; exact (formOf_bd _).2) h0 h1)
      obtain ⟨form, low, mid, up⟩ := k
      clear hk l0 l1 m0 m1 u0 u1 hf
      rcases ht : tellsB ⟨form, low, mid, up⟩ x with _ | _
      · rw [ht] at hstep CT
        have HR2 : Hid (findP x (48 - (n + 1)) (((n + 1 : Nat) : Int) + 1) = X) := by
          have h := HR.out
          rw [hstep, if_neg (by decide)] at h
          exact Lib.hid (by simpa using h)
        clear HR hstep ht CR
        go_wp2_with (first
          | (go_at_call 52; (with_reducible refine (CO.out _).mono ?_); rintro e w1 ⟨rfl, hb1⟩; replace hR := (hR.ext hb1).alloc (.cells #[.int .i64 form, .int .u32 low, .int .u32 mid, .int .u32 up] 83); replace hb := (hb.trans (hb1.mono hb.size)).alloc (Nat.le_trans hb.size hb1.size) (.cells #[.int .i64 form, .int .u32 low, .int .u32 mid, .int .u32 up] 83); clear hb1)
          | (go_at_call 53; (with_reducible refine (CT.out _).mono ?_); rintro e w2 ⟨rfl, hb2⟩; replace hR := hR.ext hb2; replace hb := hb.trans (hb2.mono hb.size); clear hb2))
        go_roundw
        case rel => exact ⟨n + 1, by go_num, by omega, hb, hR, HR2⟩
        case measure => simp [intOf]; omega
      · rw [ht] at hstep CT
        have hX : X = some (readP ((n : Int) + 1) form x) := by
          have h := HR.out
          rw [hstep, if_pos rfl] at h
          exact h.symm
        dsimp only at CR
        generalize readP ((n : Int) + 1) form x = i at CR hX
        subst hX
        clear HR hstep ht
        go_upto_region 5 with (go_at_call 52; (with_reducible refine (CO.out _).mono ?_); rintro e w1 ⟨rfl, hb1⟩; replace hR := (hR.ext hb1).alloc (.cells #[.int .i64 form, .int .u32 low, .int .u32 mid, .int .u32 up] 83); replace hb := (hb.trans (hb1.mono hb.size)).alloc (Nat.le_trans hb.size hb1.size) (.cells #[.int .i64 form, .int .u32 low, .int .u32 mid, .int .u32 up] 83); clear hb1)
        have hK := Blk.new w1 83 #[.int .i64 form, .int .u32 low, .int .u32 mid, .int .u32 up]
        go_upto_region 6 with (go_at_call 53; (with_reducible refine (CT.out _).mono ?_); rintro e w2 ⟨rfl, hb2⟩; replace hR := hR.ext hb2; replace hb := hb.trans (hb2.mono hb.size); replace hK := hK.ext hb2; clear hb2)
        have hKc := hK.cell
        have zK := hK.lt
        go_wp2_with (first
          | (go_at_call 54; (with_reducible refine (CR.out _).mono ?_); rintro e w3 ⟨rfl, hb3⟩; replace hR := hR.ext hb3; replace hb := hb.trans (hb3.mono hb.size))
          | (refine wpList_store_all rfl 40 _ _ rfl w.heap.size i.cells rfl rfl 40 _ hR ins_info rfl ins_one ?_; intro w5 hB5 hg5; have hBc := hB5.cell))
        exact bodyPost_ret (v := .tuple #[.agg i.cells, .bool true]) (by simp [results, Try.results26, go_sem, hBc]) rfl ⟨rfl, below_grown hb hg5 hb.size (Nat.le_refl _)⟩
    · obtain rfl : n = 48 := by omega
      have hX : X = none := HR.out.symm
      subst hX
      clear HR
      go_wp2_with (first
        | (refine wpList_build_to rfl 40 _ rfl [] ?_ _ built_ins0 ?_; kernel_rfl)
        | (refine wpList_store_all rfl 40 _ _ rfl w.heap.size insZ.cells rfl rfl 40 _ hR ins_info rfl ins_one ?_; intro w5 hB5 hg5; have hBc := hB5.cell))
      exact bodyPost_ret (v := .tuple #[.agg insZ.cells, .bool false]) (by simp [results, Try.results26, go_sem, hBc]) rfl ⟨rfl, below_grown hb hg5 hb.size (Nat.le_refl _)⟩
end Go.Proofs.Ytapgojgcmlnbgab
