/- The walk of order.See. -/
import Derived.Test.YtapgojgcmlnbgaaOrderSee
import Derived.Test.YtapgojgcmlnbgaaMemPut
import Derived.OwnWalk
namespace Go.Proofs.Ytapgojgcmlnbgaa
open Go.RowKit

theorem sureB_step (seq : Int) (s : Bool) (a : Acc) (l : List Acc) : (a :: l).foldl (sureStep seq) s = l.foldl (sureStep seq) (s && (!a.store || decide (seq ≤ a.seq) || a.known)) := rfl

theorem ret_tup3 {k : IntKind} {a b : Int} {c d : Bool} (h : a = b) : Ending.returned (.tuple #[.int k a, .bool c, .bool d]) = .returned (.tuple #[.int k b, .bool c, .bool d]) := by rw [h]

set_option maxRecDepth 100000 in
set_option maxHeartbeats 2000000 in
theorem see_any (A : Option Addr) (cap : Nat) (l : List Acc) (A' : Option Addr) (cap' : Nat) (m : List Int) (seq p many : Int) (w : World) (hl : l.length ≤ 9223372036854775807) (hl' : m.length ≤ 9223372036854775807)
    (hwf : ∀ a ∈ l, a.Wf) (hm : Bytes m) (hA : AccsAt w w.heap.size A l) (hA' : IntsAt w w.heap.size .u8 A' m) (h0 : 0 ≤ p) (h1 : p ≤ 4294967295) :
    Calls Try.prog 15 #[.slice A l.length cap, .slice A' m.length cap', .int .i64 seq, .int .u32 p, .int .i64 many] w
      fun e w' => e = .returned (.tuple #[.int .u32 (seeP l m seq p many).1, .bool (seeP l m seq p many).2.1, .bool (seeP l m seq p many).2.2]) ∧ Below w.heap.size w w' := by
  have hbb := Below.refl w.heap.size w
  rcases hok : seeOk m p many with _ | _
  · have e : seeP l m seq p many = (0, false, false) := by unfold seeP; rw [if_neg (by rw [hok]; exact Bool.false_ne_true)]
    rw [e]
    clear e
    by_cases e1 : many = 1
    · subst e1
      have hth : thereB m.length p 1 = false := by
        simpa [seeOk] using hok
      clear hok
      go_enter Try.func15, Try.ntmps15
      go_wp2_with (go_at_call 44; refine (there_any _ _ _ _ 1 _ (by omega) (by omega) (by omega) (by omega) (by omega)).mono ?_; rintro e w1 ⟨rfl, rfl⟩; rw [hth])
      go_ret3
      exact ⟨rfl, hbb⟩
    by_cases e2 : many = 2
    · subst e2
      have hth : thereB m.length p 2 = false := by
        simpa [seeOk] using hok
      clear hok
      go_enter Try.func15, Try.ntmps15
      go_wp2_with (go_at_call 44; refine (there_any _ _ _ _ 2 _ (by omega) (by omega) (by omega) (by omega) (by omega)).mono ?_; rintro e w1 ⟨rfl, rfl⟩; rw [hth])
      go_ret3
      exact ⟨rfl, hbb⟩
    by_cases e4 : many = 4
    · subst e4
      have hth : thereB m.length p 4 = false := by
        simpa [seeOk] using hok
      clear hok
      go_enter Try.func15, Try.ntmps15
      go_wp2_with (go_at_call 44; refine (there_any _ _ _ _ 4 _ (by omega) (by omega) (by omega) (by omega) (by omega)).mono ?_; rintro e w1 ⟨rfl, rfl⟩; rw [hth])
      go_ret3
      exact ⟨rfl, hbb⟩
    · clear hok
      go_enter Try.func15, Try.ntmps15
      go_wp2_with fail
      go_ret3
      exact ⟨rfl, hbb⟩
  · have hmany : many = 1 ∨ many = 2 ∨ many = 4 := by
      have := hok
      simp only [seeOk, Bool.and_eq_true, Bool.or_eq_true, decide_eq_true_eq] at this
      omega
    obtain rfl | rfl | rfl := hmany
    ·
      have hth : thereB m.length p 1 = true := by
        simp only [seeOk, Bool.and_eq_true] at hok
        exact hok.2
      have hth2 := hth
      unfold thereB at hth2
      simp only [Bool.and_eq_true, decide_eq_true_eq] at hth2
      obtain ⟨⟨_, t1⟩, t2⟩ := hth2
      have e : seeP l m seq p 1 = (seeW l m seq p 1, true, sureB l seq) := by unfold seeP; rw [if_pos hok]
      rw [e]
      have hL : seeW l m seq p 1 = byteP l m seq p := by unfold seeW; simp
      rw [hL]
      clear e hL hok
      (obtain ⟨p0, q0⟩ := byteP_bounds hwf hm seq p; generalize hx0 : byteP l m seq p = x0 at p0 q0 ⊢; have HX0 := Lib.hid hx0; clear hx0)
      generalize hS : sureB l seq = S
      have HS : Hid (l.foldl (sureStep seq) true = S) := Lib.hid hS
      clear hS
      go_enter Try.func15, Try.ntmps15
      go_wp2_with (go_at_call 44; refine (there_any _ _ _ _ 1 _ (by omega) (by omega) (by omega) (by omega) (by omega)).mono ?_; rintro e w1 ⟨rfl, rfl⟩; rw [hth])
      refine wp_loop_rounds 2 ?_
      repeat any_goals (rw [rounds_succ]; go_wp2_with (go_at_call 45; refine (byteAt_any A cap l A' cap' m seq _ _ hl hl' hwf ((hA.below hbb).mono hbb.size) ((hA'.below hbb).mono hbb.size) (by omega) (by omega) (by omega)).mono ?_; rintro e w2 ⟨rfl, hb2⟩; have hbb := hbb.trans (hb2.mono hbb.size); rw [HX0.out]))
      go_loopw [15, 57] (fun v15 v57 wr => ∃ (k : Nat) (s : Bool), v15 = .bool s ∧ v57 = .int .i64 k ∧ k ≤ l.length ∧ Below w.heap.size w wr ∧ Hid ((l.drop k).foldl (sureStep seq) s = S)) (fun _ v _ => l.length - (intOf v).toNat)
      case atStart => exact ⟨0, true, rfl, rfl, by omega, hbb, HS⟩
      case round =>
        obtain ⟨k, s, rfl, rfl, hk, hbr, HR⟩ := hrel
        by_cases hlt : k < l.length
        · obtain ⟨b, o, a, rfl, hbB, ha, hd, hmem, hcs⟩ := (hA.below hbr).at_ hlt
          have HR2 : Hid ((l.drop (k + 1)).foldl (sureStep seq) (s && (!a.store || decide (seq ≤ a.seq) || a.known)) = S) := by
            have h := HR.out
            rw [hd, sureB_step] at h
            exact h
          clear hd ha HR hmem
          obtain ⟨d0, d1, d2, d3, d4, d5, d6⟩ := hcs
          obtain ⟨aq, ast, akn, aat, amn, adt, adn⟩ := a
          dsimp only at d0 d1 d2 d3 d4 d5 d6 HR2
          rcases hq : decide (seq ≤ aq) with _ | _ <;> rw [hq] at HR2 <;> rcases s with _ | _ <;> rcases ast with _ | _ <;> rcases akn with _ | _
          all_goals
            go_wp2_with fail
            go_roundw
            case rel => exact ⟨k + 1, _, rfl, by go_num, by omega, hbr.alloc hbr.size _, HR2⟩
            case measure => simp [intOf]; omega
        · obtain rfl : k = l.length := by omega
          have hs : s = S := by
            have h := HR.out
            rw [List.drop_length] at h
            exact h
          subst hs
          clear HR HS
          go_wp2_with fail
          go_ret3
          refine ⟨?_, hbr⟩
          show Ending.returned (.tuple #[.int .u32 _, .bool true, .bool _]) = _
          rw [or0 x0 p0 q0]
    ·
      have hth : thereB m.length p 2 = true := by
        simp only [seeOk, Bool.and_eq_true] at hok
        exact hok.2
      have hth2 := hth
      unfold thereB at hth2
      simp only [Bool.and_eq_true, decide_eq_true_eq] at hth2
      obtain ⟨⟨_, t1⟩, t2⟩ := hth2
      have e : seeP l m seq p 2 = (seeW l m seq p 2, true, sureB l seq) := by unfold seeP; rw [if_pos hok]
      rw [e]
      have hL : seeW l m seq p 2 = byteP l m seq p + 256 * byteP l m seq (p + 1) := by unfold seeW; simp
      rw [hL]
      clear e hL hok
      (obtain ⟨p0, q0⟩ := byteP_bounds hwf hm seq p; generalize hx0 : byteP l m seq p = x0 at p0 q0 ⊢; have HX0 := Lib.hid hx0; clear hx0; obtain ⟨p1, q1⟩ := byteP_bounds hwf hm seq (p + 1); generalize hx1 : byteP l m seq (p + 1) = x1 at p1 q1 ⊢; have HX1 := Lib.hid hx1; clear hx1)
      generalize hS : sureB l seq = S
      have HS : Hid (l.foldl (sureStep seq) true = S) := Lib.hid hS
      clear hS
      go_enter Try.func15, Try.ntmps15
      go_wp2_with (go_at_call 44; refine (there_any _ _ _ _ 2 _ (by omega) (by omega) (by omega) (by omega) (by omega)).mono ?_; rintro e w1 ⟨rfl, rfl⟩; rw [hth])
      refine wp_loop_rounds 3 ?_
      repeat any_goals (rw [rounds_succ]; go_wp2_with (go_at_call 45; refine (byteAt_any A cap l A' cap' m seq _ _ hl hl' hwf ((hA.below hbb).mono hbb.size) ((hA'.below hbb).mono hbb.size) (by omega) (by omega) (by omega)).mono ?_; rintro e w2 ⟨rfl, hb2⟩; have hbb := hbb.trans (hb2.mono hbb.size); (first | rw [HX0.out] | rw [HX1.out])))
      go_loopw [15, 57] (fun v15 v57 wr => ∃ (k : Nat) (s : Bool), v15 = .bool s ∧ v57 = .int .i64 k ∧ k ≤ l.length ∧ Below w.heap.size w wr ∧ Hid ((l.drop k).foldl (sureStep seq) s = S)) (fun _ v _ => l.length - (intOf v).toNat)
      case atStart => exact ⟨0, true, rfl, rfl, by omega, hbb, HS⟩
      case round =>
        obtain ⟨k, s, rfl, rfl, hk, hbr, HR⟩ := hrel
        by_cases hlt : k < l.length
        · obtain ⟨b, o, a, rfl, hbB, ha, hd, hmem, hcs⟩ := (hA.below hbr).at_ hlt
          have HR2 : Hid ((l.drop (k + 1)).foldl (sureStep seq) (s && (!a.store || decide (seq ≤ a.seq) || a.known)) = S) := by
            have h := HR.out
            rw [hd, sureB_step] at h
            exact h
          clear hd ha HR hmem
          obtain ⟨d0, d1, d2, d3, d4, d5, d6⟩ := hcs
          obtain ⟨aq, ast, akn, aat, amn, adt, adn⟩ := a
          dsimp only at d0 d1 d2 d3 d4 d5 d6 HR2
          rcases hq : decide (seq ≤ aq) with _ | _ <;> rw [hq] at HR2 <;> rcases s with _ | _ <;> rcases ast with _ | _ <;> rcases akn with _ | _
          all_goals
            go_wp2_with fail
            go_roundw
            case rel => exact ⟨k + 1, _, rfl, by go_num, by omega, hbr.alloc hbr.size _, HR2⟩
            case measure => simp [intOf]; omega
        · obtain rfl : k = l.length := by omega
          have hs : s = S := by
            have h := HR.out
            rw [List.drop_length] at h
            exact h
          subst hs
          clear HR HS
          go_wp2_with fail
          go_ret3
          refine ⟨?_, hbr⟩
          show Ending.returned (.tuple #[.int .u32 _, .bool true, .bool _]) = _
          rw [or0 x0 p0 q0, or8 x0 x1 p0 (by omega) p1 q1]
    ·
      have hth : thereB m.length p 4 = true := by
        simp only [seeOk, Bool.and_eq_true] at hok
        exact hok.2
      have hth2 := hth
      unfold thereB at hth2
      simp only [Bool.and_eq_true, decide_eq_true_eq] at hth2
      obtain ⟨⟨_, t1⟩, t2⟩ := hth2
      have e : seeP l m seq p 4 = (seeW l m seq p 4, true, sureB l seq) := by unfold seeP; rw [if_pos hok]
      rw [e]
      have hL : seeW l m seq p 4 = byteP l m seq p + 256 * byteP l m seq (p + 1) + 65536 * byteP l m seq (p + 2) + 16777216 * byteP l m seq (p + 3) := by unfold seeW; simp
      rw [hL]
      clear e hL hok
      (obtain ⟨p0, q0⟩ := byteP_bounds hwf hm seq p; generalize hx0 : byteP l m seq p = x0 at p0 q0 ⊢; have HX0 := Lib.hid hx0; clear hx0; obtain ⟨p1, q1⟩ := byteP_bounds hwf hm seq (p + 1); generalize hx1 : byteP l m seq (p + 1) = x1 at p1 q1 ⊢; have HX1 := Lib.hid hx1; clear hx1; obtain ⟨p2, q2⟩ := byteP_bounds hwf hm seq (p + 2); generalize hx2 : byteP l m seq (p + 2) = x2 at p2 q2 ⊢; have HX2 := Lib.hid hx2; clear hx2; obtain ⟨p3, q3⟩ := byteP_bounds hwf hm seq (p + 3); generalize hx3 : byteP l m seq (p + 3) = x3 at p3 q3 ⊢; have HX3 := Lib.hid hx3; clear hx3)
      generalize hS : sureB l seq = S
      have HS : Hid (l.foldl (sureStep seq) true = S) := Lib.hid hS
      clear hS
      go_enter Try.func15, Try.ntmps15
      go_wp2_with (go_at_call 44; refine (there_any _ _ _ _ 4 _ (by omega) (by omega) (by omega) (by omega) (by omega)).mono ?_; rintro e w1 ⟨rfl, rfl⟩; rw [hth])
      refine wp_loop_rounds 5 ?_
      repeat any_goals (rw [rounds_succ]; go_wp2_with (go_at_call 45; refine (byteAt_any A cap l A' cap' m seq _ _ hl hl' hwf ((hA.below hbb).mono hbb.size) ((hA'.below hbb).mono hbb.size) (by omega) (by omega) (by omega)).mono ?_; rintro e w2 ⟨rfl, hb2⟩; have hbb := hbb.trans (hb2.mono hbb.size); (first | rw [HX0.out] | rw [HX1.out] | rw [HX2.out] | rw [HX3.out])))
      go_loopw [15, 57] (fun v15 v57 wr => ∃ (k : Nat) (s : Bool), v15 = .bool s ∧ v57 = .int .i64 k ∧ k ≤ l.length ∧ Below w.heap.size w wr ∧ Hid ((l.drop k).foldl (sureStep seq) s = S)) (fun _ v _ => l.length - (intOf v).toNat)
      case atStart => exact ⟨0, true, rfl, rfl, by omega, hbb, HS⟩
      case round =>
        obtain ⟨k, s, rfl, rfl, hk, hbr, HR⟩ := hrel
        by_cases hlt : k < l.length
        · obtain ⟨b, o, a, rfl, hbB, ha, hd, hmem, hcs⟩ := (hA.below hbr).at_ hlt
          have HR2 : Hid ((l.drop (k + 1)).foldl (sureStep seq) (s && (!a.store || decide (seq ≤ a.seq) || a.known)) = S) := by
            have h := HR.out
            rw [hd, sureB_step] at h
            exact h
          clear hd ha HR hmem
          obtain ⟨d0, d1, d2, d3, d4, d5, d6⟩ := hcs
          obtain ⟨aq, ast, akn, aat, amn, adt, adn⟩ := a
          dsimp only at d0 d1 d2 d3 d4 d5 d6 HR2
          rcases hq : decide (seq ≤ aq) with _ | _ <;> rw [hq] at HR2 <;> rcases s with _ | _ <;> rcases ast with _ | _ <;> rcases akn with _ | _
          all_goals
            go_wp2_with fail
            go_roundw
            case rel => exact ⟨k + 1, _, rfl, by go_num, by omega, hbr.alloc hbr.size _, HR2⟩
            case measure => simp [intOf]; omega
        · obtain rfl : k = l.length := by omega
          have hs : s = S := by
            have h := HR.out
            rw [List.drop_length] at h
            exact h
          subst hs
          clear HR HS
          go_wp2_with fail
          go_ret3
          refine ⟨?_, hbr⟩
          show Ending.returned (.tuple #[.int .u32 _, .bool true, .bool _]) = _
          rw [or0 x0 p0 q0, or8 x0 x1 p0 (by omega) p1 q1, or16 _ x2 (by omega) (by omega) p2 q2, or24 _ x3 (by omega) (by omega) p3 q3]
end Go.Proofs.Ytapgojgcmlnbgaa
