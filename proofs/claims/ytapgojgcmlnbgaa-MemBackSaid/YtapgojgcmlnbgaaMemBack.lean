/- The law MemBack, walked. -/
import Derived.Test.YtapgojgcmlnbgaaMemPut
import Derived.Test.YtapgojgcmlnbgaaMemBackPlain
namespace Go.Proofs.Ytapgojgcmlnbgaa
open Go.RowKit

theorem loads_any (op : Int) (w : World) (ho : op = 16 ∨ op = 17 ∨ op = 18) :
    Calls Try.prog 36 #[.int .i64 op] w fun e w' => e = .returned (.int .i64 (loadsI op)) ∧ w = w' := by
  obtain rfl | rfl | rfl := ho
  all_goals
    go_enter Try.func36, Try.ntmps36
    go_wp2
    go_ret
    exact ⟨rfl, rfl⟩

theorem store_seven (g : Nat) (W : World) (hA : IntsAt W W.heap.size .u8 (some ⟨g, 0, none⟩) [0]) :
    Calls Try.prog 32 #[.slice (some ⟨g, 0, none⟩) 1 1, .int .i64 16, .int .u32 0, .int .u32 7] W
      fun e w' => ∃ b c, e = .returned (.tuple #[.slice (some ⟨b, 0, none⟩) 1 c, .bool true]) ∧ Below W.heap.size W w' ∧ w'.cell? ⟨b, 0, none⟩ = some (.int .u8 7) := by
  refine (store_any (some ⟨g, 0, none⟩) 1 [0] 16 0 7 W (by omega) (by omega) (by simp) (by omega) (by omega) hA (fun h => by cases h)).mono ?_
  rintro e w' ⟨v, rfl, hb, hs, _⟩
  have ho := hs rfl
  obtain ⟨A, c, rfl⟩ := own_value ho
  have hi := IntsAt.own (l := [7]) ho
  obtain ⟨b, o, rfl, _, hc⟩ := hi.at_ (n := 0) (by simp)
  have h0 := hc 0 (by simp)
  rcases ho.2 with ⟨_, h⟩ | ⟨g', c', cur, hv, _⟩
  · cases h
  · injection hv with h1 _ _
    injection h1 with h1
    injection h1 with h1 h2 _
    subst h1 h2
    exact ⟨_, c, rfl, hb, h0⟩

theorem Bytes.set {m : List Int} (h : Bytes m) (i : Nat) (v : Int) : Bytes (m.set i (v % 256)) := fun b hb => by
  rcases List.mem_or_eq_of_mem_set hb with h1 | h1
  · exact h b h1
  · omega
theorem putW_bytes (m : List Int) (op : Int) (n : Nat) (x : Int) (h : Bytes m) : Bytes (putW m op n x) := by
  unfold putW put4 put2 put1
  (repeat' split)
  · exact h.set _ _
  · exact (h.set _ _).set _ _
  · exact (((h.set _ _).set _ _).set _ _).set _ _
theorem IntsAt.new (w : World) (t : TypeId) (k : IntKind) (l : List Int) (g : Nat) (hg : g = w.heap.size) : IntsAt (w.alloc (.cells (l.map (Value.int k)).toArray t)) (w.alloc (.cells (l.map (Value.int k)).toArray t)).heap.size k (some ⟨g, 0, none⟩) l := by
  subst hg
  intro _
  refine ⟨_, 0, rfl, by simp, fun i v hi => ?_⟩
  rw [World.cell?_alloc_new]
  simp [hi]
set_option maxRecDepth 100000 in
set_option maxHeartbeats 1000000 in
theorem memBack_no_16 (A : Option Addr) (cap : Nat) (m : List Int) (k p x : Int) (w : World) (hl : m.length ≤ 140737488351232) (hk0 : 0 ≤ k) (hk1 : k ≤ 255) (hk : k % 3 = 0) (h0 : 0 ≤ p) (h1 : p ≤ 4294967295) (hx0 : 0 ≤ x) (hx1 : x ≤ 4294967295)
    (hb : Bytes m) (hA : IntsAt w w.heap.size .u8 A m) (hnil : A = none → m = []) (hok : storeOk m.length (16 : Int) p = false) :
    Calls Try.prog 10 #[.slice A m.length cap, .int .u8 k, .int .u32 p, .int .u32 x] w fun e w' => e = .returned (.bool true) ∧ Below w.heap.size w w' := by
  have hl' : m.length ≤ 9223372036854775807 := by omega
  have hbb := (((Below.refl w.heap.size w).alloc (Nat.le_refl _) (.cells #[.int .i64 16, .int .i64 17, .int .i64 18] 3)).alloc (by simp) (.cells #[.int .u32 255, .int .u32 65535, .int .u32 4294967295] 27)).alloc (by simp; omega) (.cells #[.int .i64 1, .int .i64 2, .int .i64 4] 3)
  have hop := Lib.hid (show (16 : Int) = 16 ∨ (16 : Int) = 17 ∨ (16 : Int) = 18 by decide)
  have hsz : sizeI (16 : Int) = 1 := rfl
  have hno := Lib.hid (loadP_no m (16 : Int) p hop.out hok)
  have Hok := Lib.hid hok
  clear hok hop
  go_enter Try.func10, Try.ntmps10
  go_wp2_with (first
    | (go_at_call 32; (with_reducible refine (store_any A cap m (16 : Int) p x _ h0 h1 hl hx0 hx1 ((hA.below hbb).mono hbb.size) hnil).mono ?_); rintro e w2 ⟨v2, rfl, hb2, hs2, hn2⟩; rw [Hok.out]; obtain rfl := hn2 Hok.out; have hbb2 := hbb.trans (hb2.mono hbb.size); clear hs2 hn2)
    | (go_at_call 36; (with_reducible refine (loads_any (16 : Int) _ (by decide)).mono ?_); rintro e w3 ⟨rfl, rfl⟩)
    | (go_at_call 31; (with_reducible refine (load_any A cap m _ p _ h0 h1 hl' hb ((hA.below hbb2).mono hbb2.size)).mono ?_); rintro e w4 ⟨rfl, rfl⟩; rw [hno.out])
    | (go_at_call 32; have hI : IntsAt (w2.alloc (.cells #[.int .u8 0] 5)) (w2.alloc (.cells #[.int .u8 0] 5)).heap.size .u8 (some ⟨w2.heap.size, 0, none⟩) [0] := IntsAt.new w2 5 .u8 [0] _ rfl; (with_reducible refine (store_seven w2.heap.size _ hI).mono ?_); rintro e w5 ⟨b5, c5, rfl, hb5, hc5⟩; have hbb5 := (hbb2.alloc hbb2.size (.cells #[.int .u8 0] 5)).trans (hb5.mono (by have := hbb2.size; simp only [World.size_alloc]; omega))))
  go_ret
  exact ⟨rfl, hbb5⟩
set_option maxRecDepth 100000 in
set_option maxHeartbeats 1000000 in
theorem memBack_yes_16 (A : Option Addr) (cap : Nat) (m : List Int) (k p x : Int) (w : World) (hl : m.length ≤ 140737488351232) (hk0 : 0 ≤ k) (hk1 : k ≤ 255) (hk : k % 3 = 0) (h0 : 0 ≤ p) (h1 : p ≤ 4294967295) (hx0 : 0 ≤ x) (hx1 : x ≤ 4294967295)
    (hb : Bytes m) (hA : IntsAt w w.heap.size .u8 A m) (hnil : A = none → m = []) (hok : storeOk m.length (16 : Int) p = true) :
    Calls Try.prog 10 #[.slice A m.length cap, .int .u8 k, .int .u32 p, .int .u32 x] w fun e w' => e = .returned (.bool true) ∧ Below w.heap.size w w' := by
  have hl' : m.length ≤ 9223372036854775807 := by omega
  have hbb := (((Below.refl w.heap.size w).alloc (Nat.le_refl _) (.cells #[.int .i64 16, .int .i64 17, .int .i64 18] 3)).alloc (by simp) (.cells #[.int .u32 255, .int .u32 65535, .int .u32 4294967295] 27)).alloc (by simp; omega) (.cells #[.int .i64 1, .int .i64 2, .int .i64 4] 3)
  have hop := Lib.hid (show (16 : Int) = 16 ∨ (16 : Int) = 17 ∨ (16 : Int) = 18 by decide)
  have hsz : sizeI (16 : Int) = 1 := rfl
  have hlen : (putW m (16 : Int) p.toNat x).length = m.length := putW_length _ _ _ _
  have hld := loadP_back m (16 : Int) p x hop.out h0 hx0 hx1 hlen hok
  have hin : (p.toNat : Int) + 1 ≤ m.length := by
    simp only [storeOk, Bool.and_eq_true] at hok
    have h2 := hok.2
    unfold thereB at h2
    simp only [Bool.and_eq_true, decide_eq_true_eq, hsz] at h2
    omega
  have hoth : ∀ j : Nat, (j : Int) < p ∨ p + 1 ≤ j → (putW m (16 : Int) p.toNat x).getD j 0 = m.getD j 0 := fun j hj => back_other m (16 : Int) p.toNat j x hop.out (by rw [hsz]; exact hin) (by rw [hsz]; omega)
  have hM2 : Bytes (putW m (16 : Int) p.toNat x) := putW_bytes m (16 : Int) p.toNat x hb
  generalize hMM : putW m (16 : Int) p.toNat x = M at hlen hld hoth hM2
  have HM := Lib.hid hMM
  have Hlen := Lib.hid hlen
  have Hld := Lib.hid hld
  have Hoth := Lib.hid hoth
  have Hok := Lib.hid hok
  have hms := (show bits .and .u32 x 255 = x % 256 from and_mask x 8 (by omega) hx0 hx1)
  clear hMM hlen hld hoth hok hsz hop
  go_enter Try.func10, Try.ntmps10
  go_wp2_with (first
    | (go_at_call 32; (with_reducible refine (store_any A cap m (16 : Int) p x _ h0 h1 hl hx0 hx1 ((hA.below hbb).mono hbb.size) hnil).mono ?_); rintro e w2 ⟨v2, rfl, hb2, hs2, hn2⟩; rw [Hok.out]; have ho2 := hs2 Hok.out; rw [HM.out] at ho2; obtain ⟨A2, c2, rfl⟩ := own_value ho2; have hbb2 := hbb.trans (hb2.mono hbb.size); clear hs2 hn2; have hq2 : Blk w2 (w.heap.size + 1) 27 #[.int .u32 255, .int .u32 65535, .int .u32 4294967295] := (by have h := (((Blk.new (w.alloc (.cells #[.int .i64 16, .int .i64 17, .int .i64 18] 3)) 27 #[.int .u32 255, .int .u32 65535, .int .u32 4294967295]).alloc (.cells #[.int .i64 1, .int .i64 2, .int .i64 4] 3)).ext hb2); simp only [World.size_alloc] at h; exact h); have hq3 := hq2.cell; clear hq2)
    | (go_at_call 36; (with_reducible refine (loads_any (16 : Int) _ (by decide)).mono ?_); rintro e w3 ⟨rfl, rfl⟩)
    | (go_at_call 31; have hL := load_any A2 c2 M (loadsI (16 : Int)) p w2 h0 h1 (by rw [Hlen.out]; exact hl') hM2 (IntsAt.own ho2); rw [Hlen.out, Hld.out] at hL; (with_reducible refine hL.mono ?_); rintro e w4 ⟨rfl, rfl⟩))
  go_loopw [22] (fun v22 wr => ∃ i : Nat, v22 = .int .i64 i ∧ i ≤ m.length ∧ Below w2.heap.size w2 wr) (fun v _ => m.length - (intOf v).toNat)
  case atStart => exact ⟨0, rfl, by omega, Below.refl _ _⟩
  case round =>
    obtain ⟨i, rfl, hi, hbr⟩ := hrel
    by_cases hlt : i < m.length
    · obtain ⟨bA, oA, rfl, hbA, hcA⟩ := ((hA.below hbb2).below (hbr.mono hbb2.size)).at_ hlt
      obtain ⟨bM, oM, rfl, hbM, hcM⟩ := ((IntsAt.own ho2).below hbr).at_ (n := i) (by rw [Hlen.out]; exact hlt)
      have cA := hcA i hlt
      have cM := hcM i (by rw [Hlen.out]; exact hlt)
      clear hcA hcM
      have zr := hbr.size
      have z2 := hbb2.size
      have zA : bA < wr.heap.size := by omega
      have zM : bM < wr.heap.size := by omega
      rcases t1 : decide ((i : Int) < p) with _ | _ <;> rcases t2 : decide (p + 1 ≤ (i : Int)) with _ | _
      all_goals
        first
        | (have ho := Hoth.out i (.inl (of_decide_eq_true t1)); rw [ho] at cM; clear ho)
        | (have ho := Hoth.out i (.inr (of_decide_eq_true t2)); rw [ho] at cM; clear ho)
        | skip
        generalize m.getD i 0 = y at cA cM
        try generalize M.getD i 0 = y2 at cM
        have ey : (y == y) = true := by simp
        go_wp2
        refine wp_region_below (by kernel_rfl) (by kernel_rfl) ?_
        repeat' (first
          | refine wpMix_plain rfl ?_
          | (refine' wpMixW_quiet _ (fun wq hwq K hK => ?_) ?_ ?_
             rotate_left 1
             · (obtain ⟨hcq, hfq⟩ := bcell hwq
                go_wp2_with (fail)
                all_goals exact hK _ hwq)
             · rfl)
          | (refine wpMix_guardT rfl rfl rfl ?_ ?_ <;> intro hc <;> first | (cases hc; done) | ((try cases hc); simp only [Act.put, List.setIfInBounds_toArray, List.set_cons_succ, List.set_cons_zero]))
          | (refine wpMix_guardF rfl rfl rfl ?_ ?_ <;> intro hc <;> first | (cases hc; done) | ((try cases hc); simp only [Act.put, List.setIfInBounds_toArray, List.set_cons_succ, List.set_cons_zero]))
          | refine wpMix_guardU rfl rfl rfl ?_)
        all_goals
          refine wpMix_nil ?_
          intro w4 hw4
          go_wp2
          go_roundw
          case rel => exact ⟨i + 1, by go_num, by omega, hbr.trans (hw4.mono zr)⟩
          case measure => simp [intOf]; omega
    · go_wp2
      go_ret
      exact ⟨rfl, hbb2.trans (hbr.mono hbb2.size)⟩
set_option maxRecDepth 100000 in
set_option maxHeartbeats 1000000 in
theorem memBack_no_17 (A : Option Addr) (cap : Nat) (m : List Int) (k p x : Int) (w : World) (hl : m.length ≤ 140737488351232) (hk0 : 0 ≤ k) (hk1 : k ≤ 255) (hk : k % 3 = 1) (h0 : 0 ≤ p) (h1 : p ≤ 4294967295) (hx0 : 0 ≤ x) (hx1 : x ≤ 4294967295)
    (hb : Bytes m) (hA : IntsAt w w.heap.size .u8 A m) (hnil : A = none → m = []) (hok : storeOk m.length (17 : Int) p = false) :
    Calls Try.prog 10 #[.slice A m.length cap, .int .u8 k, .int .u32 p, .int .u32 x] w fun e w' => e = .returned (.bool true) ∧ Below w.heap.size w w' := by
  have hl' : m.length ≤ 9223372036854775807 := by omega
  have hbb := (((Below.refl w.heap.size w).alloc (Nat.le_refl _) (.cells #[.int .i64 16, .int .i64 17, .int .i64 18] 3)).alloc (by simp) (.cells #[.int .u32 255, .int .u32 65535, .int .u32 4294967295] 27)).alloc (by simp; omega) (.cells #[.int .i64 1, .int .i64 2, .int .i64 4] 3)
  have hop := Lib.hid (show (17 : Int) = 16 ∨ (17 : Int) = 17 ∨ (17 : Int) = 18 by decide)
  have hsz : sizeI (17 : Int) = 2 := rfl
  have hno := Lib.hid (loadP_no m (17 : Int) p hop.out hok)
  have Hok := Lib.hid hok
  clear hok hop
  go_enter Try.func10, Try.ntmps10
  go_wp2_with (first
    | (go_at_call 32; (with_reducible refine (store_any A cap m (17 : Int) p x _ h0 h1 hl hx0 hx1 ((hA.below hbb).mono hbb.size) hnil).mono ?_); rintro e w2 ⟨v2, rfl, hb2, hs2, hn2⟩; rw [Hok.out]; obtain rfl := hn2 Hok.out; have hbb2 := hbb.trans (hb2.mono hbb.size); clear hs2 hn2)
    | (go_at_call 36; (with_reducible refine (loads_any (17 : Int) _ (by decide)).mono ?_); rintro e w3 ⟨rfl, rfl⟩)
    | (go_at_call 31; (with_reducible refine (load_any A cap m _ p _ h0 h1 hl' hb ((hA.below hbb2).mono hbb2.size)).mono ?_); rintro e w4 ⟨rfl, rfl⟩; rw [hno.out])
    | (go_at_call 32; have hI : IntsAt (w2.alloc (.cells #[.int .u8 0] 5)) (w2.alloc (.cells #[.int .u8 0] 5)).heap.size .u8 (some ⟨w2.heap.size, 0, none⟩) [0] := IntsAt.new w2 5 .u8 [0] _ rfl; (with_reducible refine (store_seven w2.heap.size _ hI).mono ?_); rintro e w5 ⟨b5, c5, rfl, hb5, hc5⟩; have hbb5 := (hbb2.alloc hbb2.size (.cells #[.int .u8 0] 5)).trans (hb5.mono (by have := hbb2.size; simp only [World.size_alloc]; omega))))
  go_ret
  exact ⟨rfl, hbb5⟩
set_option maxRecDepth 100000 in
set_option maxHeartbeats 1000000 in
theorem memBack_yes_17 (A : Option Addr) (cap : Nat) (m : List Int) (k p x : Int) (w : World) (hl : m.length ≤ 140737488351232) (hk0 : 0 ≤ k) (hk1 : k ≤ 255) (hk : k % 3 = 1) (h0 : 0 ≤ p) (h1 : p ≤ 4294967295) (hx0 : 0 ≤ x) (hx1 : x ≤ 4294967295)
    (hb : Bytes m) (hA : IntsAt w w.heap.size .u8 A m) (hnil : A = none → m = []) (hok : storeOk m.length (17 : Int) p = true) :
    Calls Try.prog 10 #[.slice A m.length cap, .int .u8 k, .int .u32 p, .int .u32 x] w fun e w' => e = .returned (.bool true) ∧ Below w.heap.size w w' := by
  have hl' : m.length ≤ 9223372036854775807 := by omega
  have hbb := (((Below.refl w.heap.size w).alloc (Nat.le_refl _) (.cells #[.int .i64 16, .int .i64 17, .int .i64 18] 3)).alloc (by simp) (.cells #[.int .u32 255, .int .u32 65535, .int .u32 4294967295] 27)).alloc (by simp; omega) (.cells #[.int .i64 1, .int .i64 2, .int .i64 4] 3)
  have hop := Lib.hid (show (17 : Int) = 16 ∨ (17 : Int) = 17 ∨ (17 : Int) = 18 by decide)
  have hsz : sizeI (17 : Int) = 2 := rfl
  have hlen : (putW m (17 : Int) p.toNat x).length = m.length := putW_length _ _ _ _
  have hld := loadP_back m (17 : Int) p x hop.out h0 hx0 hx1 hlen hok
  have hin : (p.toNat : Int) + 2 ≤ m.length := by
    simp only [storeOk, Bool.and_eq_true] at hok
    have h2 := hok.2
    unfold thereB at h2
    simp only [Bool.and_eq_true, decide_eq_true_eq, hsz] at h2
    omega
  have hoth : ∀ j : Nat, (j : Int) < p ∨ p + 2 ≤ j → (putW m (17 : Int) p.toNat x).getD j 0 = m.getD j 0 := fun j hj => back_other m (17 : Int) p.toNat j x hop.out (by rw [hsz]; exact hin) (by rw [hsz]; omega)
  have hM2 : Bytes (putW m (17 : Int) p.toNat x) := putW_bytes m (17 : Int) p.toNat x hb
  generalize hMM : putW m (17 : Int) p.toNat x = M at hlen hld hoth hM2
  have HM := Lib.hid hMM
  have Hlen := Lib.hid hlen
  have Hld := Lib.hid hld
  have Hoth := Lib.hid hoth
  have Hok := Lib.hid hok
  have hms := (show bits .and .u32 x 65535 = x % 65536 from and_mask x 16 (by omega) hx0 hx1)
  clear hMM hlen hld hoth hok hsz hop
  go_enter Try.func10, Try.ntmps10
  go_wp2_with (first
    | (go_at_call 32; (with_reducible refine (store_any A cap m (17 : Int) p x _ h0 h1 hl hx0 hx1 ((hA.below hbb).mono hbb.size) hnil).mono ?_); rintro e w2 ⟨v2, rfl, hb2, hs2, hn2⟩; rw [Hok.out]; have ho2 := hs2 Hok.out; rw [HM.out] at ho2; obtain ⟨A2, c2, rfl⟩ := own_value ho2; have hbb2 := hbb.trans (hb2.mono hbb.size); clear hs2 hn2; have hq2 : Blk w2 (w.heap.size + 1) 27 #[.int .u32 255, .int .u32 65535, .int .u32 4294967295] := (by have h := (((Blk.new (w.alloc (.cells #[.int .i64 16, .int .i64 17, .int .i64 18] 3)) 27 #[.int .u32 255, .int .u32 65535, .int .u32 4294967295]).alloc (.cells #[.int .i64 1, .int .i64 2, .int .i64 4] 3)).ext hb2); simp only [World.size_alloc] at h; exact h); have hq3 := hq2.cell; clear hq2)
    | (go_at_call 36; (with_reducible refine (loads_any (17 : Int) _ (by decide)).mono ?_); rintro e w3 ⟨rfl, rfl⟩)
    | (go_at_call 31; have hL := load_any A2 c2 M (loadsI (17 : Int)) p w2 h0 h1 (by rw [Hlen.out]; exact hl') hM2 (IntsAt.own ho2); rw [Hlen.out, Hld.out] at hL; (with_reducible refine hL.mono ?_); rintro e w4 ⟨rfl, rfl⟩))
  go_loopw [22] (fun v22 wr => ∃ i : Nat, v22 = .int .i64 i ∧ i ≤ m.length ∧ Below w2.heap.size w2 wr) (fun v _ => m.length - (intOf v).toNat)
  case atStart => exact ⟨0, rfl, by omega, Below.refl _ _⟩
  case round =>
    obtain ⟨i, rfl, hi, hbr⟩ := hrel
    by_cases hlt : i < m.length
    · obtain ⟨bA, oA, rfl, hbA, hcA⟩ := ((hA.below hbb2).below (hbr.mono hbb2.size)).at_ hlt
      obtain ⟨bM, oM, rfl, hbM, hcM⟩ := ((IntsAt.own ho2).below hbr).at_ (n := i) (by rw [Hlen.out]; exact hlt)
      have cA := hcA i hlt
      have cM := hcM i (by rw [Hlen.out]; exact hlt)
      clear hcA hcM
      have zr := hbr.size
      have z2 := hbb2.size
      have zA : bA < wr.heap.size := by omega
      have zM : bM < wr.heap.size := by omega
      rcases t1 : decide ((i : Int) < p) with _ | _ <;> rcases t2 : decide (p + 2 ≤ (i : Int)) with _ | _
      all_goals
        first
        | (have ho := Hoth.out i (.inl (of_decide_eq_true t1)); rw [ho] at cM; clear ho)
        | (have ho := Hoth.out i (.inr (of_decide_eq_true t2)); rw [ho] at cM; clear ho)
        | skip
        generalize m.getD i 0 = y at cA cM
        try generalize M.getD i 0 = y2 at cM
        have ey : (y == y) = true := by simp
        go_wp2
        refine wp_region_below (by kernel_rfl) (by kernel_rfl) ?_
        repeat' (first
          | refine wpMix_plain rfl ?_
          | (refine' wpMixW_quiet _ (fun wq hwq K hK => ?_) ?_ ?_
             rotate_left 1
             · (obtain ⟨hcq, hfq⟩ := bcell hwq
                go_wp2_with (fail)
                all_goals exact hK _ hwq)
             · rfl)
          | (refine wpMix_guardT rfl rfl rfl ?_ ?_ <;> intro hc <;> first | (cases hc; done) | ((try cases hc); simp only [Act.put, List.setIfInBounds_toArray, List.set_cons_succ, List.set_cons_zero]))
          | (refine wpMix_guardF rfl rfl rfl ?_ ?_ <;> intro hc <;> first | (cases hc; done) | ((try cases hc); simp only [Act.put, List.setIfInBounds_toArray, List.set_cons_succ, List.set_cons_zero]))
          | refine wpMix_guardU rfl rfl rfl ?_)
        all_goals
          refine wpMix_nil ?_
          intro w4 hw4
          go_wp2
          go_roundw
          case rel => exact ⟨i + 1, by go_num, by omega, hbr.trans (hw4.mono zr)⟩
          case measure => simp [intOf]; omega
    · go_wp2
      go_ret
      exact ⟨rfl, hbb2.trans (hbr.mono hbb2.size)⟩
set_option maxRecDepth 100000 in
set_option maxHeartbeats 1000000 in
theorem memBack_no_18 (A : Option Addr) (cap : Nat) (m : List Int) (k p x : Int) (w : World) (hl : m.length ≤ 140737488351232) (hk0 : 0 ≤ k) (hk1 : k ≤ 255) (hk : k % 3 = 2) (h0 : 0 ≤ p) (h1 : p ≤ 4294967295) (hx0 : 0 ≤ x) (hx1 : x ≤ 4294967295)
    (hb : Bytes m) (hA : IntsAt w w.heap.size .u8 A m) (hnil : A = none → m = []) (hok : storeOk m.length (18 : Int) p = false) :
    Calls Try.prog 10 #[.slice A m.length cap, .int .u8 k, .int .u32 p, .int .u32 x] w fun e w' => e = .returned (.bool true) ∧ Below w.heap.size w w' := by
  have hl' : m.length ≤ 9223372036854775807 := by omega
  have hbb := (((Below.refl w.heap.size w).alloc (Nat.le_refl _) (.cells #[.int .i64 16, .int .i64 17, .int .i64 18] 3)).alloc (by simp) (.cells #[.int .u32 255, .int .u32 65535, .int .u32 4294967295] 27)).alloc (by simp; omega) (.cells #[.int .i64 1, .int .i64 2, .int .i64 4] 3)
  have hop := Lib.hid (show (18 : Int) = 16 ∨ (18 : Int) = 17 ∨ (18 : Int) = 18 by decide)
  have hsz : sizeI (18 : Int) = 4 := rfl
  have hno := Lib.hid (loadP_no m (18 : Int) p hop.out hok)
  have Hok := Lib.hid hok
  clear hok hop
  go_enter Try.func10, Try.ntmps10
  go_wp2_with (first
    | (go_at_call 32; (with_reducible refine (store_any A cap m (18 : Int) p x _ h0 h1 hl hx0 hx1 ((hA.below hbb).mono hbb.size) hnil).mono ?_); rintro e w2 ⟨v2, rfl, hb2, hs2, hn2⟩; rw [Hok.out]; obtain rfl := hn2 Hok.out; have hbb2 := hbb.trans (hb2.mono hbb.size); clear hs2 hn2)
    | (go_at_call 36; (with_reducible refine (loads_any (18 : Int) _ (by decide)).mono ?_); rintro e w3 ⟨rfl, rfl⟩)
    | (go_at_call 31; (with_reducible refine (load_any A cap m _ p _ h0 h1 hl' hb ((hA.below hbb2).mono hbb2.size)).mono ?_); rintro e w4 ⟨rfl, rfl⟩; rw [hno.out])
    | (go_at_call 32; have hI : IntsAt (w2.alloc (.cells #[.int .u8 0] 5)) (w2.alloc (.cells #[.int .u8 0] 5)).heap.size .u8 (some ⟨w2.heap.size, 0, none⟩) [0] := IntsAt.new w2 5 .u8 [0] _ rfl; (with_reducible refine (store_seven w2.heap.size _ hI).mono ?_); rintro e w5 ⟨b5, c5, rfl, hb5, hc5⟩; have hbb5 := (hbb2.alloc hbb2.size (.cells #[.int .u8 0] 5)).trans (hb5.mono (by have := hbb2.size; simp only [World.size_alloc]; omega))))
  go_ret
  exact ⟨rfl, hbb5⟩
set_option maxRecDepth 100000 in
set_option maxHeartbeats 1000000 in
theorem memBack_yes_18 (A : Option Addr) (cap : Nat) (m : List Int) (k p x : Int) (w : World) (hl : m.length ≤ 140737488351232) (hk0 : 0 ≤ k) (hk1 : k ≤ 255) (hk : k % 3 = 2) (h0 : 0 ≤ p) (h1 : p ≤ 4294967295) (hx0 : 0 ≤ x) (hx1 : x ≤ 4294967295)
    (hb : Bytes m) (hA : IntsAt w w.heap.size .u8 A m) (hnil : A = none → m = []) (hok : storeOk m.length (18 : Int) p = true) :
    Calls Try.prog 10 #[.slice A m.length cap, .int .u8 k, .int .u32 p, .int .u32 x] w fun e w' => e = .returned (.bool true) ∧ Below w.heap.size w w' := by
  have hl' : m.length ≤ 9223372036854775807 := by omega
  have hbb := (((Below.refl w.heap.size w).alloc (Nat.le_refl _) (.cells #[.int .i64 16, .int .i64 17, .int .i64 18] 3)).alloc (by simp) (.cells #[.int .u32 255, .int .u32 65535, .int .u32 4294967295] 27)).alloc (by simp; omega) (.cells #[.int .i64 1, .int .i64 2, .int .i64 4] 3)
  have hop := Lib.hid (show (18 : Int) = 16 ∨ (18 : Int) = 17 ∨ (18 : Int) = 18 by decide)
  have hsz : sizeI (18 : Int) = 4 := rfl
  have hlen : (putW m (18 : Int) p.toNat x).length = m.length := putW_length _ _ _ _
  have hld := loadP_back m (18 : Int) p x hop.out h0 hx0 hx1 hlen hok
  have hin : (p.toNat : Int) + 4 ≤ m.length := by
    simp only [storeOk, Bool.and_eq_true] at hok
    have h2 := hok.2
    unfold thereB at h2
    simp only [Bool.and_eq_true, decide_eq_true_eq, hsz] at h2
    omega
  have hoth : ∀ j : Nat, (j : Int) < p ∨ p + 4 ≤ j → (putW m (18 : Int) p.toNat x).getD j 0 = m.getD j 0 := fun j hj => back_other m (18 : Int) p.toNat j x hop.out (by rw [hsz]; exact hin) (by rw [hsz]; omega)
  have hM2 : Bytes (putW m (18 : Int) p.toNat x) := putW_bytes m (18 : Int) p.toNat x hb
  generalize hMM : putW m (18 : Int) p.toNat x = M at hlen hld hoth hM2
  have HM := Lib.hid hMM
  have Hlen := Lib.hid hlen
  have Hld := Lib.hid hld
  have Hoth := Lib.hid hoth
  have Hok := Lib.hid hok
  have hms := (show bits .and .u32 x 4294967295 = x % 4294967296 from and_mask x 32 (by omega) hx0 hx1)
  clear hMM hlen hld hoth hok hsz hop
  go_enter Try.func10, Try.ntmps10
  go_wp2_with (first
    | (go_at_call 32; (with_reducible refine (store_any A cap m (18 : Int) p x _ h0 h1 hl hx0 hx1 ((hA.below hbb).mono hbb.size) hnil).mono ?_); rintro e w2 ⟨v2, rfl, hb2, hs2, hn2⟩; rw [Hok.out]; have ho2 := hs2 Hok.out; rw [HM.out] at ho2; obtain ⟨A2, c2, rfl⟩ := own_value ho2; have hbb2 := hbb.trans (hb2.mono hbb.size); clear hs2 hn2; have hq2 : Blk w2 (w.heap.size + 1) 27 #[.int .u32 255, .int .u32 65535, .int .u32 4294967295] := (by have h := (((Blk.new (w.alloc (.cells #[.int .i64 16, .int .i64 17, .int .i64 18] 3)) 27 #[.int .u32 255, .int .u32 65535, .int .u32 4294967295]).alloc (.cells #[.int .i64 1, .int .i64 2, .int .i64 4] 3)).ext hb2); simp only [World.size_alloc] at h; exact h); have hq3 := hq2.cell; clear hq2)
    | (go_at_call 36; (with_reducible refine (loads_any (18 : Int) _ (by decide)).mono ?_); rintro e w3 ⟨rfl, rfl⟩)
    | (go_at_call 31; have hL := load_any A2 c2 M (loadsI (18 : Int)) p w2 h0 h1 (by rw [Hlen.out]; exact hl') hM2 (IntsAt.own ho2); rw [Hlen.out, Hld.out] at hL; (with_reducible refine hL.mono ?_); rintro e w4 ⟨rfl, rfl⟩))
  go_loopw [22] (fun v22 wr => ∃ i : Nat, v22 = .int .i64 i ∧ i ≤ m.length ∧ Below w2.heap.size w2 wr) (fun v _ => m.length - (intOf v).toNat)
  case atStart => exact ⟨0, rfl, by omega, Below.refl _ _⟩
  case round =>
    obtain ⟨i, rfl, hi, hbr⟩ := hrel
    by_cases hlt : i < m.length
    · obtain ⟨bA, oA, rfl, hbA, hcA⟩ := ((hA.below hbb2).below (hbr.mono hbb2.size)).at_ hlt
      obtain ⟨bM, oM, rfl, hbM, hcM⟩ := ((IntsAt.own ho2).below hbr).at_ (n := i) (by rw [Hlen.out]; exact hlt)
      have cA := hcA i hlt
      have cM := hcM i (by rw [Hlen.out]; exact hlt)
      clear hcA hcM
      have zr := hbr.size
      have z2 := hbb2.size
      have zA : bA < wr.heap.size := by omega
      have zM : bM < wr.heap.size := by omega
      rcases t1 : decide ((i : Int) < p) with _ | _ <;> rcases t2 : decide (p + 4 ≤ (i : Int)) with _ | _
      all_goals
        first
        | (have ho := Hoth.out i (.inl (of_decide_eq_true t1)); rw [ho] at cM; clear ho)
        | (have ho := Hoth.out i (.inr (of_decide_eq_true t2)); rw [ho] at cM; clear ho)
        | skip
        generalize m.getD i 0 = y at cA cM
        try generalize M.getD i 0 = y2 at cM
        have ey : (y == y) = true := by simp
        go_wp2
        refine wp_region_below (by kernel_rfl) (by kernel_rfl) ?_
        repeat' (first
          | refine wpMix_plain rfl ?_
          | (refine' wpMixW_quiet _ (fun wq hwq K hK => ?_) ?_ ?_
             rotate_left 1
             · (obtain ⟨hcq, hfq⟩ := bcell hwq
                go_wp2_with (fail)
                all_goals exact hK _ hwq)
             · rfl)
          | (refine wpMix_guardT rfl rfl rfl ?_ ?_ <;> intro hc <;> first | (cases hc; done) | ((try cases hc); simp only [Act.put, List.setIfInBounds_toArray, List.set_cons_succ, List.set_cons_zero]))
          | (refine wpMix_guardF rfl rfl rfl ?_ ?_ <;> intro hc <;> first | (cases hc; done) | ((try cases hc); simp only [Act.put, List.setIfInBounds_toArray, List.set_cons_succ, List.set_cons_zero]))
          | refine wpMix_guardU rfl rfl rfl ?_)
        all_goals
          refine wpMix_nil ?_
          intro w4 hw4
          go_wp2
          go_roundw
          case rel => exact ⟨i + 1, by go_num, by omega, hbr.trans (hw4.mono zr)⟩
          case measure => simp [intOf]; omega
    · go_wp2
      go_ret
      exact ⟨rfl, hbb2.trans (hbr.mono hbb2.size)⟩
theorem memBack_walk (A : Option Addr) (cap : Nat) (m : List Int) (k p x : Int) (w : World) (hl : m.length ≤ 140737488351232) (hk0 : 0 ≤ k) (hk1 : k ≤ 255) (h0 : 0 ≤ p) (h1 : p ≤ 4294967295) (hx0 : 0 ≤ x) (hx1 : x ≤ 4294967295)
    (hb : Bytes m) (hA : IntsAt w w.heap.size .u8 A m) (hnil : A = none → m = []) :
    Calls Try.prog 10 #[.slice A m.length cap, .int .u8 k, .int .u32 p, .int .u32 x] w fun e w' => e = .returned (.bool true) ∧ Below w.heap.size w w' := by
  obtain hk | hk | hk : k % 3 = 0 ∨ k % 3 = 1 ∨ k % 3 = 2 := by omega
  · cases hok : storeOk m.length 16 p
    · exact memBack_no_16 A cap m k p x w hl hk0 hk1 hk h0 h1 hx0 hx1 hb hA hnil hok
    · exact memBack_yes_16 A cap m k p x w hl hk0 hk1 hk h0 h1 hx0 hx1 hb hA hnil hok
  · cases hok : storeOk m.length 17 p
    · exact memBack_no_17 A cap m k p x w hl hk0 hk1 hk h0 h1 hx0 hx1 hb hA hnil hok
    · exact memBack_yes_17 A cap m k p x w hl hk0 hk1 hk h0 h1 hx0 hx1 hb hA hnil hok
  · cases hok : storeOk m.length 18 p
    · exact memBack_no_18 A cap m k p x w hl hk0 hk1 hk h0 h1 hx0 hx1 hb hA hnil hok
    · exact memBack_yes_18 A cap m k p x w hl hk0 hk1 hk h0 h1 hx0 hx1 hb hA hnil hok
end Go.Proofs.Ytapgojgcmlnbgaa
