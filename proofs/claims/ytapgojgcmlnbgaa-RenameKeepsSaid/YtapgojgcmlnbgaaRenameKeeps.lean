/- RenameKeeps, walked. -/
import Derived.Test.YtapgojgcmlnbgaaMapAt
import Derived.Test.YtapgojgcmlnbgaaMemPlain
namespace Go.Proofs.Ytapgojgcmlnbgaa
open Go.RowKit

set_option maxRecDepth 100000 in
set_option maxHeartbeats 2000000 in
theorem renameKeeps_walk (phys : Int) (A : Option Addr) (cap : Nat) (l : List Int) (w : World) (hp0 : -9223372036854775808 ≤ phys) (hp1 : phys ≤ 9223372036854775807) (hl : l.length ≤ 9223372036854775807) (hbl : Bytes l) (hA : IntsAt w w.heap.size .u8 A l) :
    Calls Try.prog 7 #[.int .i64 phys, .slice A l.length cap] w fun e w' => e = .returned (.bool true) ∧ Below w.heap.size w w' := by
  have CN := fun W => new_any phys W hp0 hp1
  by_cases hok : 33 ≤ phys ∧ phys ≤ 96
  · rw [if_pos hok] at CN
    have CN := Lib.hid CN
    obtain ⟨h33, h96⟩ := hok
    obtain ⟨N, rfl⟩ := Int.eq_ofNat_of_zero_le (show 0 ≤ phys by omega)
    go_enter Try.func7, Try.ntmps7
    go_upto_region 2 with (first
      | (go_at_call 25; (with_reducible refine (CN.out _).mono ?_); rintro e w1 ⟨v1, rfl, hb1, hF1⟩; obtain ⟨cs1, rfl⟩ : ∃ cs, v1 = .agg cs := by (obtain ⟨A1, cap1, hv1, _⟩ := hF1; exact ⟨_, hv1⟩))
      | (refine wpList_store_map rfl _ _ rfl w1.heap.size (newD (N : Int)) cs1 (Blk.new w1 _ _) ?_ (mapV_new hF1.v) ?_ ?_ ?_; rotate_left 3; intro w2 hM2 hg2; rotate_left 1; rfl; rfl; rfl))
    go_simp
    have hbm : Below w1.heap.size w1 w2 := below_grown ((Below.refl _ w1).alloc (Nat.le_refl _) _) hg2 (by simp) (Nat.le_refl _)
    have hb2 := hb1.trans (hbm.mono hb1.size)
    have hgw := hb1.size
    clear hF1 hbm hg2 hb1 CN
    have hnd : newD (N : Int) = ⟨N, regs0, free0 (N - 32)⟩ := by
      unfold newD newP
      rw [if_pos ⟨h33, h96⟩]
      show RMap.mk _ _ _ = _
      congr 2
      omega
    rw [hnd] at hM2
    have hmay0 : RMap.may ⟨(N : Int), regs0, free0 (N - 32)⟩ = true := by
      have := may_new (N - 32) (by omega) (by omega)
      unfold RMap.may RMap.all
      simp only
      rw [show ((32 + (N - 32) : Nat) : Int) = (N : Int) by omega] at this
      exact this
    have hlen0 : ((free0 (N - 32)).length : Int) + 32 + 0 = N := by simp [free0]; omega
    clear hnd
    have hN96 : N ≤ 96 := by omega
    have hM2' := Lib.hid hM2
    clear hM2
    go_wp2_with (fail)
    go_loopw [7, 8] (fun v7 v8 wr => ∃ (k u : Nat) (regs free : List Int), v7 = .int .i64 u ∧ v8 = .int .i64 k ∧ k ≤ l.length ∧ k ≤ 200 ∧ Below w.heap.size w wr ∧ Hid (MapAt wr w1.heap.size ⟨N, regs, free⟩ ∧ RMap.may ⟨N, regs, free⟩ = true) ∧ free.length + 32 + u = N) (fun _ v _ => 201 - (intOf v).toNat)
    case atStart => exact ⟨0, 0, regs0, free0 (N - 32), rfl, rfl, by omega, by omega, hb2, Lib.hid ⟨hM2'.out, hmay0⟩, by omega⟩
    case round =>
      clear hM2' hmay0 hlen0 hb2
      obtain ⟨k, u, regs, free, rfl, rfl, hk, hk2, hb, HM, hu⟩ := hrel
      have hM := Lib.hid HM.out.1
      have hmay := Lib.hid HM.out.2
      have zg := HM.out.1.lt
      obtain ⟨A2, cap2, c33, _, _⟩ := HM.out.1.cells
      by_cases hend : k < l.length ∧ k < 200
      · obtain ⟨hk3, hk4⟩ := hend
        obtain ⟨bb, oo, hAe, hbb, hcc⟩ := hA.at_ hk3
        have ck := (hb.cell (p := ⟨bb, oo + k, none⟩) hbb).trans (hcc k hk3)
        have bd := hbl.getD k
        have zb : bb < wr.heap.size := Nat.lt_of_lt_of_le hbb hb.size
        clear hcc
        generalize l.getD k 0 = x at ck bd
        obtain ⟨r, hr⟩ : ∃ r : Int, x % 32 = r := ⟨x % 32, rfl⟩
        have hr0 : 0 ≤ r := by omega
        have hr31 : r ≤ 31 := by omega
        subst hAe
        have hfl : free.length ≤ 64 := by omega
        by_cases hno : r = 0 ∨ free = []
        · have CT := fun v (hV : MapV wr ⟨N, regs, free⟩ v) => take_any hV r (by omega) (by omega)
          have htk : takeP ⟨N, regs, free⟩ r = none := take_not hno
          have htd : takeD ⟨N, regs, free⟩ r = (RMap.zero, 0, 0) := by unfold takeD; rw [htk]; rfl
          rw [htd, htk] at CT
          have CT := Lib.hid CT
          have hno' : r = 0 ∨ (1 ≤ r ∧ free.length = 0) := by
            by_cases h : r = 0
            · exact Or.inl h
            · rcases hno with h' | h'
              · exact absurd h' h
              · right; rw [h']; exact ⟨by omega, rfl⟩
          clear htd htk hno
          rcases hno' with rfl | ⟨h1, h2⟩
          ·
            go_wp2_with (first
              | (refine wpList_load_mapAt rfl _ rfl w1.heap.size ⟨N, regs, free⟩ hM.out rfl ?_; intro cs2 hV2)
              | (go_at_call 26; (with_reducible refine (CT.out _ hV2).mono ?_); rintro e w3 ⟨v3, rfl, hb3, hF3⟩; obtain ⟨cs3, rfl⟩ := hF3.agg)
              | (refine wpList_store_map rfl _ _ rfl w3.heap.size RMap.zero cs3 (Blk.new w3 _ _) ?_ (mapV_new hF3.v) ?_ ?_ ?_; rotate_left 3; intro w4 hM4 hg4; rotate_left 1; rfl; rfl; rfl; have hb34 : Below w3.heap.size w3 w4 := below_grown ((Below.refl _ w3).alloc (Nat.le_refl _) _) hg4 (by simp) (Nat.le_refl _); have hb4 := hb3.trans (hb34.mono hb3.size); obtain ⟨A4, cap4, c34, _, _⟩ := (hM.out.ext hb4).cells; have z34 := (hM.out.ext hb4).lt; clear hb34 hg4))
            go_roundw
            case rel => exact ⟨k + 1, u, regs, free, rfl, by go_num, by omega, by omega, hb.trans (hb4.mono hb.size), Lib.hid ⟨hM.out.ext hb4, hmay.out⟩, hu⟩
            case measure => simp [intOf]; omega
          ·
            go_wp2_with (first
              | (refine wpList_load_mapAt rfl _ rfl w1.heap.size ⟨N, regs, free⟩ hM.out rfl ?_; intro cs2 hV2)
              | (go_at_call 26; (with_reducible refine (CT.out _ hV2).mono ?_); rintro e w3 ⟨v3, rfl, hb3, hF3⟩; obtain ⟨cs3, rfl⟩ := hF3.agg)
              | (refine wpList_store_map rfl _ _ rfl w3.heap.size RMap.zero cs3 (Blk.new w3 _ _) ?_ (mapV_new hF3.v) ?_ ?_ ?_; rotate_left 3; intro w4 hM4 hg4; rotate_left 1; rfl; rfl; rfl; have hb34 : Below w3.heap.size w3 w4 := below_grown ((Below.refl _ w3).alloc (Nat.le_refl _) _) hg4 (by simp) (Nat.le_refl _); have hb4 := hb3.trans (hb34.mono hb3.size); obtain ⟨A4, cap4, c34, _, _⟩ := (hM.out.ext hb4).cells; have z34 := (hM.out.ext hb4).lt; clear hb34 hg4))
            go_roundw
            case rel => exact ⟨k + 1, u, regs, free, rfl, by go_num, by omega, by omega, hb.trans (hb4.mono hb.size), Lib.hid ⟨hM.out.ext hb4, hmay.out⟩, hu⟩
            case measure => simp [intOf]; omega
        · obtain ⟨kk, rfl⟩ := Int.eq_ofNat_of_zero_le hr0
          obtain ⟨p, f, rfl⟩ : ∃ p f, free = p :: f := by
            cases free with
            | nil => exact absurd (Or.inr rfl) hno
            | cons p f => exact ⟨p, f, rfl⟩
          have hkk1 : 1 ≤ kk := by omega
          have hkk2 : kk ≤ 31 := by omega
          have hlr : regs.length = 32 := by obtain ⟨_, _, _, h2⟩ := HM.out.1; exact h2.len
          obtain ⟨t1, t2, t3, t4⟩ := take_is hlr hmay.out hkk1 hkk2
          have hoo : -9223372036854775808 ≤ regs.getD kk 0 ∧ regs.getD kk 0 ≤ 9223372036854775807 := by
            obtain ⟨_, _, _, h2⟩ := HM.out.1
            have hmem : regs.getD kk 0 ∈ regs := by
              have : kk < regs.length := by omega
              simp [List.getD, List.getElem?_eq_getElem this]
            exact h2.wf _ (List.mem_append_left _ hmem)
          have td : takeD ⟨N, regs, p :: f⟩ (kk : Int) = (⟨N, regs.set kk p, f⟩, p, regs.getD kk 0) := by unfold takeD; rw [t1]; rfl
          have tg : giveD ⟨N, regs.set kk p, f⟩ (regs.getD kk 0) = ⟨N, regs.set kk p, f ++ [regs.getD kk 0]⟩ := by unfold giveD; rw [t3]; rfl
          have CT := fun v (hV : MapV wr ⟨N, regs, p :: f⟩ v) => take_any hV (kk : Int) (by omega) (by omega)
          rw [td, t1] at CT
          have hfl2 : f.length < 17592186044000 := by simp only [List.length_cons] at hu; omega
          have CG := fun W v (hV : MapV W ⟨N, regs.set kk p, f⟩ v) => give_any hV (regs.getD kk 0) hoo.1 hoo.2 hfl2
          rw [tg, t3] at CG
          simp only [Option.isSome_some] at CT CG
          have hset : (regs.set kk p).getD kk 0 = p := by rw [getD_set', if_pos ⟨rfl, by omega⟩]
          have CM2 := Lib.hid (fun W v (hV : MapV W ⟨N, regs.set kk p, f⟩ v) => may_any hV)
          have CM3 := Lib.hid (fun W v (hV : MapV W ⟨N, regs.set kk p, f ++ [regs.getD kk 0]⟩ v) => may_any hV)
          have T2 := Lib.hid t2
          have T4 := Lib.hid t4
          obtain ⟨old, hold⟩ : ∃ old, old = regs.getD kk 0 := ⟨_, rfl⟩
          rw [← hold] at CT CG CM3 T4
          have Hold := Lib.hid hold
          have Hset := Lib.hid hset
          have CT := Lib.hid CT
          have CG := Lib.hid CG
          clear t1 t2 t3 t4 td tg hold hset hoo hno hr0
          by_cases h128 : 128 ≤ x
          ·
            go_upto_region 13 with (first
              | (refine wpList_load_mapAt rfl _ rfl w1.heap.size ⟨N, regs, p :: f⟩ hM.out rfl ?_; intro cs2 hV2)
              | (go_at_call 26; (with_reducible refine (CT.out _ hV2).mono ?_); rintro e w3 ⟨v3, rfl, hb3, hF3⟩; obtain ⟨cs3, rfl⟩ := hF3.agg; obtain ⟨hz3, h13, hs3, hr3⟩ := hF3.facts)
              | (refine wpList_store_all rfl 50 _ _ rfl w3.heap.size cs3 rfl rfl 50 _ (Blk.new w3 _ _) hs3 (by rw [hz3]; rfl) h13 ?_; intro w4 hB4 hg4; have hb34 : Below w3.heap.size w3 w4 := below_grown ((Below.refl _ w3).alloc (Nat.le_refl _) _) hg4 (by simp) (Nat.le_refl _); have hb4 := hb3.trans (hb34.mono hb3.size); obtain ⟨A4, cap4, c34, r34, f34⟩ := (hM.out.ext hb4).cells; have z34 := (hM.out.ext hb4).lt))
            try go_simp
            have hF4 := Lib.hid (hF3.ext hb34)
            have p34 := hB4.cell (1 + kk)
            rw [hr3 kk (by omega)] at p34
            have Hset' := Hset.out
            try simp only at p34
            rw [Hset'] at p34
            have q34 := r34 kk (by omega)
            try simp only at q34
            rw [← Hold.out] at q34
            obtain ⟨b5, o5, rfl, hb5l, c5⟩ := f34 (by simp)
            have c5' : w4.cell? ⟨b5, o5, none⟩ = some (.int .i64 p) := c5
            have z4 := hB4.lt
            have zw := hb4.size
            clear f34 c5 r34 Hset' hr3 hF3 hb34 hb3 hg4
            go_upto_region 15 with (first
              | (refine wpList_want rfl fun K hK => ?_; refine wp_load_all 50 _ rfl w3.heap.size rfl 50 cs3 _ hB4 Try.underlying50 rfl hs3 ?_; refine hK _ _ ?_)
              | (go_at_call 27; (with_reducible refine (CM2.out _ _ hF4.out.v).mono ?_); rintro e w5 ⟨rfl, hb5⟩; rw [T2.out]))
            try go_simp
            have hF5 := hF4.out.ext hb5
            have hB5 := hB4.ext hb5
            have hM5 := hM.out.ext (hb4.trans (hb5.mono hb4.size))
            obtain ⟨A6, cap6, hB6, hI6⟩ := hM5
            have hz6 := mapCells_size N regs A6 (p :: f).length cap6 hlr
            have hb5' := hb.trans ((hb4.trans (hb5.mono hb4.size)).mono hb.size)
            clear hF4 hI6 c34 p34 q34 c5' z4 zw z34 hb4 hb5 hb5l
            go_upto_region 17 with (first
              | (refine wpList_load_all rfl 50 _ rfl w3.heap.size rfl 50 cs3 _ hB5 Try.underlying50 rfl hs3 ?_)
              | (refine wpList_store_map rfl _ _ rfl w1.heap.size ⟨N, regs.set kk p, f⟩ cs3 hB6 hz6 (mapF_old hF5 zg) ?_ ?_ ?_; rotate_left 2; intro w6 hM6 hg6; rotate_left 1; rfl; rfl))
            try go_simp
            have hb6 := below_grown hb5' hg6 hb5'.size hgw
            have ck6 := (hb6.cell (p := ⟨bb, oo + k, none⟩) hbb).trans (((hb.cell (p := ⟨bb, oo + k, none⟩) hbb).symm).trans ck)
            have zb6 : bb < w6.heap.size := Nat.lt_of_lt_of_le hbb hb6.size
            clear hg6 hF5 hB5 hB6 hz6 hb5'
            go_upto_region 18 with (fail)
            have HM6 := Lib.hid hM6
            have zg6 := hM6.lt
            clear hM6
            go_upto_region 19 with (first
              | (refine wpList_load_mapAt rfl _ rfl w1.heap.size ⟨N, regs.set kk p, f⟩ HM6.out rfl ?_; intro cs6 hV6)
              | (go_at_call 28; (with_reducible refine (CG.out _ _ hV6).mono ?_); rintro e w7 ⟨v7, rfl, hb7, hF7⟩; obtain ⟨cs7, rfl⟩ := hF7.agg; obtain ⟨hz7, h17, hs7, _⟩ := hF7.facts)
              | (refine wpList_store_all rfl 50 _ _ rfl w7.heap.size cs7 rfl rfl 50 _ (Blk.new w7 _ _) hs7 (by rw [hz7]; rfl) h17 ?_; intro w8 hB8 hg8; have hb78 : Below w7.heap.size w7 w8 := below_grown ((Below.refl _ w7).alloc (Nat.le_refl _) _) hg8 (by simp) (Nat.le_refl _); have hb8 := hb7.trans (hb78.mono hb7.size)))
            try go_simp
            have hF8 := Lib.hid (hF7.ext hb78)
            clear hF7 hb78 hb7 hg8
            go_upto_region 21 with (first
              | (refine wpList_want rfl fun K hK => ?_; refine wp_load_all 50 _ rfl w7.heap.size rfl 50 cs7 _ hB8 Try.underlying50 rfl hs7 ?_; refine hK _ _ ?_)
              | (go_at_call 27; (with_reducible refine (CM3.out _ _ hF8.out.v).mono ?_); rintro e w9 ⟨rfl, hb9⟩; rw [T4.out]))
            try go_simp
            have hF9 := hF8.out.ext hb9
            have hB9 := hB8.ext hb9
            obtain ⟨A9, cap9, hBg, hIg⟩ := HM6.out.ext (hb8.trans (hb9.mono hb8.size))
            have hzg := mapCells_size N (regs.set kk p) A9 f.length cap9 hIg.len
            have hb9' := hb6.trans ((hb8.trans (hb9.mono hb8.size)).mono hb6.size)
            clear hF8 hIg hb8 hb9
            go_upto_region 22 with (first
              | (refine wpList_load_all rfl 50 _ rfl w7.heap.size rfl 50 cs7 _ hB9 Try.underlying50 rfl hs7 ?_)
              | (refine wpList_store_map rfl _ _ rfl w1.heap.size ⟨N, regs.set kk p, f ++ [old]⟩ cs7 hBg hzg (mapF_old hF9 zg6) ?_ ?_ ?_; rotate_left 2; intro wa hMa hga; rotate_left 1; rfl; rfl))
            have hba := below_grown hb9' hga hb9'.size hgw
            have hu0 : ((u : Int) + 1 - 1) = u := by omega
            go_wp2_with (fail)
            go_roundw
            case rel => exact ⟨k + 1, u, regs.set kk p, f ++ [old], by go_num, by go_num, by omega, by omega, hba, Lib.hid ⟨hMa, T4.out⟩, by simp only [List.length_cons] at hu; simp; omega⟩
            case measure => simp [intOf]; omega
          ·
            go_upto_region 13 with (first
              | (refine wpList_load_mapAt rfl _ rfl w1.heap.size ⟨N, regs, p :: f⟩ hM.out rfl ?_; intro cs2 hV2)
              | (go_at_call 26; (with_reducible refine (CT.out _ hV2).mono ?_); rintro e w3 ⟨v3, rfl, hb3, hF3⟩; obtain ⟨cs3, rfl⟩ := hF3.agg; obtain ⟨hz3, h13, hs3, hr3⟩ := hF3.facts)
              | (refine wpList_store_all rfl 50 _ _ rfl w3.heap.size cs3 rfl rfl 50 _ (Blk.new w3 _ _) hs3 (by rw [hz3]; rfl) h13 ?_; intro w4 hB4 hg4; have hb34 : Below w3.heap.size w3 w4 := below_grown ((Below.refl _ w3).alloc (Nat.le_refl _) _) hg4 (by simp) (Nat.le_refl _); have hb4 := hb3.trans (hb34.mono hb3.size); obtain ⟨A4, cap4, c34, r34, f34⟩ := (hM.out.ext hb4).cells; have z34 := (hM.out.ext hb4).lt))
            try go_simp
            have hF4 := Lib.hid (hF3.ext hb34)
            have p34 := hB4.cell (1 + kk)
            rw [hr3 kk (by omega)] at p34
            have Hset' := Hset.out
            try simp only at p34
            rw [Hset'] at p34
            have q34 := r34 kk (by omega)
            try simp only at q34
            rw [← Hold.out] at q34
            obtain ⟨b5, o5, rfl, hb5l, c5⟩ := f34 (by simp)
            have c5' : w4.cell? ⟨b5, o5, none⟩ = some (.int .i64 p) := c5
            have z4 := hB4.lt
            have zw := hb4.size
            clear f34 c5 r34 Hset' hr3 hF3 hb34 hb3 hg4
            go_upto_region 15 with (first
              | (refine wpList_want rfl fun K hK => ?_; refine wp_load_all 50 _ rfl w3.heap.size rfl 50 cs3 _ hB4 Try.underlying50 rfl hs3 ?_; refine hK _ _ ?_)
              | (go_at_call 27; (with_reducible refine (CM2.out _ _ hF4.out.v).mono ?_); rintro e w5 ⟨rfl, hb5⟩; rw [T2.out]))
            try go_simp
            have hF5 := hF4.out.ext hb5
            have hB5 := hB4.ext hb5
            have hM5 := hM.out.ext (hb4.trans (hb5.mono hb4.size))
            obtain ⟨A6, cap6, hB6, hI6⟩ := hM5
            have hz6 := mapCells_size N regs A6 (p :: f).length cap6 hlr
            have hb5' := hb.trans ((hb4.trans (hb5.mono hb4.size)).mono hb.size)
            clear hF4 hI6 c34 p34 q34 c5' z4 zw z34 hb4 hb5 hb5l
            go_upto_region 17 with (first
              | (refine wpList_load_all rfl 50 _ rfl w3.heap.size rfl 50 cs3 _ hB5 Try.underlying50 rfl hs3 ?_)
              | (refine wpList_store_map rfl _ _ rfl w1.heap.size ⟨N, regs.set kk p, f⟩ cs3 hB6 hz6 (mapF_old hF5 zg) ?_ ?_ ?_; rotate_left 2; intro w6 hM6 hg6; rotate_left 1; rfl; rfl))
            try go_simp
            have hb6 := below_grown hb5' hg6 hb5'.size hgw
            have ck6 := (hb6.cell (p := ⟨bb, oo + k, none⟩) hbb).trans (((hb.cell (p := ⟨bb, oo + k, none⟩) hbb).symm).trans ck)
            have zb6 : bb < w6.heap.size := Nat.lt_of_lt_of_le hbb hb6.size
            clear hg6 hF5 hB5 hB6 hz6 hb5'
            go_upto_region 18 with (fail)
            go_roundw
            case rel => exact ⟨k + 1, u + 1, regs.set kk p, f, by go_num, by go_num, by omega, by omega, hb6, Lib.hid ⟨hM6, T2.out⟩, by simp only [List.length_cons] at hu; omega⟩
            case measure => simp [intOf]; omega
      · have hend' : (k = l.length) ∨ (k < l.length ∧ k = 200) := by omega
        have CM := Lib.hid (fun v (hV : MapV wr ⟨N, regs, free⟩ v) => may_any hV)
        rcases hend' with rfl | ⟨h1, rfl⟩
        ·
          go_wp2_with (first
            | (refine wpList_load_mapAt rfl _ rfl w1.heap.size ⟨N, regs, free⟩ hM.out rfl ?_; intro cs2 hV2)
            | (go_at_call 27; (with_reducible refine (CM.out _ hV2).mono ?_); rintro e w3 ⟨rfl, hb3⟩; rw [hmay.out]; obtain ⟨A3, cap3, c33', _, _⟩ := (hM.out.ext hb3).cells; have zg' := (hM.out.ext hb3).lt))
          go_ret
          refine ⟨ret_bool ?_, hb.trans (hb3.mono hb.size)⟩
          simp
          omega
        ·
          go_wp2_with (first
            | (refine wpList_load_mapAt rfl _ rfl w1.heap.size ⟨N, regs, free⟩ hM.out rfl ?_; intro cs2 hV2)
            | (go_at_call 27; (with_reducible refine (CM.out _ hV2).mono ?_); rintro e w3 ⟨rfl, hb3⟩; rw [hmay.out]; obtain ⟨A3, cap3, c33', _, _⟩ := (hM.out.ext hb3).cells; have zg' := (hM.out.ext hb3).lt))
          go_ret
          refine ⟨ret_bool ?_, hb.trans (hb3.mono hb.size)⟩
          simp
          omega
  · rw [if_neg hok] at CN
    have CN := Lib.hid CN
    have hok' : phys < 33 ∨ (33 ≤ phys ∧ 96 < phys) := by omega
    rcases hok' with h1 | ⟨h1, h2⟩
    ·
      go_enter Try.func7, Try.ntmps7
      go_upto_region 2 with (first
        | (go_at_call 25; (with_reducible refine (CN.out _).mono ?_); rintro e w1 ⟨v1, rfl, hb1, hF1⟩; obtain ⟨cs1, rfl⟩ : ∃ cs, v1 = .agg cs := by (obtain ⟨A1, cap1, hv1, _⟩ := hF1; exact ⟨_, hv1⟩))
        | (refine wpList_store_map rfl _ _ rfl w1.heap.size (newD phys) cs1 (Blk.new w1 _ _) ?_ (mapV_new hF1.v) ?_ ?_ ?_; rotate_left 3; intro w2 hM2 hg2; rotate_left 1; rfl; rfl; rfl))
      go_simp
      have hbm : Below w1.heap.size w1 w2 := below_grown ((Below.refl _ w1).alloc (Nat.le_refl _) _) hg2 (by simp) (Nat.le_refl _)
      have hb2 := hb1.trans (hbm.mono hb1.size)
      have hgw := hb1.size
      clear hF1 hbm hg2 hb1 CN
      go_wp2_with (fail)
      go_ret
      exact ⟨rfl, hb2⟩
    ·
      go_enter Try.func7, Try.ntmps7
      go_upto_region 2 with (first
        | (go_at_call 25; (with_reducible refine (CN.out _).mono ?_); rintro e w1 ⟨v1, rfl, hb1, hF1⟩; obtain ⟨cs1, rfl⟩ : ∃ cs, v1 = .agg cs := by (obtain ⟨A1, cap1, hv1, _⟩ := hF1; exact ⟨_, hv1⟩))
        | (refine wpList_store_map rfl _ _ rfl w1.heap.size (newD phys) cs1 (Blk.new w1 _ _) ?_ (mapV_new hF1.v) ?_ ?_ ?_; rotate_left 3; intro w2 hM2 hg2; rotate_left 1; rfl; rfl; rfl))
      go_simp
      have hbm : Below w1.heap.size w1 w2 := below_grown ((Below.refl _ w1).alloc (Nat.le_refl _) _) hg2 (by simp) (Nat.le_refl _)
      have hb2 := hb1.trans (hbm.mono hb1.size)
      have hgw := hb1.size
      clear hF1 hbm hg2 hb1 CN
      go_wp2_with (fail)
      go_ret
      exact ⟨rfl, hb2⟩
end Go.Proofs.Ytapgojgcmlnbgaa
