/- RenameTells, walked. -/
import Derived.Test.YtapgojgcmlnbgaaRef7Undo
import Derived.Test.YtapgojgcmlnbgaaMapAt
namespace Go.Proofs.Ytapgojgcmlnbgaa
open Go.RowKit

/-- A map's box that was just laid: all that lay there lies there. -/
theorem laid_below {w w' : World} {o : Obj} {B : Nat} (h : (w.alloc o).grownBy w' (some w.heap.size)) (hB : B ≤ w.heap.size) : Below B w w' :=
  below_grown (((Below.refl w.heap.size w).alloc (Nat.le_refl _) o).mono hB) h (by simp; omega) hB
set_option maxRecDepth 100000 in
set_option maxHeartbeats 4000000 in
theorem renameTells_walk {m : RMap} {v : Value} (w : World) (h : MapV w m v) (phys rd p : Int) (hp0 : -9223372036854775808 ≤ phys) (hp1 : phys ≤ 9223372036854775807) (hr0 : -9223372036854775808 ≤ rd) (hr1 : rd ≤ 9223372036854775807)
    (hq0 : -9223372036854775808 ≤ p) (hq1 : p ≤ 9223372036854775807) (hfew : m.free.length < 17592186044000) :
    Calls Try.prog 12 #[v, .int .i64 phys, .int .i64 rd, .int .i64 p] w fun e w' => e = .returned (.bool true) ∧ Below w.heap.size w w' := by
  have hv := h
  obtain ⟨A, cap, rfl, h⟩ := h
  have hs := map_info (phys := m.phys) (A := A) (n := m.free.length) (cap := cap) h.len
  generalize mapCells m.phys m.regs A m.free.length cap = cs at *
  have CN := Lib.hid (fun W => new_any phys W hp0 hp1)
  have CR := Lib.hid (fun W => rnew_any phys W hp0 hp1)
  have CM := Lib.hid (fun W (hb : Below w.heap.size w W) => may_any (hv.ext hb))
  have CY := Lib.hid (fun W (hb : Below w.heap.size w W) => rmay_any (hv.ext hb))
  have CT := Lib.hid (fun W (hb : Below w.heap.size w W) => take_any (hv.ext hb) rd hr0 hr1)
  have CQ := Lib.hid (fun W (hb : Below w.heap.size w W) => rtake_any (hv.ext hb) rd hr0 hr1)
  have CG := Lib.hid (fun W (hb : Below w.heap.size w W) => give_any (hv.ext hb) p hq0 hq1 hfew)
  have CH := Lib.hid (fun W (hb : Below w.heap.size w W) => rgive_any (hv.ext hb) p hq0 hq1 hfew)
  have CU := Lib.hid (fun W (hb : Below w.heap.size w W) => undo_any (hv.ext hb) rd p hr0 hr1 hq0 hq1 hfew)
  have CV := Lib.hid (fun W (hb : Below w.heap.size w W) => rundo_any (hv.ext hb) rd p hr0 hr1 hq0 hq1 hfew)
  clear hv h hp0 hp1 hr0 hr1 hq0 hq1 hfew
  generalize newD phys = mn at *
  generalize m.may = X at *
  generalize takeD m rd = td at *
  generalize (takeP m rd).isSome = b1 at *
  generalize giveD m p = mg at *
  generalize (giveP m p).isSome = b2 at *
  generalize undoD m rd p = mu at *
  generalize (undoP m rd p).isSome = b3 at *
  generalize (if 33 ≤ phys ∧ phys ≤ 96 then (0 : Int) else 3) = E at *
  obtain ⟨mt, one, old⟩ := td
  simp only at CT CQ
  have e0 : (E != E) = false := by simp
  have e1 : (X != X) = false := by simp
  have e2 : (b1 != b1) = false := by simp
  have e3 : (one != one) = false := by simp
  have e4 : (old != old) = false := by simp
  have e5 : (b2 == b2) = true := by simp
  have e6 : (b3 == b3) = true := by simp
  go_enter Try.func12, Try.ntmps12
  go_upto_region 1 with (fail)
  go_simp
  refine wp_gen fun wa hq => ?_
  have hb : Below w.heap.size w wa := by rw [hq]; exact (Below.refl w.heap.size w).alloc (Nat.le_refl _) _
  have hB : Blk wa w.heap.size 50 cs := by rw [hq]; exact Blk.new w 50 cs
  clear hq
  -- New, twice
  go_upto_region 2 with (first
    | (go_at_call 25; (with_reducible refine (CN.out _).mono ?_); rintro e w1 ⟨v1, rfl, hb1, hF1⟩; obtain ⟨cs1, rfl⟩ := hF1.agg)
    | (refine wpList_store_map rfl _ _ rfl w1.heap.size mn cs1 (Blk.new w1 _ _) ?_ (mapV_new hF1.v) ?_ ?_ ?_; rotate_left 3; intro w2 hM hg; rotate_left 1; rfl; rfl; rfl))
  go_simp
  have hb2 : Below wa.heap.size wa w2 := hb1.trans ((laid_below hg (Nat.le_refl _)).mono hb1.size)
  have hM1 := hM
  replace hB := hB.ext hb2
  replace hb := hb.trans (hb2.mono hb.size)
  clear hF1 hM hg hb1 hb2 CN
  go_upto_region 3 with (first
    | (go_at_call 37; (with_reducible refine (CR.out _).mono ?_); rintro e w3 ⟨v1, rfl, hb1, hF1⟩; obtain ⟨cs2, rfl⟩ := hF1.agg)
    | (refine wpList_store_map rfl _ _ rfl w3.heap.size mn cs2 (Blk.new w3 _ _) ?_ (mapV_new hF1.v) ?_ ?_ ?_; rotate_left 3; intro w4 hM hg; rotate_left 1; rfl; rfl; rfl))
  go_simp
  have hb2 : Below w2.heap.size w2 w4 := hb1.trans ((laid_below hg (Nat.le_refl _)).mono hb1.size)
  obtain ⟨A2, cap2, hB2, hI2⟩ := hM
  obtain ⟨A1, cap1, hB1, hI1⟩ := hM1.ext hb2
  have s1 := map_info (phys := mn.phys) (A := A1) (n := mn.free.length) (cap := cap1) hI1.len
  have s2 := map_info (phys := mn.phys) (A := A2) (n := mn.free.length) (cap := cap2) hI2.len
  have V1 : MapV w4 mn (.agg (mapCells mn.phys mn.regs A1 mn.free.length cap1)) := ⟨A1, cap1, rfl, hI1⟩
  have V2 : MapV w4 mn (.agg (mapCells mn.phys mn.regs A2 mn.free.length cap2)) := ⟨A2, cap2, rfl, hI2⟩
  generalize mapCells mn.phys mn.regs A1 mn.free.length cap1 = c1 at *
  generalize mapCells mn.phys mn.regs A2 mn.free.length cap2 = c2 at *
  replace hB := hB.ext hb2
  replace hb := hb.trans (hb2.mono hb.size)
  clear hF1 hM1 hg hb1 hb2 hI1 hI2 CR
  have z0 := hB.lt
  have z1 := hB1.lt
  have z2 := hB2.lt
  refine wp_region_below (by kernel_rfl) (by kernel_rfl) ?_
  repeat' (first
    | refine wpMix_plain rfl ?_
    | (refine' wpMixW_quiet _ (fun wq hwq K hK => ?_) ?_ ?_
       rotate_left 1
       · (skip
          first
          | (first | (refine wp_load_all 50 _ rfl w1.heap.size rfl 50 c1 _ (hB1.ext hwq) Try.underlying50 rfl s1 ?_; exact hK _ hwq) | (refine wp_load_all 50 _ rfl w3.heap.size rfl 50 c2 _ (hB2.ext hwq) Try.underlying50 rfl s2 ?_; exact hK _ hwq) | (refine wp_load_all 50 _ rfl w.heap.size rfl 50 cs _ (hB.ext hwq) Try.underlying50 rfl hs ?_; exact hK _ hwq))
          | (go_wp2_with (first | (go_at_call 30; refine (same_any (V1.ext hwq) (V2.ext hwq)).mono ?_; rintro e wz ⟨rfl, hbz⟩; exact hK _ (hwq.trans (hbz.mono hwq.size))) | (go_at_call 27; refine (CM.out _ (hb.trans (hwq.mono hb.size))).mono ?_; rintro e wz ⟨rfl, hbz⟩; exact hK _ (hwq.trans (hbz.mono hwq.size))) | (go_at_call 38; refine (CY.out _ (hb.trans (hwq.mono hb.size))).mono ?_; rintro e wz ⟨rfl, hbz⟩; exact hK _ (hwq.trans (hbz.mono hwq.size))))
             all_goals exact hK _ hwq))
       · rfl)
    | (refine wpMix_guardT rfl rfl rfl ?_ ?_ <;> intro hc <;> first | (cases hc; done) | ((try cases hc); simp only [Act.put, List.setIfInBounds_toArray, List.set_cons_succ, List.set_cons_zero]))
    | (refine wpMix_guardF rfl rfl rfl ?_ ?_ <;> intro hc <;> first | (cases hc; done) | ((try cases hc); simp only [Act.put, List.setIfInBounds_toArray, List.set_cons_succ, List.set_cons_zero]))
    | refine wpMix_guardU rfl rfl rfl ?_)
  all_goals
    refine wpMix_nil ?_
    intro w5 hw5
    replace hB := hB.ext hw5
    replace hb := hb.trans (hw5.mono hb.size)
    clear hB1 hB2 V1 V2 s1 s2 z0 z1 z2 hw5
    go_upto_region 6 with (first
      | (refine wpList_load_all rfl 50 _ rfl w.heap.size rfl 50 cs _ hB Try.underlying50 rfl hs ?_)
      | (go_at_call 26; (with_reducible refine (CT.out _ hb).mono ?_); rintro e w6 ⟨v1, rfl, hb1, hF1⟩; obtain ⟨cs3, rfl⟩ := hF1.agg)
      | (refine wpList_store_map rfl _ _ rfl w6.heap.size mt cs3 (Blk.new w6 _ _) ?_ (mapV_new hF1.v) ?_ ?_ ?_; rotate_left 3; intro w7 hM hg; rotate_left 1; rfl; rfl; rfl))
    go_simp
    have hb2 : Below w5.heap.size w5 w7 := hb1.trans ((laid_below hg (Nat.le_refl _)).mono hb1.size)
    have hM3 := hM
    replace hB := hB.ext hb2
    replace hb := hb.trans (hb2.mono hb.size)
    clear hF1 hg hb1 hb2 hM CT
    go_upto_region 7 with (first
      | (refine wpList_load_all rfl 50 _ rfl w.heap.size rfl 50 cs _ hB Try.underlying50 rfl hs ?_)
      | (go_at_call 39; (with_reducible refine (CQ.out _ hb).mono ?_); rintro e w8 ⟨v1, rfl, hb1, hF1⟩; obtain ⟨cs4, rfl⟩ := hF1.agg)
      | (refine wpList_store_map rfl _ _ rfl w8.heap.size mt cs4 (Blk.new w8 _ _) ?_ (mapV_new hF1.v) ?_ ?_ ?_; rotate_left 3; intro w9 hM hg; rotate_left 1; rfl; rfl; rfl))
    go_simp
    have hb2 : Below w7.heap.size w7 w9 := hb1.trans ((laid_below hg (Nat.le_refl _)).mono hb1.size)
    replace hM3 := hM3.ext hb2
    have hM4 := hM
    replace hB := hB.ext hb2
    replace hb := hb.trans (hb2.mono hb.size)
    clear hF1 hg hb1 hb2 hM CQ
    obtain ⟨A3, cap3, hB3, hI3⟩ := hM3
    have s3 := map_info (phys := mt.phys) (A := A3) (n := mt.free.length) (cap := cap3) hI3.len
    have V3 : MapV w9 mt (.agg (mapCells mt.phys mt.regs A3 mt.free.length cap3)) := ⟨A3, cap3, rfl, hI3⟩
    generalize mapCells mt.phys mt.regs A3 mt.free.length cap3 = c3 at *
    clear hI3
    obtain ⟨A4, cap4, hB4, hI4⟩ := hM4
    have s4 := map_info (phys := mt.phys) (A := A4) (n := mt.free.length) (cap := cap4) hI4.len
    have V4 : MapV w9 mt (.agg (mapCells mt.phys mt.regs A4 mt.free.length cap4)) := ⟨A4, cap4, rfl, hI4⟩
    generalize mapCells mt.phys mt.regs A4 mt.free.length cap4 = c4 at *
    clear hI4
    have z0 := hB.lt
    have z3 := hB3.lt
    have z4 := hB4.lt
    go_upto_region 9 with (first
      | (refine wpList_want rfl fun K hK => ?_; refine wp_load_all 50 _ rfl w6.heap.size rfl 50 c3 _ hB3 Try.underlying50 rfl s3 ?_; refine hK _ _ ?_)
      | (refine wpList_want rfl fun K hK => ?_; refine wp_load_all 50 _ rfl w8.heap.size rfl 50 c4 _ hB4 Try.underlying50 rfl s4 ?_; refine hK _ _ ?_)
      | (go_at_call 30; (with_reducible refine (same_any V3 V4).mono ?_); rintro e wz ⟨rfl, hb2⟩))
    go_simp
    replace hB := hB.ext hb2
    replace hb := hb.trans (hb2.mono hb.size)
    clear hB3 hB4 V3 V4 s3 s4 z0 z3 z4 hb2
    go_upto_region 10 with (first
      | (refine wpList_load_all rfl 50 _ rfl w.heap.size rfl 50 cs _ hB Try.underlying50 rfl hs ?_)
      | (go_at_call 28; (with_reducible refine (CG.out _ hb).mono ?_); rintro e wa1 ⟨v1, rfl, hb1, hF1⟩; obtain ⟨cs5, rfl⟩ := hF1.agg)
      | (refine wpList_store_map rfl _ _ rfl wa1.heap.size mg cs5 (Blk.new wa1 _ _) ?_ (mapV_new hF1.v) ?_ ?_ ?_; rotate_left 3; intro wa2 hM hg; rotate_left 1; rfl; rfl; rfl))
    go_simp
    have hb2 : Below wz.heap.size wz wa2 := hb1.trans ((laid_below hg (Nat.le_refl _)).mono hb1.size)
    have hM5 := hM
    replace hB := hB.ext hb2
    replace hb := hb.trans (hb2.mono hb.size)
    clear hF1 hg hb1 hb2 hM CG
    go_upto_region 11 with (first
      | (refine wpList_load_all rfl 50 _ rfl w.heap.size rfl 50 cs _ hB Try.underlying50 rfl hs ?_)
      | (go_at_call 40; (with_reducible refine (CH.out _ hb).mono ?_); rintro e wa3 ⟨v1, rfl, hb1, hF1⟩; obtain ⟨cs6, rfl⟩ := hF1.agg)
      | (refine wpList_store_map rfl _ _ rfl wa3.heap.size mg cs6 (Blk.new wa3 _ _) ?_ (mapV_new hF1.v) ?_ ?_ ?_; rotate_left 3; intro wa4 hM hg; rotate_left 1; rfl; rfl; rfl))
    go_simp
    have hb2 : Below wa2.heap.size wa2 wa4 := hb1.trans ((laid_below hg (Nat.le_refl _)).mono hb1.size)
    replace hM5 := hM5.ext hb2
    have hM6 := hM
    replace hB := hB.ext hb2
    replace hb := hb.trans (hb2.mono hb.size)
    clear hF1 hg hb1 hb2 hM CH
    go_upto_region 12 with (first
      | (refine wpList_load_all rfl 50 _ rfl w.heap.size rfl 50 cs _ hB Try.underlying50 rfl hs ?_)
      | (go_at_call 29; (with_reducible refine (CU.out _ hb).mono ?_); rintro e wa5 ⟨v1, rfl, hb1, hF1⟩; obtain ⟨cs7, rfl⟩ := hF1.agg)
      | (refine wpList_store_map rfl _ _ rfl wa5.heap.size mu cs7 (Blk.new wa5 _ _) ?_ (mapV_new hF1.v) ?_ ?_ ?_; rotate_left 3; intro wa6 hM hg; rotate_left 1; rfl; rfl; rfl))
    go_simp
    have hb2 : Below wa4.heap.size wa4 wa6 := hb1.trans ((laid_below hg (Nat.le_refl _)).mono hb1.size)
    replace hM5 := hM5.ext hb2
    replace hM6 := hM6.ext hb2
    have hM7 := hM
    replace hB := hB.ext hb2
    replace hb := hb.trans (hb2.mono hb.size)
    clear hF1 hg hb1 hb2 hM CU
    go_upto_region 13 with (first
      | (refine wpList_load_all rfl 50 _ rfl w.heap.size rfl 50 cs _ hB Try.underlying50 rfl hs ?_)
      | (go_at_call 41; (with_reducible refine (CV.out _ hb).mono ?_); rintro e wa7 ⟨v1, rfl, hb1, hF1⟩; obtain ⟨cs8, rfl⟩ := hF1.agg)
      | (refine wpList_store_map rfl _ _ rfl wa7.heap.size mu cs8 (Blk.new wa7 _ _) ?_ (mapV_new hF1.v) ?_ ?_ ?_; rotate_left 3; intro wa8 hM hg; rotate_left 1; rfl; rfl; rfl))
    go_simp
    have hb2 : Below wa6.heap.size wa6 wa8 := hb1.trans ((laid_below hg (Nat.le_refl _)).mono hb1.size)
    replace hM5 := hM5.ext hb2
    replace hM6 := hM6.ext hb2
    replace hM7 := hM7.ext hb2
    have hM8 := hM
    replace hB := hB.ext hb2
    replace hb := hb.trans (hb2.mono hb.size)
    clear hF1 hg hb1 hb2 hM CV
    obtain ⟨A5, cap5, hB5, hI5⟩ := hM5
    have s5 := map_info (phys := mg.phys) (A := A5) (n := mg.free.length) (cap := cap5) hI5.len
    have V5 : MapV wa8 mg (.agg (mapCells mg.phys mg.regs A5 mg.free.length cap5)) := ⟨A5, cap5, rfl, hI5⟩
    generalize mapCells mg.phys mg.regs A5 mg.free.length cap5 = c5 at *
    clear hI5
    obtain ⟨A6, cap6, hB6, hI6⟩ := hM6
    have s6 := map_info (phys := mg.phys) (A := A6) (n := mg.free.length) (cap := cap6) hI6.len
    have V6 : MapV wa8 mg (.agg (mapCells mg.phys mg.regs A6 mg.free.length cap6)) := ⟨A6, cap6, rfl, hI6⟩
    generalize mapCells mg.phys mg.regs A6 mg.free.length cap6 = c6 at *
    clear hI6
    obtain ⟨A7, cap7, hB7, hI7⟩ := hM7
    have s7 := map_info (phys := mu.phys) (A := A7) (n := mu.free.length) (cap := cap7) hI7.len
    have V7 : MapV wa8 mu (.agg (mapCells mu.phys mu.regs A7 mu.free.length cap7)) := ⟨A7, cap7, rfl, hI7⟩
    generalize mapCells mu.phys mu.regs A7 mu.free.length cap7 = c7 at *
    clear hI7
    obtain ⟨A8, cap8, hB8, hI8⟩ := hM8
    have s8 := map_info (phys := mu.phys) (A := A8) (n := mu.free.length) (cap := cap8) hI8.len
    have V8 : MapV wa8 mu (.agg (mapCells mu.phys mu.regs A8 mu.free.length cap8)) := ⟨A8, cap8, rfl, hI8⟩
    generalize mapCells mu.phys mu.regs A8 mu.free.length cap8 = c8 at *
    clear hI8
    have z5 := hB5.lt
    have z6 := hB6.lt
    have z7 := hB7.lt
    have z8 := hB8.lt
    go_wp2_with (first
      | (refine wpList_want rfl fun K hK => ?_; refine wp_load_all 50 _ rfl wa1.heap.size rfl 50 c5 _ hB5 Try.underlying50 rfl s5 ?_; refine hK _ _ ?_)
      | (refine wpList_want rfl fun K hK => ?_; refine wp_load_all 50 _ rfl wa3.heap.size rfl 50 c6 _ hB6 Try.underlying50 rfl s6 ?_; refine hK _ _ ?_)
      | (refine wpList_want rfl fun K hK => ?_; refine wp_load_all 50 _ rfl wa5.heap.size rfl 50 c7 _ hB7 Try.underlying50 rfl s7 ?_; refine hK _ _ ?_)
      | (refine wpList_want rfl fun K hK => ?_; refine wp_load_all 50 _ rfl wa7.heap.size rfl 50 c8 _ hB8 Try.underlying50 rfl s8 ?_; refine hK _ _ ?_)
      | (go_at_call 30; first
          | ((with_reducible refine (same_any V5 V6).mono ?_); rintro e wy ⟨rfl, hb2⟩; replace V7 := V7.ext hb2; replace V8 := V8.ext hb2; replace hB7 := hB7.ext hb2; replace hB8 := hB8.ext hb2; replace z7 := hB7.lt; replace z8 := hB8.lt; replace hb := hb.trans (hb2.mono hb.size))
          | ((with_reducible refine (same_any V7 V8).mono ?_); rintro e wx ⟨rfl, hb2⟩; replace hb := hb.trans (hb2.mono hb.size))))
    go_ret
    exact ⟨rfl, hb⟩
end Go.Proofs.Ytapgojgcmlnbgaa
