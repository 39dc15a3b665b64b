/- Parts of a proof. -/
import Derived.Test.YtapgojgcmlnbgacGreatK00
import Derived.Test.YtapgojgcmlnbgacGreatK02
import Derived.Handy
import Derived.Test.YtapgojgcmlnbgacGreatProg
import Derived.ProofKit
import Derived.OpenShut
import Derived.SizedLaws
import Derived.WalkLawsBesides
import Derived.WalkSpells
import Derived.Lib.Hide
import Derived.WalkKit
import Derived.Maps.OwnSet
import Derived.Maps.OwnOps
import Derived.Deep.RegionWith
import Derived.Outline
import Derived.Deep.Cut
set_option linter.unusedSimpArgs false
set_option linter.unusedVariables false
set_option maxRecDepth 100000
set_option maxHeartbeats 16000000
namespace Go.Proofs.YtapgojgcmlnbgacGreat
open Go.RowKit
theorem G9 {w wx:World} (h:wx=w.drew) (B:Nat):Below B w wx:=by rw [h];exact(Below.refl _ _).drew
theorem Ac9 (c:Com) (b o:Nat) (T:TypeId) (hcs:Array Value) (A:Option Addr) (base cap:Nat) (m:List Int) (w:World) (hH:Blk w b T hcs) (hsz:o+35≤hcs.size) (hr0:0≤c.rd) (hr1:c.rd≤31)
  (hown:w.ownsRow base 5 1 (.slice A m.length cap) m.length (m.map (.int .u8))) (hne:(Value.slice A m.length cap).ownBlock≠some b) (hl:m.length≤9223372036854775807)
  (hm:c.many=0∨c.many=1∨c.many=2∨c.many=4) (hf:c.many=0∨(0≤c.at_∧c.at_+c.many≤m.length∧c.at_≤4294967291)) (hd0:0≤c.data) (hd1:c.data≤4294967295) :
  Calls Tryz.prog 32 #[.agg c.cells, .pointer (some ⟨b,o,none⟩), .slice A m.length cap] w fun e w'=>e = .returned (.tuple #[]) ∧
   ∃ w1,w.grownBy w1 (some b)∧Blk w1 b T (Ot hcs o c)∧w'.ownsRow base 5 1 (.slice A m.length cap) m.length ((Cs c m).map (.int .u8))∧w1.grownBy w' (Value.slice A m.length cap).ownBlock:=by
 generalize hX:Cs c m=X
 have HX:=Lib.hid hX
 clear hX
 generalize hY:Ot hcs o c=Y
 have HY:=Lib.hid hY
 clear hY
 obtain⟨c0,c1,c2,c3,c4,c5,c6,c7,c8,c9,c10⟩:=c
 dsimp only at *
 go_enter Tryz.func32,Tryz.ntmps32
 go_upto_region 1 with(fail)
 go_simp
 refine Au fun wa hq=>?_
 have hB:Blk wa w.heap.size 67 #[.int .u32 c0, .int .u32 c1, .int .i64 c2, .int .i64 c3, .int .i64 c4, .int .u32 c5, .int .u32 c6, .int .i64 c7, .int .u32 c8, .bool c9, .int .u32 c10]:=by rw [hq];exact Blk.new w _ _
 have hbl:Below w.heap.size w wa:=by rw [hq];exact(Below.refl _ _).alloc (Nat.le_refl _) _
 clear hq
 have hlt:=hH.lt
 have hHa:=hH.ext hbl
 have hga:=C4 hbl (some b)
 clear hbl
 refine Dg 112303 336 112639 [0,1,2,3,4,5,6,7,8,9,10,11,12,13,14,15,16,17] (fun w'=>Blk w' w.heap.size 67 #[.int .u32 c0, .int .u32 c1, .int .i64 c2, .int .i64 c3, .int .i64 c4, .int .u32 c5, .int .u32 c6, .int .i64 c7, .int .u32 c8, .bool c9, .int .u32 c10]) (fun w'=>w'=_) (by kernel_rfl) (by kernel_rfl) (by kernel_rfl) rfl (fun w' hw=>by rw [hw];exact hB.ext (Below.refl _ _).drew) rfl ?_
 repeat'(first
  |refine rZ ?_
  |(refine' oR _ (by decide) (by decide) (by decide) (fun wq hwq K hK=>?_) ?_ ?_;rotate_left 1;(· have d1:=hwq.cell 1;have d2:=hwq.cell 2;have d3:=hwq.cell 3;go_wp2_with(fail);all_goals exact hK);rfl)
  |fail)
 refine oB (fun w1 hw1 K hK=>?_)
 replace hga:=grownBy_trans hga (C4 (show Below wa.heap.size wa w1 by rw [hw1];exact(Below.refl _ _).drew) (some b))
 replace hB:=hB.ext (show Below wa.heap.size wa w1 by rw [hw1];exact(Below.refl _ _).drew)
 replace hHa:=hHa.ext (show Below wa.heap.size wa w1 by rw [hw1];exact(Below.refl _ _).drew)
 clear hw1
 have E0:=Lib.hid hsz
 obtain⟨v32,e32⟩:∃ v,hcs[o+32]? = some v:=⟨_,Array.getElem?_eq_getElem (by omega)⟩
 obtain⟨v33,e33⟩:∃ v,(hcs.setIfInBounds (o+32) (.int .u32 c1))[o+33]? = some v:=⟨_,Array.getElem?_eq_getElem (by simp;omega)⟩
 obtain⟨v34,e34⟩:∃ v,((hcs.setIfInBounds (o+32) (.int .u32 c1)).setIfInBounds (o+33) (.int .i64 c2))[o+34]? = some v:=⟨_,Array.getElem?_eq_getElem (by simp;omega)⟩
 have fc:=hHa.frozen (o+32)
 have fv:=hHa.cell (o+32)
 rw [e32] at fv
 go_wp2_with(fail)
 replace hHa:=hHa.set (o+32) (.int .u32 c1)
 replace hB:=hB.farAt (b:=b) (off:=o+32) (Nat.ne_of_gt hlt) (.int .u32 c1)
 replace hga:=grownBy_trans hga (Nw _ ⟨b,o+32,none⟩ (.int .u32 c1))
 refine hK undef _ hB ?_
 simp only [Act.put,sA,sS,sZ]
 clear hK K fc fv
 repeat'(first
  |refine rZ ?_
  |(refine' oR _ (by decide) (by decide) (by decide) (fun wq hwq K hK=>?_) ?_ ?_;rotate_left 1;(· have d1:=hwq.cell 1;have d2:=hwq.cell 2;have d3:=hwq.cell 3;go_wp2_with(fail);all_goals exact hK);rfl)
  |fail)
 refine oB (fun w1 hw1 K hK=>?_)
 subst hw1
 have fc:=hHa.frozen (o+33)
 have fv:=hHa.cell (o+33)
 rw [e33] at fv
 go_wp2_with(fail)
 replace hHa:=hHa.set (o+33) (.int .i64 c2)
 replace hB:=hB.farAt (b:=b) (off:=o+33) (Nat.ne_of_gt hlt) (.int .i64 c2)
 replace hga:=grownBy_trans hga (Nw _ ⟨b,o+33,none⟩ (.int .i64 c2))
 refine hK undef _ hB ?_
 simp only [Act.put,sA,sS,sZ]
 clear hK K fc fv
 repeat'(first
  |refine rZ ?_
  |(refine' oR _ (by decide) (by decide) (by decide) (fun wq hwq K hK=>?_) ?_ ?_;rotate_left 1;(· have d1:=hwq.cell 1;have d2:=hwq.cell 2;have d3:=hwq.cell 3;go_wp2_with(fail);all_goals exact hK);rfl)
  |fail)
 refine oB (fun w1 hw1 K hK=>?_)
 subst hw1
 have fc:=hHa.frozen (o+34)
 have fv:=hHa.cell (o+34)
 rw [e34] at fv
 go_wp2_with(fail)
 replace hHa:=hHa.set (o+34) (.int .i64 c3)
 replace hB:=hB.farAt (b:=b) (off:=o+34) (Nat.ne_of_gt hlt) (.int .i64 c3)
 replace hga:=grownBy_trans hga (Nw _ ⟨b,o+34,none⟩ (.int .i64 c3))
 refine hK undef _ hB ?_
 simp only [Act.put,sA,sS,sZ]
 clear hK K fc fv
 refine Aj ?_
 intro w2 hq
 rw [←hq] at hHa hB hga
 clear hq e32 e33 e34 v32 v33 v34
 try go_simp
 have d4:=hB.cell 4
 by_cases hp:0<c4
 focus
  obtain⟨n,rfl⟩:=Int.eq_ofNat_of_zero_le hr0
  have hn:n<32:=by omega
  have HY2:Hid ((((hcs.setIfInBounds (o+32) (.int .u32 c1)).setIfInBounds (o+33) (.int .i64 c2)).setIfInBounds (o+34) (.int .i64 c3)).setIfInBounds (o+n) (.int .u32 c5)=Y):=by
   refine Lib.hid ?_
   rw [←HY.out]
   unfold Ot
   rw [if_pos hp]
   rfl
  have hs3:(((hcs.setIfInBounds (o+32) (.int .u32 c1)).setIfInBounds (o+33) (.int .i64 c2)).setIfInBounds (o+34) (.int .i64 c3)).size=hcs.size:=by simp
  generalize ((hcs.setIfInBounds (o+32) (.int .u32 c1)).setIfInBounds (o+33) (.int .i64 c2)).setIfInBounds (o+34) (.int .i64 c3)=hc3 at *
  obtain⟨vn,en⟩:∃ v,hc3[o+n]? = some v:=⟨_,Array.getElem?_eq_getElem (by have:=E0.out;omega)⟩
  clear HY hs3
  go_upto_region 3 with(fail)
  try go_simp
  refine Dg 235 20 255 [0,1,2,3,4,5,6,7,8] (fun w'=>Blk w' w.heap.size 67 #[.int .u32 c0, .int .u32 c1, .int .i64 c2, .int .i64 c3, .int .i64 n, .int .u32 c5, .int .u32 c6, .int .i64 c7, .int .u32 c8, .bool c9, .int .u32 c10]) (fun w'=>w'=_) (by kernel_rfl) (by kernel_rfl) (by kernel_rfl) rfl (fun w' hw=>by rw [hw];exact hB.ext (Below.refl _ _).drew) rfl ?_
  repeat'(first
   |refine rZ ?_
   |(refine' oR _ (by decide) (by decide) (by decide) (fun wq hwq K hK=>?_) ?_ ?_;rotate_left 1;(· have d4:=hwq.cell 4;have d5:=hwq.cell 5;go_wp2_with(fail);all_goals exact hK);rfl)
   |fail)
  refine oS (fun wx hwx K hK=>?_)
  replace hga:=grownBy_trans hga (C4 (show Below w2.heap.size w2 wx by rw [hwx];exact(Below.refl _ _).drew) (some b))
  replace hB:=hB.ext (show Below w2.heap.size w2 wx by rw [hwx];exact(Below.refl _ _).drew)
  replace hHa:=hHa.ext (show Below w2.heap.size w2 wx by rw [hwx];exact(Below.refl _ _).drew)
  clear hwx d4
  have fc:=hHa.frozen (o+n)
  have fv:=hHa.cell (o+n)
  rw [en] at fv
  go_wp2_with(fail)
  replace hHa:=hHa.set (o+n) (.int .u32 c5)
  replace hB:=hB.farAt (b:=b) (off:=o+n) (Nat.ne_of_gt hlt) (.int .u32 c5)
  replace hga:=grownBy_trans hga (Nw _ ⟨b,o+n,none⟩ (.int .u32 c5))
  refine hK undef _ (fun _=>True) trivial ?_
  simp only [Act.put,sA,sS,sZ]
  clear hK K fc fv
  rw [HY2.out] at hHa
  clear HY2 en vn hn
  refine Aj ?_
  intro w2 hq
  rw [←hq] at hHa hB hga
  clear hq
  try go_simp
  generalize (n:Int)=c4 at *
 rotate_left 1
 focus
  have hY:Y=((hcs.setIfInBounds (o+32) (.int .u32 c1)).setIfInBounds (o+33) (.int .i64 c2)).setIfInBounds (o+34) (.int .i64 c3):=by
   rw [←HY.out]
   unfold Ot
   rw [if_neg hp]
  have hp':decide (0<c4)=false:=decide_eq_false hp
  rw [←hY] at hHa
  clear HY hY
  go_upto_region 4 with(fail)
  try go_simp
  clear hp hp'
 all_goals
  have hM:=hown.kept hga (Or.inr hne)
  have hgm:=grownBy_refl w2 (Value.slice A m.length cap).ownBlock
  have d7:=hB.cell 7
  rcases hm with rfl | rfl | rfl | rfl
  ·go_wp2_with(fail)
   refine wp_loop_rounds 1 ?_
   repeat any_goals (rw [rounds_succ];go_wp2_with(fail))
   (try simp only [Exit.inBlock,Exit.then])
   first | (refine bodyPost_ret (results_none rfl _ _ _) rfl ?_) | (refine bodyPost_end (results_none rfl _ _ _) rfl ?_)
   exact⟨rfl,_,hga,hHa,by rw [←HX.out];exact hM,hgm⟩
  ·obtain⟨q0,q1,q2⟩:0≤c6∧c6+1≤m.length∧c6≤4294967291:=hf.resolve_left (by decide)
   obtain⟨p,rfl⟩:=Int.eq_ofNat_of_zero_le q0
   obtain⟨g,cap',hv,hgb,hgl⟩:=hown.form (by omega)
   injection hv with hA hn' hcap
   subst hA
   have hcell:=fun(W:World) (l:List Int) (hW:W.ownsRow base 5 1 (.slice (some ⟨g,0,none⟩) m.length cap) m.length (l.map (.int .u8))) (hl:l.length=m.length) k (hk:k<1)=>(hW.cellAt (p+k) (by omega)).trans (show(l.map (Value.int .u8))[p+k]? = some (.int .u8 (l.getD (p+k) 0)) by rw [List.getElem?_map,List.getElem?_eq_getElem (by omega),List.getD_eq_getElem?_getD,List.getElem?_eq_getElem (by omega)];rfl)
   clear hown
   go_upto_region 5 with(fail)
   refine wp_loop_rounds 2 ?_
   rw [rounds_succ]
   go_upto_region 7 with(fail)
   try go_simp
   refine Dg 8059 132 8191 [0,1,2,3,4,5,6,7,8,9,10,11,12,13] (fun w'=>Blk w' w.heap.size 67 #[.int .u32 c0, .int .u32 c1, .int .i64 c2, .int .i64 c3, .int .i64 c4, .int .u32 c5, .int .u32 (p:Int), .int .i64 1, .int .u32 c8, .bool c9, .int .u32 c10]) (fun w'=>w'=_) (by kernel_rfl) (by kernel_rfl) (by kernel_rfl) rfl (fun w' hw=>by rw [hw];exact hB.ext (Below.refl _ _).drew) rfl ?_
   repeat'(first
    |refine rZ ?_
    |(refine' oR _ (by decide) (by decide) (by decide) (fun wq hwq K hK=>?_) ?_ ?_;rotate_left 1;(· have d6:=hwq.cell 6;have d8:=hwq.cell 8;go_wp2_with(fail);all_goals exact hK);rfl)
    |fail)
   refine oS (fun wx hwx K hK=>?_)
   have hbd:=fun B=>G9 hwx B
   replace hB:=hB.ext (hbd _)
   replace hM:=hM.kept (C4 (hbd _) none) (Or.inr (by simp [Value.ownBlock]))
   replace hgm:=grownBy_trans hgm (C4 (hbd _) (Value.slice (some ⟨g,0,none⟩) m.length cap).ownBlock)
   clear hwx hbd
   have cx:=hcell _ _ hM (by simp) 0 (by decide)
   have fx:=hM.frozenAt (p+0)
   try simp only [Nat.add_zero] at cx fx
   go_wp2_with(fail)
   have hst:=hM.stored (p+0) (.int .u8 (c8%256))
   try simp only [Nat.add_zero] at hst
   replace hM:=hst.1
   replace hgm:=grownBy_trans hgm hst.2
   replace hB:=hB.farAt (b:=g) (off:=p+0) (Nat.ne_of_gt hgl) (.int .u8 (c8%256))
   try simp only [Nat.add_zero] at hB
   refine hK undef _ (fun _=>True) trivial ?_
   simp only [Act.put,sA,sS,sZ]
   clear hK K cx fx hst
   refine Aj ?_
   intro wz hz
   rw [←hz] at hM hgm hB
   clear hz
   try go_simp
   try rw [←List.map_set] at hM
   go_wp2_with(fail)
   rw [rounds_succ]
   go_wp2_with(fail)
   (try simp only [Exit.inBlock,Exit.then])
   first | (refine bodyPost_ret (results_none rfl _ _ _) rfl ?_) | (refine bodyPost_end (results_none rfl _ _ _) rfl ?_)
   refine⟨rfl,_,hga,hHa,?_,hgm⟩
   rw [←HX.out]
   exact hM
  ·obtain⟨q0,q1,q2⟩:0≤c6∧c6+2≤m.length∧c6≤4294967291:=hf.resolve_left (by decide)
   obtain⟨p,rfl⟩:=Int.eq_ofNat_of_zero_le q0
   obtain⟨g,cap',hv,hgb,hgl⟩:=hown.form (by omega)
   injection hv with hA hn' hcap
   subst hA
   have hcell:=fun(W:World) (l:List Int) (hW:W.ownsRow base 5 1 (.slice (some ⟨g,0,none⟩) m.length cap) m.length (l.map (.int .u8))) (hl:l.length=m.length) k (hk:k<2)=>(hW.cellAt (p+k) (by omega)).trans (show(l.map (Value.int .u8))[p+k]? = some (.int .u8 (l.getD (p+k) 0)) by rw [List.getElem?_map,List.getElem?_eq_getElem (by omega),List.getD_eq_getElem?_getD,List.getElem?_eq_getElem (by omega)];rfl)
   clear hown
   go_upto_region 5 with(fail)
   refine wp_loop_rounds 3 ?_
   rw [rounds_succ]
   go_upto_region 7 with(fail)
   try go_simp
   refine Dg 8059 132 8191 [0,1,2,3,4,5,6,7,8,9,10,11,12,13] (fun w'=>Blk w' w.heap.size 67 #[.int .u32 c0, .int .u32 c1, .int .i64 c2, .int .i64 c3, .int .i64 c4, .int .u32 c5, .int .u32 (p:Int), .int .i64 2, .int .u32 c8, .bool c9, .int .u32 c10]) (fun w'=>w'=_) (by kernel_rfl) (by kernel_rfl) (by kernel_rfl) rfl (fun w' hw=>by rw [hw];exact hB.ext (Below.refl _ _).drew) rfl ?_
   repeat'(first
    |refine rZ ?_
    |(refine' oR _ (by decide) (by decide) (by decide) (fun wq hwq K hK=>?_) ?_ ?_;rotate_left 1;(· have d6:=hwq.cell 6;have d8:=hwq.cell 8;go_wp2_with(fail);all_goals exact hK);rfl)
    |fail)
   refine oS (fun wx hwx K hK=>?_)
   have hbd:=fun B=>G9 hwx B
   replace hB:=hB.ext (hbd _)
   replace hM:=hM.kept (C4 (hbd _) none) (Or.inr (by simp [Value.ownBlock]))
   replace hgm:=grownBy_trans hgm (C4 (hbd _) (Value.slice (some ⟨g,0,none⟩) m.length cap).ownBlock)
   clear hwx hbd
   have cx:=hcell _ _ hM (by simp) 0 (by decide)
   have fx:=hM.frozenAt (p+0)
   try simp only [Nat.add_zero] at cx fx
   go_wp2_with(fail)
   have hst:=hM.stored (p+0) (.int .u8 (c8%256))
   try simp only [Nat.add_zero] at hst
   replace hM:=hst.1
   replace hgm:=grownBy_trans hgm hst.2
   replace hB:=hB.farAt (b:=g) (off:=p+0) (Nat.ne_of_gt hgl) (.int .u8 (c8%256))
   try simp only [Nat.add_zero] at hB
   refine hK undef _ (fun _=>True) trivial ?_
   simp only [Act.put,sA,sS,sZ]
   clear hK K cx fx hst
   refine Aj ?_
   intro wz hz
   rw [←hz] at hM hgm hB
   clear hz
   try go_simp
   try rw [←List.map_set] at hM
   go_wp2_with(fail)
   rw [rounds_succ]
   go_upto_region 7 with(fail)
   try go_simp
   refine Dg 8059 132 8191 [0,1,2,3,4,5,6,7,8,9,10,11,12,13] (fun w'=>Blk w' w.heap.size 67 #[.int .u32 c0, .int .u32 c1, .int .i64 c2, .int .i64 c3, .int .i64 c4, .int .u32 c5, .int .u32 (p:Int), .int .i64 2, .int .u32 c8, .bool c9, .int .u32 c10]) (fun w'=>w'=_) (by kernel_rfl) (by kernel_rfl) (by kernel_rfl) rfl (fun w' hw=>by rw [hw];exact hB.ext (Below.refl _ _).drew) rfl ?_
   repeat'(first
    |refine rZ ?_
    |(refine' oR _ (by decide) (by decide) (by decide) (fun wq hwq K hK=>?_) ?_ ?_;rotate_left 1;(· have d6:=hwq.cell 6;have d8:=hwq.cell 8;go_wp2_with(fail);all_goals exact hK);rfl)
    |fail)
   refine oS (fun wx hwx K hK=>?_)
   have hbd:=fun B=>G9 hwx B
   replace hB:=hB.ext (hbd _)
   replace hM:=hM.kept (C4 (hbd _) none) (Or.inr (by simp [Value.ownBlock]))
   replace hgm:=grownBy_trans hgm (C4 (hbd _) (Value.slice (some ⟨g,0,none⟩) m.length cap).ownBlock)
   clear hwx hbd
   have cx:=hcell _ _ hM (by simp) 1 (by decide)
   have fx:=hM.frozenAt (p+1)
   try simp only [Nat.add_zero] at cx fx
   go_wp2_with(fail)
   have hst:=hM.stored (p+1) (.int .u8 (c8 / 256%256))
   try simp only [Nat.add_zero] at hst
   replace hM:=hst.1
   replace hgm:=grownBy_trans hgm hst.2
   replace hB:=hB.farAt (b:=g) (off:=p+1) (Nat.ne_of_gt hgl) (.int .u8 (c8 / 256%256))
   try simp only [Nat.add_zero] at hB
   refine hK undef _ (fun _=>True) trivial ?_
   simp only [Act.put,sA,sS,sZ]
   clear hK K cx fx hst
   refine Aj ?_
   intro wz hz
   rw [←hz] at hM hgm hB
   clear hz
   try go_simp
   try rw [←List.map_set] at hM
   go_wp2_with(fail)
   rw [rounds_succ]
   go_wp2_with(fail)
   (try simp only [Exit.inBlock,Exit.then])
   first | (refine bodyPost_ret (results_none rfl _ _ _) rfl ?_) | (refine bodyPost_end (results_none rfl _ _ _) rfl ?_)
   refine⟨rfl,_,hga,hHa,?_,hgm⟩
   rw [←HX.out]
   exact hM
  ·obtain⟨q0,q1,q2⟩:0≤c6∧c6+4≤m.length∧c6≤4294967291:=hf.resolve_left (by decide)
   obtain⟨p,rfl⟩:=Int.eq_ofNat_of_zero_le q0
   obtain⟨g,cap',hv,hgb,hgl⟩:=hown.form (by omega)
   injection hv with hA hn' hcap
   subst hA
   have hcell:=fun(W:World) (l:List Int) (hW:W.ownsRow base 5 1 (.slice (some ⟨g,0,none⟩) m.length cap) m.length (l.map (.int .u8))) (hl:l.length=m.length) k (hk:k<4)=>(hW.cellAt (p+k) (by omega)).trans (show(l.map (Value.int .u8))[p+k]? = some (.int .u8 (l.getD (p+k) 0)) by rw [List.getElem?_map,List.getElem?_eq_getElem (by omega),List.getD_eq_getElem?_getD,List.getElem?_eq_getElem (by omega)];rfl)
   clear hown
   go_upto_region 5 with(fail)
   refine wp_loop_rounds 5 ?_
   rw [rounds_succ]
   go_upto_region 7 with(fail)
   try go_simp
   refine Dg 8059 132 8191 [0,1,2,3,4,5,6,7,8,9,10,11,12,13] (fun w'=>Blk w' w.heap.size 67 #[.int .u32 c0, .int .u32 c1, .int .i64 c2, .int .i64 c3, .int .i64 c4, .int .u32 c5, .int .u32 (p:Int), .int .i64 4, .int .u32 c8, .bool c9, .int .u32 c10]) (fun w'=>w'=_) (by kernel_rfl) (by kernel_rfl) (by kernel_rfl) rfl (fun w' hw=>by rw [hw];exact hB.ext (Below.refl _ _).drew) rfl ?_
   repeat'(first
    |refine rZ ?_
    |(refine' oR _ (by decide) (by decide) (by decide) (fun wq hwq K hK=>?_) ?_ ?_;rotate_left 1;(· have d6:=hwq.cell 6;have d8:=hwq.cell 8;go_wp2_with(fail);all_goals exact hK);rfl)
    |fail)
   refine oS (fun wx hwx K hK=>?_)
   have hbd:=fun B=>G9 hwx B
   replace hB:=hB.ext (hbd _)
   replace hM:=hM.kept (C4 (hbd _) none) (Or.inr (by simp [Value.ownBlock]))
   replace hgm:=grownBy_trans hgm (C4 (hbd _) (Value.slice (some ⟨g,0,none⟩) m.length cap).ownBlock)
   clear hwx hbd
   have cx:=hcell _ _ hM (by simp) 0 (by decide)
   have fx:=hM.frozenAt (p+0)
   try simp only [Nat.add_zero] at cx fx
   go_wp2_with(fail)
   have hst:=hM.stored (p+0) (.int .u8 (c8%256))
   try simp only [Nat.add_zero] at hst
   replace hM:=hst.1
   replace hgm:=grownBy_trans hgm hst.2
   replace hB:=hB.farAt (b:=g) (off:=p+0) (Nat.ne_of_gt hgl) (.int .u8 (c8%256))
   try simp only [Nat.add_zero] at hB
   refine hK undef _ (fun _=>True) trivial ?_
   simp only [Act.put,sA,sS,sZ]
   clear hK K cx fx hst
   refine Aj ?_
   intro wz hz
   rw [←hz] at hM hgm hB
   clear hz
   try go_simp
   try rw [←List.map_set] at hM
   go_wp2_with(fail)
   rw [rounds_succ]
   go_upto_region 7 with(fail)
   try go_simp
   refine Dg 8059 132 8191 [0,1,2,3,4,5,6,7,8,9,10,11,12,13] (fun w'=>Blk w' w.heap.size 67 #[.int .u32 c0, .int .u32 c1, .int .i64 c2, .int .i64 c3, .int .i64 c4, .int .u32 c5, .int .u32 (p:Int), .int .i64 4, .int .u32 c8, .bool c9, .int .u32 c10]) (fun w'=>w'=_) (by kernel_rfl) (by kernel_rfl) (by kernel_rfl) rfl (fun w' hw=>by rw [hw];exact hB.ext (Below.refl _ _).drew) rfl ?_
   repeat'(first
    |refine rZ ?_
    |(refine' oR _ (by decide) (by decide) (by decide) (fun wq hwq K hK=>?_) ?_ ?_;rotate_left 1;(· have d6:=hwq.cell 6;have d8:=hwq.cell 8;go_wp2_with(fail);all_goals exact hK);rfl)
    |fail)
   refine oS (fun wx hwx K hK=>?_)
   have hbd:=fun B=>G9 hwx B
   replace hB:=hB.ext (hbd _)
   replace hM:=hM.kept (C4 (hbd _) none) (Or.inr (by simp [Value.ownBlock]))
   replace hgm:=grownBy_trans hgm (C4 (hbd _) (Value.slice (some ⟨g,0,none⟩) m.length cap).ownBlock)
   clear hwx hbd
   have cx:=hcell _ _ hM (by simp) 1 (by decide)
   have fx:=hM.frozenAt (p+1)
   try simp only [Nat.add_zero] at cx fx
   go_wp2_with(fail)
   have hst:=hM.stored (p+1) (.int .u8 (c8 / 256%256))
   try simp only [Nat.add_zero] at hst
   replace hM:=hst.1
   replace hgm:=grownBy_trans hgm hst.2
   replace hB:=hB.farAt (b:=g) (off:=p+1) (Nat.ne_of_gt hgl) (.int .u8 (c8 / 256%256))
   try simp only [Nat.add_zero] at hB
   refine hK undef _ (fun _=>True) trivial ?_
   simp only [Act.put,sA,sS,sZ]
   clear hK K cx fx hst
   refine Aj ?_
   intro wz hz
   rw [←hz] at hM hgm hB
   clear hz
   try go_simp
   try rw [←List.map_set] at hM
   go_wp2_with(fail)
   rw [rounds_succ]
   go_upto_region 7 with(fail)
   try go_simp
   refine Dg 8059 132 8191 [0,1,2,3,4,5,6,7,8,9,10,11,12,13] (fun w'=>Blk w' w.heap.size 67 #[.int .u32 c0, .int .u32 c1, .int .i64 c2, .int .i64 c3, .int .i64 c4, .int .u32 c5, .int .u32 (p:Int), .int .i64 4, .int .u32 c8, .bool c9, .int .u32 c10]) (fun w'=>w'=_) (by kernel_rfl) (by kernel_rfl) (by kernel_rfl) rfl (fun w' hw=>by rw [hw];exact hB.ext (Below.refl _ _).drew) rfl ?_
   repeat'(first
    |refine rZ ?_
    |(refine' oR _ (by decide) (by decide) (by decide) (fun wq hwq K hK=>?_) ?_ ?_;rotate_left 1;(· have d6:=hwq.cell 6;have d8:=hwq.cell 8;go_wp2_with(fail);all_goals exact hK);rfl)
    |fail)
   refine oS (fun wx hwx K hK=>?_)
   have hbd:=fun B=>G9 hwx B
   replace hB:=hB.ext (hbd _)
   replace hM:=hM.kept (C4 (hbd _) none) (Or.inr (by simp [Value.ownBlock]))
   replace hgm:=grownBy_trans hgm (C4 (hbd _) (Value.slice (some ⟨g,0,none⟩) m.length cap).ownBlock)
   clear hwx hbd
   have cx:=hcell _ _ hM (by simp) 2 (by decide)
   have fx:=hM.frozenAt (p+2)
   try simp only [Nat.add_zero] at cx fx
   go_wp2_with(fail)
   have hst:=hM.stored (p+2) (.int .u8 (c8 / 65536%256))
   try simp only [Nat.add_zero] at hst
   replace hM:=hst.1
   replace hgm:=grownBy_trans hgm hst.2
   replace hB:=hB.farAt (b:=g) (off:=p+2) (Nat.ne_of_gt hgl) (.int .u8 (c8 / 65536%256))
   try simp only [Nat.add_zero] at hB
   refine hK undef _ (fun _=>True) trivial ?_
   simp only [Act.put,sA,sS,sZ]
   clear hK K cx fx hst
   refine Aj ?_
   intro wz hz
   rw [←hz] at hM hgm hB
   clear hz
   try go_simp
   try rw [←List.map_set] at hM
   go_wp2_with(fail)
   rw [rounds_succ]
   go_upto_region 7 with(fail)
   try go_simp
   refine Dg 8059 132 8191 [0,1,2,3,4,5,6,7,8,9,10,11,12,13] (fun w'=>Blk w' w.heap.size 67 #[.int .u32 c0, .int .u32 c1, .int .i64 c2, .int .i64 c3, .int .i64 c4, .int .u32 c5, .int .u32 (p:Int), .int .i64 4, .int .u32 c8, .bool c9, .int .u32 c10]) (fun w'=>w'=_) (by kernel_rfl) (by kernel_rfl) (by kernel_rfl) rfl (fun w' hw=>by rw [hw];exact hB.ext (Below.refl _ _).drew) rfl ?_
   repeat'(first
    |refine rZ ?_
    |(refine' oR _ (by decide) (by decide) (by decide) (fun wq hwq K hK=>?_) ?_ ?_;rotate_left 1;(· have d6:=hwq.cell 6;have d8:=hwq.cell 8;go_wp2_with(fail);all_goals exact hK);rfl)
    |fail)
   refine oS (fun wx hwx K hK=>?_)
   have hbd:=fun B=>G9 hwx B
   replace hB:=hB.ext (hbd _)
   replace hM:=hM.kept (C4 (hbd _) none) (Or.inr (by simp [Value.ownBlock]))
   replace hgm:=grownBy_trans hgm (C4 (hbd _) (Value.slice (some ⟨g,0,none⟩) m.length cap).ownBlock)
   clear hwx hbd
   have cx:=hcell _ _ hM (by simp) 3 (by decide)
   have fx:=hM.frozenAt (p+3)
   try simp only [Nat.add_zero] at cx fx
   go_wp2_with(fail)
   have hst:=hM.stored (p+3) (.int .u8 (c8 / 16777216))
   try simp only [Nat.add_zero] at hst
   replace hM:=hst.1
   replace hgm:=grownBy_trans hgm hst.2
   replace hB:=hB.farAt (b:=g) (off:=p+3) (Nat.ne_of_gt hgl) (.int .u8 (c8 / 16777216))
   try simp only [Nat.add_zero] at hB
   refine hK undef _ (fun _=>True) trivial ?_
   simp only [Act.put,sA,sS,sZ]
   clear hK K cx fx hst
   refine Aj ?_
   intro wz hz
   rw [←hz] at hM hgm hB
   clear hz
   try go_simp
   try rw [←List.map_set] at hM
   go_wp2_with(fail)
   rw [rounds_succ]
   go_wp2_with(fail)
   (try simp only [Exit.inBlock,Exit.then])
   first | (refine bodyPost_ret (results_none rfl _ _ _) rfl ?_) | (refine bodyPost_end (results_none rfl _ _ _) rfl ?_)
   refine⟨rfl,_,hga,hHa,?_,hgm⟩
   rw [←HX.out]
   have ex:c8 / 16777216%256=c8 / 16777216:=by omega
   have e4:Cs ⟨c0,c1,c2,c3,c4,c5,(p:Int),4,c8,c9,c10⟩ m=(((m.set p (c8%256)).set (p+1) (c8 / 256%256)).set (p+2) (c8 / 65536%256)).set (p+3) (c8 / 16777216):=by
    show Xe m p c8=_
    unfold Xe Qh Nj
    rw [ex]
   rw [e4]
   exact hM
structure Two (x y:Option Nat) (w w':World):Prop where
 os:w'.os=w.os
 tape:w'.tape=w.tape
 output:w'.output=w.output
 size:w.heap.size≤w'.heap.size
 block:∀ k,k<w.heap.size→some k≠x→some k≠y→w'.heap[k]? = w.heap[k]?
theorem Two.of {x y:Option Nat} {w w1 w':World} (h:w.grownBy w1 x) (k:w1.grownBy w' y):Two x y w w':=
 ⟨k.os.trans h.os,k.tape.trans h.tape,k.output.trans h.output,Nat.le_trans h.size k.size,fun j hj h1 h2=>(k.block j (Nat.lt_of_lt_of_le hj h.size) h2).trans (h.block j hj h1)⟩
theorem Two.refl (x y:Option Nat) (w:World):Two x y w w:=⟨rfl,rfl,rfl,Nat.le_refl _,fun _ _ _ _=>rfl⟩
theorem Two.trans {x y:Option Nat} {w w1 w':World} (h:Two x y w w1) (k:Two x y w1 w'):Two x y w w':=
 ⟨k.os.trans h.os,k.tape.trans h.tape,k.output.trans h.output,Nat.le_trans h.size k.size,fun j hj h1 h2=>(k.block j (Nat.lt_of_lt_of_le hj h.size) h1 h2).trans (h.block j hj h1 h2)⟩
theorem Two.grown {x y:Option Nat} {w w1 w':World} (h:Two x y w w1) {r:Option Nat} (k:w1.grownBy w' r) (hr:∀ j,r=some j→w.heap.size≤j):Two x y w w':=
 ⟨k.os.trans h.os,k.tape.trans h.tape,k.output.trans h.output,Nat.le_trans h.size k.size,fun j hj h1 h2=>(k.block j (Nat.lt_of_lt_of_le hj h.size) (fun e=>by have:=hr j e.symm;omega)).trans (h.block j hj h1 h2)⟩
theorem Two.after {x y:Option Nat} {w w1 w':World} {B:Nat} (hb:Below B w w1) (hB:w.heap.size≤B) (k:Two x y w1 w'):Two x y w w':=
 ⟨k.os.trans hb.os,k.tape.trans hb.tape,k.output.trans hb.output,Nat.le_trans hb.size k.size,fun j hj h1 h2=>(k.block j (Nat.lt_of_lt_of_le hj hb.size) h1 h2).trans (hb.block j (by omega))⟩
theorem Two.blk {x y:Option Nat} {w w':World} {g:Nat} {t:TypeId} {cs:Array Value} (k:Two x y w w') (h:Blk w g t cs) (h1:some g≠x) (h2:some g≠y):Blk w' g t cs:=(k.block g h.lt h1 h2).trans h
theorem Two.below {x y:Option Nat} {w0 w w':World} {B:Nat} (hb:Below B w0 w) (k:Two x y w w') (hB:B≤w.heap.size) (h1:∀ j,x=some j→B≤j) (h2:∀ j,y=some j→B≤j):Below B w0 w':=
 ⟨k.os.trans hb.os,k.tape.trans hb.tape,k.output.trans hb.output,Nat.le_trans hb.size k.size,fun j hj=>(k.block j (by omega) (fun e=>by have:=h1 j e.symm;omega) (fun e=>by have:=h2 j e.symm;omega)).trans (hb.block j hj)⟩
theorem Dd {w w':World} {base:Nat} {e:TypeId} {size:Nat} {v:Value} {n:Nat} {xs:List Value} (h:w.ownsRow base e size v n xs) (hb:Below w.heap.size w w'):w'.ownsRow base e size v n xs:=by
 rcases hv:v.ownBlock with _ | k
 ·exact h.kept (C4 hb none) (Or.inl hv)
 ·exact h.kept (C4 hb none) (Or.inr (by rw [hv];simp))
theorem cells_one (c:Com):c.cells.all (·.oneCell')=true:=Dw
section
variable {P:Program} {fn:Func} {tmps:Array Value} {w:World} {ad ad2:Addr} {v u x y z:Value} {p q a b c:Tmp} {ty ty2:TypeId}
end
theorem Qd {w:World} {base base':Nat} {e:TypeId} {size:Nat} {v:Value} {n:Nat} {xs:List Value} (h:w.ownsRow base e size v n xs) (hb:base'≤base):w.ownsRow base' e size v n xs:=
 ⟨h.1,h.2.imp id fun⟨g,cap,cur,e,l,r⟩=>⟨g,cap,cur,e,Nat.le_trans hb l,r⟩⟩
def Jf:Al:=⟨List.replicate 32 0,0,0,0⟩
def Aix:Com:=⟨0,0,0,0,0,0,0,0,0,false,0⟩
theorem Aei:Jf.regs.length=32:=rfl
theorem V7 {w:World} {g:Nat} {h:Al} (hl:h.regs.length=32) (hB:Blk w g 27 h.cells):(loadVar 27 ⟨g,0,none⟩).run Tryz.prog w = .ok (.agg h.cells) w:=by
 rw [G5 w g 0 27 27 h.cells h.cells.size _ hB Tryz.underlying27 rfl (B7 hl) (by omega),I9 _ _ rfl]
theorem Yd:Tryz.prog.built 27 []=some Jf.cells:=by kernel_rfl
theorem Oo {P:Program} {ops:Array Oper} {Q:Exit→Act→World→Prop} {a:Act} {w:World} {rest:List Oper} {o:Oper} (hw:Region.wanted o (yielded ops a.tmps)=true)
  (h:∀ K:Act→World→Prop,(∀ a w,wpList P ops Q rest a w→K a w)→o.wp P a w K Q):wpList P ops Q (o::rest) a w:=by
 unfold wpList
 rw [if_pos hw]
 exact Or.inl (h _ fun _ _ h=>h)
theorem Aai {P:Program} {o:Oper} {a:Act} {w:World} {K:Act→World→Prop} {Q:Exit→Act→World→Prop} (t:TypeId) (parts:Array (Nat×Operand)) (ho:o.op = .build t parts) (vals:List (Nat×Value))
  (hv:(parts.map fun(i,x)=>(i,a.eval x)).toList=vals) (cs:Array Value) (hf:P.built t vals=some cs) (h:K (a.put o.dst (.agg cs)) w):o.wp P a w K Q:=
 wp_build t parts ho (by rw [hv,hf];rfl) (by rw [hv,hf];exact h)
theorem wfU {n:Int} (h0:0≤n) (h1:n≤4294967295):(Lit.int .u32 n).wf=true:=by simp only [Lit.wf,Bool.and_eq_true,decide_eq_true_eq];exact⟨h0,h1⟩
theorem wfI {n:Int} (h0 : -9223372036854775808≤n) (h1:n≤9223372036854775807):(Lit.int .i64 n).wf=true:=by simp only [Lit.wf,Bool.and_eq_true,decide_eq_true_eq];exact⟨h0,h1⟩
def Lf:List (Option IntKind):=List.replicate 32 (some .u32)++[some .u32,some .i64,some .i64]
def Yh:List (Option IntKind):=[some .u32,some .u32,some .i64,some .i64,some .i64,some .u32,some .u32,some .i64,some .u32,none,some .u32]
theorem Agf:Tryz.prog.keyTypeAt 20 27=true:=by kernel_rfl
theorem Abc:Rr Tryz.prog 20 27 Lf=true:=by kernel_rfl
theorem Tv:Tryz.prog.eqGuardType Tryz.prog.depth 27=false:=by kernel_rfl
theorem W4:Tryz.prog.cellsOf 27=35:=by kernel_rfl
theorem Ahl:Tryz.prog.keyTypeAt 20 67=true:=by kernel_rfl
theorem Adn:Rr Tryz.prog 20 67 Yh=true:=by kernel_rfl
theorem Ado:Tryz.prog.eqGuardType Tryz.prog.depth 67=false:=by kernel_rfl
theorem Yi:Tryz.prog.cellsOf 67=11:=by kernel_rfl
theorem Tp:∀ {l:List Int} {n:Nat},l.length=n→(∀ x∈l,0≤x∧x≤4294967295)→Fits (List.replicate n (some .u32)) (l.map (Value.int .u32))
 |[],0,_,_=>trivial
 |x::l,n+1,hl,h=>⟨⟨x,rfl,wfU (h x (by simp)).1 (h x (by simp)).2⟩,Tp (by simpa using hl) fun y hy=>h y (by simp [hy])⟩
 |[],n+1,hl,_=>by cases hl
 |x::l,0,hl,_=>by cases hl
theorem Ut:∀ {vs:List Value} {n:Nat},Fits (List.replicate n (some .u32)) vs→∃ l:List Int,vs=l.map (Value.int .u32)∧l.length=n∧∀ x∈l,0≤x∧x≤4294967295
 |[],0,_=>⟨[],rfl,rfl,by simp⟩
 |v::vs,n+1,⟨⟨x,hx,hw⟩,h⟩=>by
  obtain⟨l,h1,h2,h3⟩:=Ut h
  refine⟨x::l,by simp [hx,h1],by simp [h2],fun y hy=>?_⟩
  rcases List.mem_cons.1 hy with rfl | hy
  ·exact bounds_u32 hw
  ·exact h3 y hy
 |[],n+1,h=>by cases h
 |v::vs,0,h=>by cases h
def Al.Num (h:Al):Prop:=(-9223372036854775808≤h.state∧h.state≤9223372036854775807)∧(-9223372036854775808≤h.cause∧h.cause≤9223372036854775807)
theorem Ah7 {h:Al} (hm:Ir h=true):h.Num:=by
 unfold Ir at hm
 simp at hm
 unfold Al.Num
 omega
theorem E3 (h:Al):h.cells.toList=h.regs.map (Value.int .u32)++[.int .u32 h.pc, .int .i64 h.state, .int .i64 h.cause]:=by
 unfold Al.cells
 simp
theorem V6 {h:Al} (hw:h.Wf) (hn:h.Num):Fits Lf h.cells.toList:=by
 rw [E3]
 exact(Tp hw.len hw.word).append ⟨⟨_,rfl,wfU hw.pc0 hw.pc1⟩,⟨_,rfl,wfI hn.1.1 hn.1.2⟩,⟨_,rfl,wfI hn.2.1 hn.2.2⟩,trivial⟩
theorem Za {h:Al} (hw:h.Wf) (hn:h.Num) (w:World):(binOp .eql 27 (.agg h.cells) (.agg h.cells)).run Tryz.prog w = .ok (.bool true) w:=
 Yu w Agf (by omega) (Og Tryz.underlying27 W4 (by rw [←Array.length_toList,(V6 hw hn).length];rfl)) Abc (V6 hw hn)
theorem Afw {c:Com} (hc:c.Wf):Fits Yh c.cells.toList:=by
 obtain⟨c0,c1,c2,c3,c4,c5,c6,c7,c8,c9,c10⟩:=c
 obtain⟨h0,h1,h4,h5,h6,h7,h8,h10,h2⟩:=hc
 dsimp only at *
 exact⟨⟨_,rfl,wfU h0.1 h0.2⟩,⟨_,rfl,wfU h1.1 h1.2⟩,⟨_,rfl,wfI (by omega) (by omega)⟩,⟨_,rfl,wfI (by omega) (by omega)⟩,⟨_,rfl,wfI (by omega) (by omega)⟩,⟨_,rfl,wfU h5.1 h5.2⟩,⟨_,rfl,wfU h6.1 h6.2⟩,⟨_,rfl,wfI (by omega) (by omega)⟩,⟨_,rfl,wfU h8.1 h8.2⟩,⟨_,rfl⟩,⟨_,rfl,wfU h10.1 h10.2⟩,trivial⟩
theorem Ahk {c:Com} (hc:c.Wf) (w:World):(binOp .eql 67 (.agg c.cells) (.agg c.cells)).run Tryz.prog w = .ok (.bool true) w:=
 Yu w Ahl (by omega) (Og Tryz.underlying67 Yi rfl) Adn (Afw hc)
theorem Agd:Jf.Wf:=⟨rfl,fun x hx=>by unfold Jf at hx;simp at hx;omega,by decide,by decide⟩
theorem Aej:Jf.Num:=by unfold Jf Al.Num;simp
end Go.Proofs.YtapgojgcmlnbgacGreat
namespace Go.Proofs.YtapgojgcmlnbgacGreat
open Go.ChangeShapes Go.WideShapes Go.RowKit
theorem okWide_struct {P:Program} {w:World} {base:Nat} {t:TypeId} {fs:Array Field} {r:Reach} {v:Value} (he:P.underlying t=some (.struct fs)) (h:Value.okWide P w r base t v):∃ cs,v = .agg cs:=by
 unfold Value.okWide at h
 rw [he] at h
 obtain⟨cs,hv,_⟩:=h
 exact⟨cs,hv⟩
section
variable {H:Type} {enc:TypeId×Value→H} {w:World} {base:Nat} {spare:Nat→Bool} {held:Bool}
theorem Ad9 {cs:Array Value} (h:Fits Lf cs.toList):∃ hh:Al,hh.Wf∧hh.Num∧cs=hh.cells:=by
 obtain⟨regs,h1,h2,h3⟩:=Ut (n:=32) (h.take 32)
 have hd:=h.drop 32
 have hl:=h.length
 have hl':Lf.length=35:=rfl
 generalize hrest:cs.toList.drop 32=rest at hd
 have hr3:rest.length=3:=by rw [←hrest,List.length_drop,hl,hl']
 obtain⟨a,b,c,rfl⟩:∃ a b c,rest=[a,b,c]:=by
  match rest,hr3 with
  |[a,b,c],_=>exact⟨a,b,c,rfl⟩
 obtain⟨⟨x,rfl,hx⟩,⟨y,rfl,hy⟩,⟨z,rfl,hz⟩,_⟩:=hd
 have bx:=bounds_u32 hx
 have by_:=bounds_i64 hy
 have bz:=bounds_i64 hz
 refine⟨⟨regs,x,y,z⟩,⟨h2,h3,bx.1,bx.2⟩,⟨by_,bz⟩,?_⟩
 apply Array.toList_inj.1
 rw [E3,←List.take_append_drop 32 cs.toList,h1,hrest]
theorem Aet {fuel:Nat} {cs:Array Value} {x:DataW H×List MemPlace} (h:DataW.trod enc Tryz.prog w base spare held fuel 27 (Value.agg cs).cells.toList=some x):∃ hh:Al,hh.Wf∧hh.Num∧cs=hh.cells:=
 Ad9 (N3 20 27 Lf fuel _ _ (by kernel_rfl) h)
end
theorem Abk {P:Program} {w:World} {base:Nat} {t:TypeId} {fs:Array Field} {r:Reach} {v:Value} (he:P.underlying t=some (.struct fs)) (h:Value.okWide P w r base t v):∃ cs,v = .agg cs:=by
 unfold Value.okWide at h
 rw [he] at h
 obtain⟨cs,hv,_⟩:=h
 exact⟨cs,hv⟩
def Yg:List (Option IntKind):=[some .i64,some .i64,some .i64]
theorem Af4 {cs:Array Value} (h:Fits Yg cs.toList):∃ a b c:Int,cs=#[.int .i64 a, .int .i64 b, .int .i64 c]:=by
 have hl:=h.length
 obtain⟨a,b,c,hc⟩:∃ a b c,cs.toList=[a,b,c]:=by
  match hq:cs.toList,hl with
  |[a,b,c],_=>exact⟨a,b,c,rfl⟩
 rw [hc] at h
 obtain⟨⟨x,rfl,_⟩,⟨y,rfl,_⟩,⟨z,rfl,_⟩,_⟩:=h
 exact⟨x,y,z,by apply Array.toList_inj.1;rw [hc]⟩
section
variable {H:Type} {enc:TypeId×Value→H} {w:World} {base:Nat} {spare:Nat→Bool} {held:Bool}
theorem Agr {fuel:Nat} {cs:Array Value} {x:DataW H×List MemPlace} (h:DataW.trod enc Tryz.prog w base spare held fuel 23 (Value.agg cs).cells.toList=some x):∃ a b c:Int,cs=#[.int .i64 a, .int .i64 b, .int .i64 c]:=
 Af4 (N3 20 23 Yg fuel _ _ (by kernel_rfl) h)
theorem Zp {fuel:Nat} {a:Option Addr} {len cap:Nat} {x:DataW H×List MemPlace} (h:DataW.trod enc Tryz.prog w base spare held fuel 29 [.slice a len cap]=some x) :
  ∃ l:List Int,l.length=len∧(∀ v∈l,v≤9223372036854775807)∧Aq w w.heap.size .i64 a l∧(a=none→l=[]∧cap=0)∧len≤cap∧cap≤maxLen∧(x.1 = .nil∧len=0∨∃ es sp,x.1 = .slice es sp∧es.length=len):=by
 obtain⟨l,h1,h2,h3,h4,h5⟩:=R5 Tryz.underlying29 Tryz.underlying3 (by kernel_rfl) h
 have hc:(a=none→cap=0)∧len≤cap∧cap≤maxLen:=by
  rcases open_ints Tryz.underlying29 Tryz.underlying3 (by kernel_rfl) h with⟨hcs,_⟩ | ⟨ad,len',cap',zs,hcs,hb,hl,hm,_⟩
  ·simp at hcs
   obtain⟨rfl,rfl,rfl⟩:=hcs
   exact⟨fun _=>rfl,Nat.le_refl _,Nat.zero_le _⟩
  ·simp at hcs
   obtain⟨rfl,rfl,rfl⟩:=hcs
   exact⟨fun hh=>(by cases hh),hl,hm⟩
 exact⟨l,h1,fun v hv=>(bounds_i64 (h2 v hv)).2,h3,fun hh=>⟨h4 hh,hc.1 hh⟩,hc.2.1,hc.2.2,h5⟩
end
end Go.Proofs.YtapgojgcmlnbgacGreat
namespace Go.Proofs.YtapgojgcmlnbgacGreat
open Go.RowKit
theorem Ox:(Tryz.prog.info? 3).map (fun i=>(i.zero,i.size,i.bytes))=some (some (.int .i64 0),1,8):=by kernel_rfl
theorem I8 (A:Option Addr) (n cap:Nat) (cs:List Value) (w:World) (hl:n*8≤140737488355328) (hlen:cs.length=n*1) (h1:∀ u∈cs,u.oneCell'=true)
  (hc:∀ ad,A=some ad→∀ j u,cs[j]? = some u→w.cell? (ad.add j)=some u) (hnil:A=none→n=0) :
  Calls Tryz.prog 66 #[.slice A n cap] w fun e w'=>∃ v,e = .returned v∧w'.ownsRow w.heap.size 3 1 v n cs∧Below w.heap.size w w':=by
 rcases A with _ | ad
 ·obtain rfl:=hnil rfl
  obtain rfl:cs=[]:=List.eq_nil_of_length_eq_zero (by simpa using hlen)
  have hn:=Lib.run_eql_slice_nil (P:=Tryz.prog) w 29 3 none 0 cap 0 0 Tryz.underlying29
  go_enter Tryz.func66,Tryz.ntmps66
  go_wp2
  go_ret
  exact⟨_,rfl,World.ownsRow_nil _ _ _ _,Below.refl _ _⟩
 ·have hn:=Lib.run_eql_slice_nil (P:=Tryz.prog) w 29 3 (some ad) n cap 0 0 Tryz.underlying29
  obtain⟨i0,hi,hz0,hz1,hz2⟩:=info_parts Ox
  have Hc:=Lib.hid (hc ad rfl)
  clear hc hnil
  have hown0:=World.ownsRow_lit (base:=w.heap.size) (e:=3) (size:=1) w #[] 0 (Nat.le_refl _) (by unfold maxLen;omega) rfl
  go_enter Tryz.func66,Tryz.ntmps66
  go_wp2_with(at_builtin;refine wpList_append_own _ rfl (.tmp 5) (.tmp 6) 29 rfl w.heap.size 3 i0 _ 1 8 Tryz.underlying29 hi hz0 hz1 hz2 rfl (by decide) _ 0 [] rfl hown0 ad n cap cs rfl hlen (fun j u hu=>(World.cell?_alloc_lt _ _ _ (World.block_lt_of_cell? _ _ (Hc.out j u hu))).trans (Hc.out j u hu)) h1 (by unfold maxLen;omega) (by omega) (by simp) ?_;intro v1 w1 hown1 hg1 hat1)
  go_ret
  refine⟨v1,rfl,by simpa using hown1,((Below.refl _ _).alloc (Nat.le_refl _) _).grown hg1 (by simp) (fun k hk=>?_)⟩
  cases hk
  exact Nat.le_refl _
end Go.Proofs.YtapgojgcmlnbgacGreat
namespace Go.Proofs.YtapgojgcmlnbgacGreat
open Go Go.Maps
def OwnSet (w:World) (P:Program) (k e:TypeId) (b n:Nat) (S:List Int):Prop:=
 ∃ D:DataW Unit,w.ownsMap P k (plainElem P e) b n D∧IsMap D∧∀ x:Int,D.atKey (.int .i64 x) (.lit (.bool false)) = .lit (.bool (S.contains x))
section
variable {P:Program} {k e:TypeId} {b n:Nat} {S:List Int} {w:World}
theorem OwnSet.lt (h:OwnSet w P k e b n S):b<w.heap.size:=by
 obtain⟨D,h1,_⟩:=h
 exact h1.lt
theorem OwnSet.made (w:World) (P:Program) (k e:TypeId):OwnSet (w.alloc (.map #[] 0)) P k e w.heap.size 0 []:=
 ⟨.map [],World.ownsMap_made w P k _,isMap_empty,fun _=>rfl⟩
theorem OwnSet.mono (h:OwnSet w P k e b n S) {n':Nat} (hn:n≤n'):OwnSet w P k e b n' S:=by
 obtain⟨D,h1,h2⟩:=h
 exact⟨D,h1.mono hn,h2⟩
theorem OwnSet.kept {w':World} {row:Option Nat} (h:OwnSet w P k e b n S) (hg:w.grownBy w' row) (hne:some b≠row):OwnSet w' P k e b n S:=by
 obtain⟨D,h1,h2⟩:=h
 exact⟨D,h1.kept hg hne,h2⟩
theorem OwnSet.alloc (h:OwnSet w P k e b n S) (o:Obj):OwnSet (w.alloc o) P k e b n S:=h.kept (World.grownBy_alloc w o none) (by simp)
theorem OwnSet.setCell (h:OwnSet w P k e b n S) {p:Addr} (hp:b≠p.block) (u:Value):OwnSet (w.setCell p u) P k e b n S:=by
 obtain⟨D,⟨es,clock,hb,h1⟩,h2⟩:=h
 refine⟨D,⟨es,clock,?_,h1⟩,h2⟩
 have:=RowKit.Below.heap_setCell w p u b hp
 rw [this]
 exact hb
theorem OwnSet.look {t:TypeId} (h:OwnSet w P k e b n S) (hk:P.underlying k=some (.int .i64)) (ht:P.underlying t=some (.map k e)) (he:P.underlying e=some .bool) (hz:(zeroValue e).run P w = .ok (.bool false) w)
  (x:Int) (hw:(Lit.int .i64 x).wf=true):(Instr.lookup t (.map (some b)) (.int .i64 x) false).run P w = .ok (.bool (S.contains x)) w:=by
 obtain⟨D,h1,_,h3⟩:=h
 obtain⟨v,ps,hrun,hv⟩:=h1.lookup (int_keyed hk) ht hz (plainElem_bool he false) (keyOf_int_mk hk hw)
 rw [h3] at hv
 unfold plainElem at hv
 rw [he] at hv
 cases v<;>simp at hv
 rw [hrun,hv.1]
 simp
theorem OwnSet.put {t:TypeId} (h:OwnSet w P k e b n S) (hk:P.underlying k=some (.int .i64)) (ht:P.underlying t=some (.map k e)) (he:P.underlying e=some .bool) (hn:n<maxLen)
  (x:Int) (hw:(Lit.int .i64 x).wf=true):∃ w',(Instr.mapUpdate t (.map (some b)) (.int .i64 x) (.bool true)).run P w = .ok () w'∧OwnSet w' P k e b (n+1) (x::S)∧w.grownBy w' (some b):=by
 obtain⟨D,h1,h2,h3⟩:=h
 obtain⟨w',hrun,r1,r2⟩:=h1.update (int_keyed hk) ht hn (keyOf_int_mk hk hw) (plainElem_bool he true)
 refine⟨w',hrun,⟨_,r1,h2.put _ _,fun y=>?_⟩,r2⟩
 by_cases hy:y=x
 ·subst hy
  rw [atKey_put_same h2 (by simp [WideAt.IsKeyLit])]
  simp
 ·rw [atKey_put_other (by intro hh;injection hh with _ hh;exact hy hh),h3]
  simp [hy]
end
end Go.Proofs.YtapgojgcmlnbgacGreat
namespace Go.Proofs.YtapgojgcmlnbgacGreat
open Go
def okL (phys:Int):List Int→List Int→Bool
 |_,[]=>true
 |had,p::l=>if p<0∨phys≤p∨p∈had then false else okL phys (p::had) l
def Xc (phys:Int):Bool:=decide (33≤phys∧phys≤96)
def My (phys:Int) (l:List Int):Bool:=okL phys [] l&&Xc phys
theorem Acz (phys:Int):∀ (l had:List Int),okL phys had l=true↔(∀ p∈l,0≤p∧p<phys∧p ∉ had)∧l.Nodup
 |[],had=>by simp [okL]
 |p::l,had=>by
  unfold okL
  by_cases h:p<0∨phys≤p∨p∈had
  ·rw [if_pos h]
   simp only [Bool.false_eq_true,false_iff]
   intro⟨h1,_⟩
   have:=h1 p (by simp)
   rcases h with h | h | h
   ·omega
   ·omega
   ·exact this.2.2 h
  ·rw [if_neg h,Acz phys l (p::had),List.nodup_cons]
   have h':0≤p∧p<phys∧p ∉ had:=⟨by omega,by omega,fun x=>h (Or.inr (Or.inr x))⟩
   constructor
   ·rintro⟨h1,h2⟩
    refine⟨fun q hq=>?_,?_,h2⟩
    ·rcases List.mem_cons.1 hq with rfl | hq
     ·exact h'
     ·have:=h1 q hq
      exact⟨this.1,this.2.1,fun x=>this.2.2 (by simp [x])⟩
    ·intro hp
     exact(h1 p hp).2.2 (by simp)
   ·rintro⟨h1,h2,h3⟩
    refine⟨fun q hq=>?_,h3⟩
    have:=h1 q (by simp [hq])
    refine⟨this.1,this.2.1,fun x=>?_⟩
    rcases List.mem_cons.1 x with rfl | x
    ·exact h2 hq
    ·exact this.2.2 x
theorem J4 (phys:Int) (l:List Int):My phys l=true↔((∀ p∈l,0≤p∧p<phys)∧l.Nodup)∧33≤phys∧phys≤96:=by
 unfold My Xc
 rw [Bool.and_eq_true,Acz,decide_eq_true_eq]
 simp
open Classical in
theorem set_perm (regs rest:List Int) (p:Int) (rd:Nat) (h:rd<regs.length):(regs++p::rest).Perm (regs.getD rd 0::(regs.set rd p++rest)):=by
 have e:regs.getD rd 0=regs[rd]:=by simp [List.getD,List.getElem?_eq_getElem h]
 rw [e,List.set_eq_take_append_cons_drop,if_pos h]
 have h1:regs=regs.take rd++regs[rd]::regs.drop (rd+1):=by
  rw [←List.drop_eq_getElem_cons h,List.take_append_drop]
 generalize regs[rd]=x at h1 ⊢
 generalize regs.take rd=A at h1 ⊢
 generalize regs.drop (rd+1)=B at h1 ⊢
 subst h1
 rw [List.append_assoc,List.append_assoc]
 refine List.perm_middle.trans (List.Perm.cons _ ?_)
 refine List.Perm.append_left _ ?_
 exact List.perm_middle
theorem Zn {phys:Int} {l l':List Int} (hp:l.Perm l'):My phys l=My phys l':=by
 rw [Bool.eq_iff_iff,J4,J4,hp.nodup_iff]
 constructor
 ·rintro⟨⟨h1,h2⟩,h3⟩
  exact⟨⟨fun p h=>h1 p (hp.mem_iff.2 h),h2⟩,h3⟩
 ·rintro⟨⟨h1,h2⟩,h3⟩
  exact⟨⟨fun p h=>h1 p (hp.mem_iff.1 h),h2⟩,h3⟩
theorem Zm {phys p:Int} {l:List Int}:My phys (p::l)=true↔My phys l=true∧(0≤p∧p<phys)∧p ∉ l:=by
 rw [J4,J4,List.nodup_cons]
 constructor
 ·rintro⟨⟨h1,h2,h3⟩,h4⟩
  exact⟨⟨⟨fun q hq=>h1 q (by simp [hq]),h3⟩,h4⟩,h1 p (by simp),h2⟩
 ·rintro⟨⟨⟨h1,h2⟩,h3⟩,h4,h5⟩
  refine⟨⟨fun q hq=>?_,h5,h2⟩,h3⟩
  rcases List.mem_cons.1 hq with rfl | hq
  ·exact h4
  ·exact h1 q hq
theorem T5 {phys p:Int} {regs rest:List Int} {rd:Nat} (hrd:rd<regs.length) (h:My phys (regs++p::rest)=true) :
  My phys (regs.set rd p++rest)=true∧(0≤regs.getD rd 0∧regs.getD rd 0<phys)∧regs.getD rd 0 ∉ regs.set rd p++rest:=by
 rw [Zn (set_perm regs rest p rd hrd),Zm] at h
 exact h
theorem Agm {phys p:Int} {regs free:List Int} (h:My phys (regs++free)=true) (hp:0≤p∧p<phys) (hn:p ∉ regs++free):My phys (regs++(free++[p]))=true:=by
 rw [←List.append_assoc,Zn (l':=p::(regs++free)) (by simpa using List.perm_append_comm (l₁:=regs++free) (l₂:=[p])),Zm]
 exact⟨h,hp,hn⟩
def Il:List Int:=(List.range 32).map Int.ofNat
def Ig (n:Nat):List Int:=(List.range n).map fun k=>((32+k:Nat):Int)
theorem Abj (n:Nat):Il++Ig n=(List.range (32+n)).map Int.ofNat:=by
 unfold Il Ig
 rw [List.range_add,List.map_append,List.map_map]
 rfl
theorem Ah6 (n:Nat) (h1:1≤n) (h2:n≤64):My ((32+n:Nat):Int) (Il++Ig n)=true:=by
 rw [Abj,J4]
 refine⟨⟨fun p hp=>?_,?_⟩,by omega⟩
 ·obtain⟨k,hk,rfl⟩:=List.mem_map.1 hp
  have:=List.mem_range.1 hk
  show 0≤(k:Int)∧(k:Int)<_
  omega
 ·refine List.Pairwise.map _ (fun a b hab=>?_) (List.nodup_range (n:=32+n))
  intro h
  exact hab (Int.ofNat.inj h)
structure A1 where
 phys:Int
 regs:List Int
 free:List Int
 deriving DecidableEq
def A1.zero:A1:=⟨0,List.replicate 32 0,[]⟩
def A1.all (m:A1):List Int:=m.regs++m.free
def A1.may (m:A1):Bool:=My m.phys m.all
def Gw (m:A1) (p:Int):Bool:=m.may&&(decide (0≤p)&&decide (p<m.phys)&&!decide (p∈m.all))
def Ve (phys:Int):Option A1:=if 33≤phys∧phys≤96 then some ⟨phys,Il,Ig (phys - 32).toNat⟩ else none
def Mr (m:A1) (rd:Int):Option (A1×Int×Int):=
 match m.free with
 |[]=>none
 |p::f=>if m.may=true∧1≤rd∧rd≤31 then some (⟨m.phys,m.regs.set rd.toNat p,f⟩,p,m.regs.getD rd.toNat 0) else none
def Le (m:A1) (p:Int):Option A1:=if Gw m p=true then some ⟨m.phys,m.regs,m.free++[p]⟩ else none
def Ms (m:A1) (rd old:Int):Option A1:=if Gw m old=true∧1≤rd∧rd≤31 then some ⟨m.phys,m.regs.set rd.toNat old,m.regs.getD rd.toNat 0::m.free⟩ else none
end Go.Proofs.YtapgojgcmlnbgacGreat
namespace Go.Proofs.YtapgojgcmlnbgacGreat
open Go.RowKit
def Ag (phys:Int) (regs:List Int) (A:Option Addr) (n cap:Nat):Array Value:=(.int .i64 phys::(regs.map (.int .i64)++[.slice A n cap])).toArray
theorem B5 (phys:Int) (regs:List Int) (A:Option Addr) (n cap:Nat) (h:regs.length=32):(Ag phys regs A n cap).size=34:=by simp [Ag,h]
theorem T4 (phys:Int) (regs:List Int) (A:Option Addr) (n cap:Nat):(Ag phys regs A n cap)[0]? = some (.int .i64 phys):=rfl
theorem Ek (phys:Int) (regs:List Int) (A:Option Addr) (n cap:Nat) {i:Nat} (h:i<regs.length):(Ag phys regs A n cap)[1+i]? = some (.int .i64 (regs.getD i 0)):=by
 unfold Ag
 rw [List.getElem?_toArray,Nat.add_comm 1 i,List.getElem?_cons_succ,List.getElem?_append_left (by simpa using h),List.getElem?_map]
 simp [List.getD,List.getElem?_eq_getElem h]
theorem D4 (phys:Int) (regs:List Int) (A:Option Addr) (n cap:Nat) (h:regs.length=32):(Ag phys regs A n cap)[33]? = some (.slice A n cap):=by
 unfold Ag
 rw [List.getElem?_toArray,List.getElem?_cons_succ,List.getElem?_append_right (by simp [h])]
 simp [h]
theorem V2 (m:List Int) (i j:Nat) (x:Int):(m.set i x).getD j 0=if i=j∧i<m.length then x else m.getD j 0:=by
 simp only [List.getD]
 by_cases h:i=j
 ·subst h
  by_cases h2:i<m.length
  ·rw [List.getElem?_set_self h2,if_pos ⟨rfl,h2⟩];rfl
  ·rw [if_neg (by omega),List.getElem?_eq_none (by simp;omega),List.getElem?_eq_none (by omega)]
 ·rw [List.getElem?_set_ne h,if_neg (by omega)]
theorem Gm (phys:Int) (regs:List Int) (A A':Option Addr) (n cap n' cap':Nat) (k:Nat) (p:Int) (h:regs.length=32) (hk:k<32) :
  ((Ag phys regs A n cap).setIfInBounds (1+k) (.int .i64 p)).setIfInBounds 33 (.slice A' n' cap')=Ag phys (regs.set k p) A' n' cap':=by
 apply Array.ext_getElem?
 intro i
 have hs:=B5 phys regs A n cap h
 have hs':(regs.set k p).length=32:=by simp [h]
 rw [Array.getElem?_setIfInBounds,Array.getElem?_setIfInBounds]
 simp only [Array.size_setIfInBounds,hs]
 by_cases h33:33=i
 ·subst h33
  rw [if_pos rfl,if_pos (by omega),D4 _ _ _ _ _ hs']
 rw [if_neg h33]
 rcases(show i=0∨(∃ j,j<32∧i=1+j)∨34≤i by rcases Nat.lt_or_ge i 1 with h1 | h1;left;omega;rcases Nat.lt_or_ge i 33 with h2 | h2;exact Or.inr (Or.inl ⟨i - 1,by omega,by omega⟩);right;right;omega) with rfl | ⟨j,hj,rfl⟩ | h34
 ·rw [if_neg (by omega)];rfl
 ·rw [show(Ag phys (regs.set k p) A' n' cap')[1+j]? = _ from Ek phys (regs.set k p) A' n' cap' (by rw [hs'];exact hj),V2]
  by_cases hkj:k=j
  ·subst hkj
   rw [if_pos rfl,if_pos (by omega),if_pos (by omega)]
  ·rw [if_neg (by omega),if_neg (by omega),Ek _ _ _ _ _ (by rw [h];exact hj)]
 ·rw [if_neg (by omega),Array.getElem?_eq_none (by rw [hs];exact h34),Array.getElem?_eq_none (by rw [B5 _ _ _ _ _ hs'];exact h34)]
theorem Xp {n:Int} (h0 : -9223372036854775808≤n) (h1:n≤9223372036854775807):(Lit.int .i64 n).wf=true:=by simp only [Lit.wf,Bool.and_eq_true,decide_eq_true_eq];exact⟨h0,h1⟩
theorem Nx:(Tryz.prog.info? 3).map (fun i=>(i.zero,i.size,i.bytes))=some (some (.int .i64 0),1,8):=by kernel_rfl
theorem Vn (w:World):(zeroValue 4).run Tryz.prog w = .ok (.bool false) w:=by rfl
theorem Agp (phys:Int) (had:List Int) (l:List Int) (k:Nat) (hk:k<l.length):okL phys had (l.drop k)=if l.getD k 0<0∨phys≤l.getD k 0∨l.getD k 0∈had then false else okL phys (l.getD k 0::had) (l.drop (k+1)):=by
 rw [List.drop_eq_getElem_cons hk]
 have:l.getD k 0=l[k]:=by simp [List.getD,List.getElem?_eq_getElem hk]
 rw [this]
 rfl
theorem Aae (phys:Int) (regs free:List Int) (A:Option Addr) (cap:Nat) (w:World) (hp0 : -9223372036854775808≤phys) (hp1:phys≤9223372036854775807) (hr:regs.length=32) (hl:free.length≤17592186044000) (hA:Aq w w.heap.size .i64 A free) (hnil:A=none→free=[]∧cap=0)
  (hwf:∀ x∈regs++free,-9223372036854775808≤x∧x≤9223372036854775807) :
  Calls Tryz.prog 94 #[.agg (Ag phys regs A free.length cap)] w fun e w'=>∃ v,e = .returned (.tuple #[v, .bool (My phys (regs++free))])∧Below w.heap.size w w' ∧
   (My phys (regs++free)=true→∃ b n S,v = .map (some b)∧OwnSet w' Tryz.prog 3 4 b n S∧∀ x:Int,S.contains x=(regs++free).contains x):=by
 obtain⟨l,hL⟩:∃ l,l=regs++free:=⟨_,rfl⟩
 rw [←hL] at hwf ⊢
 have hs:=B5 phys regs A free.length cap hr
 have hf:=D4 phys regs A free.length cap hr
 have h0:=T4 phys regs A free.length cap
 have hrg:∀ j u,(regs.map (Value.int .i64))[j]? = some u→(Ag phys regs A free.length cap)[1+j]? = some u:=fun j u hu=>by
  have hj:j<regs.length:=by have:=(List.getElem?_eq_some_iff.1 hu).1;simpa using this
  rw [Ek phys regs A free.length cap hj]
  rw [List.getElem?_map,List.getElem?_eq_getElem hj] at hu
  simp [List.getD,List.getElem?_eq_getElem hj] at hu ⊢
  exact hu
 have hcl:=fun W B C D=>I8 (some ⟨w.heap.size,1,none⟩) 32 32 (regs.map (Value.int .i64)) W B (by simp [hr]) (F0 _) C D
 generalize Ag phys regs A free.length cap=cs at *
 have Hrg:=Lib.hid hrg
 have Hcl:=Lib.hid hcl
 have HA:=Lib.hid hA
 have hmm:=@run_makeMap Tryz.prog
 clear hrg hcl hA
 go_enter Tryz.func94,Tryz.ntmps94
 go_upto_region 2 with(fail)
 go_simp
 refine Au fun wa hq=>?_
 have hB:Blk wa w.heap.size 55 cs:=by rw [hq];exact(Blk.new w _ _).alloc _
 have hM:OwnSet wa Tryz.prog 3 4 (w.heap.size+1) 0 []:=by rw [hq];have h:=OwnSet.made (w.alloc (.cells cs 55)) Tryz.prog 3 4;simpa using h
 have hb:Below w.heap.size w wa:=by rw [hq];exact((Below.refl _ _).alloc (Nat.le_refl _) _).alloc (by simp) _
 have hz:wa.heap.size=w.heap.size+2:=by rw [hq];simp
 clear hq
 refine Ae 203 16 219 [0,1,3,4,7,2,5,6] (by kernel_rfl) (by kernel_rfl) (by kernel_rfl) rfl ?_
 repeat'(first
  |refine rZ ?_
  |(refine' oR _ (by decide) (by decide) (by decide) (fun wq hwq K hK=>?_) ?_ ?_;rotate_left 1;(· have hc33:=(hB.ext hwq).cell 33;rw [hf] at hc33;go_wp2_with(fail);all_goals exact hK);rfl)
  |fail)
 refine oB (fun w1 hw1 K1 hK1=>?_)
 subst hw1
 have hBd:=hB.ext (Below.refl _ _).drew
 go_wp2_with(go_at_call 66;(with_reducible refine(Hcl.out _ (by decide) ?_ ?_).mono ?_);(intro ad had j u hu;obtain rfl:=Option.some.inj had;(rw [Addr.add_lit,hBd.cell];exact Hrg.out j u hu));(intro h;cases h);rintro e w2 ⟨v2,rfl,hown2,hb2⟩)
 refine hK1 _ _ ((Below.refl _ _).drew.trans (hb2.mono (Nat.le_refl _))) ?_
 clear hK1 K1
 simp only [Act.put,sA,sS,sZ]
 have hnews:∀ ad,A=some ad→∀ j u,(free.map (Value.int .i64))[j]? = some u→w2.cell? (ad.add j)=some u:=by
  have h1:=(((HA.out.below hb).mono (show w.heap.size≤wa.heap.size by omega)).below ((Below.refl _ _).drew.trans (hb2.mono (Nat.le_refl _)))).cells
  exact h1
 obtain⟨i0,hi,hz0,hz1,hz2⟩:=info_parts Nx
 refine oQ rfl rfl ?_
 refine oB (fun w1 hw1 K hK=>?_)
 subst hw1
 refine G3 (.tmp 10) (.tmp 12) 29 rfl wa.drew.heap.size 3 i0 _ 1 8 Tryz.underlying29 hi hz0 hz1 hz2 rfl (by decide) v2 32 _ rfl hown2 A free.length cap (free.map (.int .i64)) rfl (by simp) (fun h=>by have:=hnil h;simp [this]) hnews (F0 _) (by unfold maxLen;omega) (by omega) hb2.size ?_
 intro v3 w3 hown3 hg3
 have hsz2:=hb2.size
 have hb3:Below wa.heap.size wa w3:=(((Below.refl _ _).drew.trans (hb2.mono (Nat.le_refl _)))).grown hg3 hsz2 (fun k hk=>(hown2.lt k hk).1)
 refine hK _ _ hb3 ?_
 simp only [Act.put,sA,sS,sZ]
 rw [←List.map_append,←hL] at hown3
 obtain⟨g,cap3,cur,rfl,hgb,hG,hcur⟩:=Aid hown3 (by omega)
 refine rO ?_
 refine Aj ?_
 rintro w4 rfl
 replace hB:=hB.ext hb3
 replace hM:=hM.kept (Cp hb3) (by simp)
 have hgz:wa.heap.size≤g:=hgb
 replace hb:=hb.trans (hb3.mono hb.size)
 clear hown2 hown3 hg3 hb3 hgb hK K hBd hsz2 hb2 hnews i0 hi hz0 hz1 hz2
 have hll:l.length=32+free.length:=by rw [hL];simp [hr]
 generalize hX:okL phys [] l=X
 have HX:Hid (okL phys [] (l.drop 0)=X):=Lib.hid hX
 have Hm:=Lib.hid (show My phys l=(X&&Xc phys) by unfold My;rw [hX])
 have Hcur:=Lib.hid hcur
 have Hwf:=Lib.hid hwf
 have Hll:=Lib.hid hll
 clear hX hcur hwf hll hL
 go_wp2_with(fail)
 go_loopw [15] (fun v wr=>∃ (k:Nat) (S:List Int),v = .int .i64 k∧k≤32+free.length∧Below w.heap.size w wr∧OwnSet wr Tryz.prog 3 4 (w.heap.size+1) k S∧Hid (∀ x:Int,S.contains x=(l.take k).contains x)∧Blk wr w.heap.size 55 cs∧Blk wr g 3 cur∧Hid (okL phys S (l.drop k)=X)) (fun v _=>32+free.length+1 - (intOf v).toNat)
 case atStart=>exact⟨0,[],rfl,by omega,hb,hM,Lib.hid (fun x=>by simp),hB,hG,HX⟩
 case round=>
  clear hM hB hG hb HX
  obtain⟨k,S,rfl,hk,hb,hM,HS,hB,hG,HR⟩:=hrel
  have zB:=hB.lt
  have c0:=hB.cell 0
  rw [h0] at c0
  by_cases hlt:k<32+free.length
  ·have hs:=Agp phys S l k (by rw [Hll.out];exact hlt)
   have hgl:l[k]? = some (l.getD k 0):=by
    have:k<l.length:=by rw [Hll.out];exact hlt
    simp [List.getD,List.getElem?_eq_getElem this]
   have hw:=Hwf.out (l.getD k 0) (List.mem_of_getElem? hgl)
   have ck:=hG.cell k
   rw [Hcur.out k hlt] at ck
   have HT:=Lib.hid (show ∀ x:Int,(l.take (k+1)).contains x=((l.take k).contains x || x==l.getD k 0) by
    intro x
    rw [List.take_succ_eq_append_getElem (by rw [Hll.out];exact hlt),List.contains_append]
    have:l.getD k 0=l[k]'(by rw [Hll.out];exact hlt):=by simp [List.getD,List.getElem?_eq_getElem (show k<l.length by rw [Hll.out];exact hlt)]
    rw [this,List.contains_cons,List.contains_nil,Bool.or_false])
   clear hgl
   generalize l.getD k 0=p at hs hw ck HT
   have hlk:=hM.look (t:=161) Tryz.underlying3 Tryz.underlying161 Tryz.underlying4 (Vn _) p (Xp hw.1 hw.2)
   obtain⟨w5,hpt,hM5,hg5⟩:=hM.put (t:=161) Tryz.underlying3 Tryz.underlying161 Tryz.underlying4 (by unfold maxLen;omega) p (Xp hw.1 hw.2)
   have hB5:=Lib.hid (hB.grown hg5 (by simp))
   have hG5:=Lib.hid (hG.grown hg5 (by simp;omega))
   have hb5:=Lib.hid (below_grown hb hg5 (by have:=hb.size;omega) (Nat.le_succ _))
   have hM5:=Lib.hid hM5
   clear hM hg5
   by_cases h1:p<0
   ·have HR2:false=X:=by have h:=HR.out;rw [hs,if_pos (Or.inl h1)] at h;exact h
    subst HR2
    clear HR hs hlk hpt
    go_wp2_with(fail)
    go_ret2
    exact⟨_,by rw [Hm.out];rfl,hb,fun h=>by rw [Hm.out] at h;cases h⟩
   by_cases h2:phys≤p
   ·have HR2:false=X:=by have h:=HR.out;rw [hs,if_pos (Or.inr (Or.inl h2))] at h;exact h
    subst HR2
    clear HR hs hlk hpt
    go_wp2_with(fail)
    go_ret2
    exact⟨_,by rw [Hm.out];rfl,hb,fun h=>by rw [Hm.out] at h;cases h⟩
   rcases hS:S.contains p with _ | _
   ·have HR2:Hid (okL phys (p::S) (l.drop (k+1))=X):=by
     have h:=HR.out
     rw [hs,if_neg (by rintro(h | h | h);exact h1 h;exact h2 h;(have:S.contains p=true:=List.contains_iff_mem.2 h);rw [hS] at this;cases this)] at h
     exact Lib.hid h
    rw [hS] at hlk
    have h1':decide (p<0)=false:=by simpa using h1
    have h2':decide (phys≤p)=false:=by simpa using h2
    clear HR hs h1 h2
    go_wp2_with(fail)
    go_roundw
    case rel=>exact⟨k+1,p::S,by go_num,by omega,hb5.out,hM5.out,Lib.hid (fun x=>by rw [HT.out,List.contains_cons,HS.out,Bool.or_comm]),hB5.out,hG5.out,HR2⟩
    case measure=>simp [intOf];omega
   ·have HR2:false=X:=by
     have h:=HR.out
     rw [hs,if_pos (Or.inr (Or.inr (List.contains_iff_mem.1 hS)))] at h;exact h
    subst HR2
    rw [hS] at hlk
    have h1':decide (p<0)=false:=by simpa using h1
    have h2':decide (phys≤p)=false:=by simpa using h2
    clear HR hs hpt h1 h2
    go_wp2_with(fail)
    go_ret2
    exact⟨_,by rw [Hm.out];rfl,hb,fun h=>by rw [Hm.out] at h;cases h⟩
  ·obtain rfl:k=32+free.length:=by omega
   have HR2:true=X:=by have h:=HR.out;rw [List.drop_of_length_le (by rw [Hll.out];omega)] at h;exact h
   subst HR2
   have HS2:=Lib.hid (show ∀ x:Int,S.contains x=l.contains x by intro x;rw [HS.out,List.take_of_length_le (by rw [Hll.out];omega)])
   have hMh:=Lib.hid hM
   clear HR hM
   go_wp2_with(fail)
   go_simp
   refine Ae 1979 68 2047 [0,1,2,3,4,5,6,7,8,9,10] (by kernel_rfl) (by kernel_rfl) (by kernel_rfl) rfl ?_
   repeat'(first
    |refine oQ rfl rfl ?_
    |(refine' oE _ (by decide) (by decide) (fun wq K hK=>?_) ?_ ?_;rotate_left 1;(· go_wp2_with(fail);all_goals exact hK);rfl)
    |(refine' oR _ (by decide) (by decide) (by decide) (fun wq hwq K hK=>?_) ?_ ?_;rotate_left 1;(· have cq:=(hB.ext hwq).cell 0;rw [h0] at cq;go_wp2_with(fail);all_goals exact hK);rfl)
    |((first | refine oT rfl rfl rfl rfl ?_ ?_ | refine oF rfl rfl rfl rfl ?_ ?_)<;>intro hc<;>first | (cases hc;done) | ((try cases hc);simp only [Act.put,sA,sS,sZ]))
    |refine oU rfl rfl rfl rfl ?_)
   all_goals
    refine Aj ?_
    rintro w4 rfl
    go_wp2
    go_ret2
    refine⟨_,?_,hb.drew,fun _=>⟨_,_,S,rfl,hMh.out.kept (Cp (Below.refl _ _).drew) (by simp),HS2.out⟩⟩
    rw [Hm.out]
    unfold Xc
    simp at hc ⊢
    try omega
structure Kh (w:World) (m:A1) (A:Option Addr) (cap:Nat):Prop where
 p0 : -9223372036854775808≤m.phys
 p1:m.phys≤9223372036854775807
 len:m.regs.length=32
 few:m.free.length≤17592186044000
 room:m.free.length≤cap
 free:Aq w w.heap.size .i64 A m.free
 nil:A=none→m.free=[]∧cap=0
 wf:∀ x∈m.all,-9223372036854775808≤x∧x≤9223372036854775807
theorem Kh.ext {w w':World} {m:A1} {A:Option Addr} {cap:Nat} (h:Kh w m A cap) (hb:Below w.heap.size w w'):Kh w' m A cap:=
 ⟨h.p0,h.p1,h.len,h.few,h.room,(h.free.below hb).mono hb.size,h.nil,h.wf⟩
def Qr (w:World) (m:A1) (v:Value):Prop:=∃ A cap,v = .agg (Ag m.phys m.regs A m.free.length cap)∧Kh w m A cap
theorem Qr.ext {w w':World} {m:A1} {v:Value} (h:Qr w m v) (hb:Below w.heap.size w w'):Qr w' m v:=by
 obtain⟨A,cap,h1,h2⟩:=h
 exact⟨A,cap,h1,h2.ext hb⟩
theorem Qr.zero (w:World):Qr w A1.zero (.agg (Ag 0 (List.replicate 32 0) none 0 0)):=
 ⟨none,0,rfl,by decide,by decide,rfl,by decide,by decide,fun h=>absurd rfl h,fun _=>⟨rfl,rfl⟩,by decide⟩
def Mu (w:World) (B:Nat) (m:A1) (v:Value):Prop:=∃ A cap,v = .agg (Ag m.phys m.regs A m.free.length cap)∧Kh w m A cap∧∀ ad,A=some ad→B≤ad.block
theorem Mu.v {w:World} {B:Nat} {m:A1} {v:Value} (h:Mu w B m v):Qr w m v:=by
 obtain⟨A,cap,h1,h2,_⟩:=h
 exact⟨A,cap,h1,h2⟩
theorem Mu.zero (w:World) (B:Nat):Mu w B A1.zero (.agg (Ag 0 (List.replicate 32 0) none 0 0)):=by
 refine⟨none,0,rfl,⟨by decide,by decide,rfl,by decide,by decide,fun h=>absurd rfl h,fun _=>⟨rfl,rfl⟩,by decide⟩,fun _ h=>by cases h⟩
theorem D7 {phys:Int} {regs:List Int} {A:Option Addr} {n cap:Nat} (h:regs.length=32):(Tryz.prog.info? 55).map (·.size)=some (Ag phys regs A n cap).size:=by rw [B5 _ _ _ _ _ h];kernel_rfl
theorem E6 (phys:Int) (regs:List Int) (A:Option Addr) (n cap:Nat):(Ag phys regs A n cap).all (·.oneCell')=true:=by
 rw [Array.all_eq_true_iff_forall_mem]
 intro v hv
 unfold Ag at hv
 simp only [List.mem_toArray,List.mem_cons,List.mem_append,List.mem_map,List.not_mem_nil,or_false] at hv
 rcases hv with rfl | ⟨x,_,rfl⟩ | rfl<;>rfl
theorem G8:Tryz.prog.built 55 []=some (Ag 0 (List.replicate 32 0) none 0 0):=by kernel_rfl
theorem Ah5 {w:World} {m:A1} {v:Value} (h:Qr w m v) :
  Calls Tryz.prog 91 #[v] w fun e w'=>e = .returned (.bool m.may)∧Below w.heap.size w w':=by
 obtain⟨A,cap,rfl,h⟩:=h
 have hs:=D7 (phys:=m.phys) (A:=A) (n:=m.free.length) (cap:=cap) h.len
 have hu:=fun W (hb:Below w.heap.size w W)=>Aae m.phys m.regs m.free A cap W h.p0 h.p1 h.len h.few ((h.ext hb).free) h.nil h.wf
 have hmay:My m.phys (m.regs++m.free)=m.may:=rfl
 rw [hmay] at hu
 generalize Ag m.phys m.regs A m.free.length cap=cs at *
 generalize m.may=X at *
 have Hu:=Lib.hid hu
 clear hu hmay
 go_enter Tryz.func91,Tryz.ntmps91
 have hb1:=(Below.refl w.heap.size w).alloc (Nat.le_refl _) (.cells cs 55)
 have hB:=Blk.new w 55 cs
 go_wp2_with(first
  |(refine Ac rfl 55 _ rfl w.heap.size rfl 55 cs _ hB Tryz.underlying55 rfl hs ?_)
  |(go_at_call 94;(with_reducible refine(Hu.out _ hb1).mono ?_);rintro e w2 ⟨v2,rfl,hb2,hh⟩;clear hh))
 go_ret
 exact⟨rfl,hb1.trans (hb2.mono hb1.size)⟩
theorem Wg {w:World} {m:A1} {v:Value} (h:Qr w m v) (p:Int) (hp0 : -9223372036854775808≤p) (hp1:p≤9223372036854775807) :
  Calls Tryz.prog 65 #[v, .int .i64 p] w fun e w'=>e = .returned (.bool (Gw m p))∧Below w.heap.size w w':=by
 obtain⟨A,cap,rfl,h⟩:=h
 have hs:=D7 (phys:=m.phys) (A:=A) (n:=m.free.length) (cap:=cap) h.len
 have h0:=T4 m.phys m.regs A m.free.length cap
 have hu:=fun W (hb:Below w.heap.size w W)=>Aae m.phys m.regs m.free A cap W h.p0 h.p1 h.len h.few ((h.ext hb).free) h.nil h.wf
 have hmay:My m.phys (m.regs++m.free)=m.may:=rfl
 have hot:Gw m p=(m.may&&(decide (0≤p)&&decide (p<m.phys)&&!((m.regs++m.free).contains p))):=by
  unfold Gw A1.all
  congr 2
  rw [Bool.eq_iff_iff]
  simp
 rw [hot]
 rw [hmay] at hu
 generalize m.regs++m.free=l at *
 obtain⟨z,hz⟩:∃ z,z=l.contains p:=⟨_,rfl⟩
 rw [←hz]
 generalize Ag m.phys m.regs A m.free.length cap=cs at *
 generalize m.may=X at *
 generalize m.phys=phys at *
 have Hu:=Lib.hid hu
 clear hu hmay hot
 have hb1:=(Below.refl w.heap.size w).alloc (Nat.le_refl _) (.cells cs 55)
 have hB:=Blk.new w 55 cs
 cases X with
 |false=>
  go_enter Tryz.func65,Tryz.ntmps65
  go_wp2_with(first
   |(refine Ac rfl 55 _ rfl w.heap.size rfl 55 cs _ hB Tryz.underlying55 rfl hs ?_)
   |(go_at_call 94;(with_reducible refine(Hu.out _ hb1).mono ?_);rintro e w2 ⟨v2,rfl,hb2,hh⟩;clear hh))
  go_ret
  exact⟨rfl,hb1.trans (hb2.mono hb1.size)⟩
 |true=>
  by_cases h1:0≤p
  ·by_cases h2:p<phys
   ·go_enter Tryz.func65,Tryz.ntmps65
    go_wp2_with(first
     |(refine Ac rfl 55 _ rfl w.heap.size rfl 55 cs _ hB Tryz.underlying55 rfl hs ?_)
     |(go_at_call 94;(with_reducible refine(Hu.out _ hb1).mono ?_);rintro e w2 ⟨v2,rfl,hb2,hh⟩;obtain⟨b,n,S,rfl,hM,hS⟩:=hh rfl;have c0:=(hB.ext hb2).cell 0;rw [h0] at c0;have hlk:=hM.look (t:=161) Tryz.underlying3 Tryz.underlying161 Tryz.underlying4 (Vn _) p (Xp hp0 hp1);rw [hS,←hz] at hlk;clear hh hM hS))
    go_ret
    exact⟨by simp [*],hb1.trans (hb2.mono hb1.size)⟩
   ·go_enter Tryz.func65,Tryz.ntmps65
    go_wp2_with(first
     |(refine Ac rfl 55 _ rfl w.heap.size rfl 55 cs _ hB Tryz.underlying55 rfl hs ?_)
     |(go_at_call 94;(with_reducible refine(Hu.out _ hb1).mono ?_);rintro e w2 ⟨v2,rfl,hb2,hh⟩;have c0:=(hB.ext hb2).cell 0;rw [h0] at c0;clear hh))
    go_ret
    exact⟨by rw [decide_eq_false (p:=p<phys) (by omega)];simp,hb1.trans (hb2.mono hb1.size)⟩
  ·go_enter Tryz.func65,Tryz.ntmps65
   go_wp2_with(first
    |(refine Ac rfl 55 _ rfl w.heap.size rfl 55 cs _ hB Tryz.underlying55 rfl hs ?_)
    |(go_at_call 94;(with_reducible refine(Hu.out _ hb1).mono ?_);rintro e w2 ⟨v2,rfl,hb2,hh⟩;have c0:=(hB.ext hb2).cell 0;rw [h0] at c0;clear hh))
   go_ret
   exact⟨by rw [decide_eq_false (p:=0≤p) (by omega)];simp,hb1.trans (hb2.mono hb1.size)⟩
end Go.Proofs.YtapgojgcmlnbgacGreat
namespace Go.Proofs.YtapgojgcmlnbgacGreat
open Go Go.RowKit
section
variable {P:Program} {fn:Func} {tmps:Array Value} {w:World} {ad:Addr} {v x y z:Value} {p a b c:Tmp} {ty:TypeId}
theorem Ed (h:fn.results=#[.cell p ty, .tmp a]) (hp:tmps.getD p undef = .pointer (some ad)) (ha:tmps.getD a undef=x) (hl:(loadVar ty ad).run P w = .ok v w):(results fn tmps).run P w = .ok (.tuple #[v,x]) w:=by
 have hp':tmps[p]?.getD undef = .pointer (some ad):=by simpa using hp
 have ha':tmps[a]?.getD undef=x:=by simpa using ha
 simp [results,h,hp',ha',asAddr,hl]
theorem Mg (h:fn.results=#[.cell p ty, .tmp a, .tmp b, .tmp c]) (hp:tmps.getD p undef = .pointer (some ad)) (ha:tmps.getD a undef=x) (hb:tmps.getD b undef=y) (hc:tmps.getD c undef=z) (hl:(loadVar ty ad).run P w = .ok v w) :
  (results fn tmps).run P w = .ok (.tuple #[v,x,y,z]) w:=by
 have hp':tmps[p]?.getD undef = .pointer (some ad):=by simpa using hp
 have ha':tmps[a]?.getD undef=x:=by simpa using ha
 have hb':tmps[b]?.getD undef=y:=by simpa using hb
 have hc':tmps[c]?.getD undef=z:=by simpa using hc
 simp [results,h,hp',ha',hb',hc',asAddr,hl]
end
end Go.Proofs.YtapgojgcmlnbgacGreat
namespace Go.Proofs.YtapgojgcmlnbgacGreat
open Go.RowKit
theorem Fv {w:World} {g:Nat} {cs:Array Value} (h:Blk w g 55 cs) (hs:(Tryz.prog.info? 55).map (·.size)=some cs.size):(loadVar 55 ⟨g,0,none⟩).run Tryz.prog w = .ok (.agg cs) w:=by
 have:=G5 (P:=Tryz.prog) w g 0 55 55 cs cs.size _ h Tryz.underlying55 rfl hs (by omega)
 rw [this,I9 cs _ rfl]
theorem Ec:(Tryz.prog.info? 55).map (·.size)=some (Ag 0 (List.replicate 32 0) none 0 0).size:=D7 rfl
def takeD (m:A1) (rd:Int):A1×Int×Int:=(Mr m rd).getD (A1.zero,0,0)
theorem Ahb {w:World} {m:A1} {v:Value} (h:Qr w m v) (rd:Int) (hr0 : -9223372036854775808≤rd) (hr1:rd≤9223372036854775807) :
  Calls Tryz.prog 53 #[v, .int .i64 rd] w fun e w'=>∃ v',e = .returned (.tuple #[v', .int .i64 (takeD m rd).2.1, .int .i64 (takeD m rd).2.2, .bool (Mr m rd).isSome])∧Below w.heap.size w w'∧Mu w' w.heap.size (takeD m rd).1 v':=by
 obtain⟨A,cap,rfl,h⟩:=h
 have hv:Qr w m (.agg (Ag m.phys m.regs A m.free.length cap)):=⟨A,cap,rfl,h⟩
 have hs:=D7 (phys:=m.phys) (A:=A) (n:=m.free.length) (cap:=cap) h.len
 have hf:=D4 m.phys m.regs A m.free.length cap h.len
 have hrg:=fun i=>Ek m.phys m.regs A m.free.length cap (i:=i)
 have hu:=fun W (hb:Below w.heap.size w W)=>Ah5 (hv.ext hb)
 by_cases hok:m.may=true∧m.free≠[]∧1≤rd∧rd≤31
 ·obtain⟨hmay,hfr,hr1,hr2⟩:=hok
  obtain⟨k,rfl⟩:=Int.eq_ofNat_of_zero_le (show 0≤rd by omega)
  obtain⟨p,f,hpf⟩:∃ p f,m.free=p::f:=by
   cases hh:m.free with
   |nil=>exact absurd hh hfr
   |cons p f=>exact⟨p,f,rfl⟩
  have htk:Mr m (k:Int)=some (⟨m.phys,m.regs.set k p,f⟩,p,m.regs.getD k 0):=by
   unfold Mr
   rw [hpf]
   simp only
   rw [if_pos ⟨hmay,hr1,hr2⟩]
   rfl
  have htd:takeD m (k:Int)=(⟨m.phys,m.regs.set k p,f⟩,p,m.regs.getD k 0):=by unfold takeD;rw [htk];rfl
  rw [htd,htk]
  have h1:=h
  obtain⟨b,o,rfl,hbw,hfc⟩:=h.free (by rw [hpf];simp)
  have cp:=hfc 0 p (by rw [hpf];rfl)
  rw [Nat.add_zero] at cp
  have cf:∀ i x,f[i]? = some x→w.cell? ⟨b,o+1+i,none⟩=some (.int .i64 x):=fun i x hx=>by
   have:=hfc (i+1) x (by rw [hpf];exact hx)
   rwa [show o+(i+1)=o+1+i by omega] at this
  have hln:m.free.length=f.length+1:=by rw [hpf];rfl
  have hroom:=h.room
  have hfew:=h.few
  have hrk:=hrg k (by rw [h.len];omega)
  obtain⟨cs,hcs⟩:∃ cs,cs=Ag m.phys m.regs (some ⟨b,o,none⟩) (f.length+1) cap:=⟨_,rfl⟩
  have hpk : -9223372036854775808≤p∧p≤9223372036854775807:=h.wf p (by unfold A1.all;rw [hpf];simp)
  rw [hln] at hs hf hrk hu hroom hfew ⊢
  rw [←hcs] at hs hf hrk hu ⊢
  rw [hmay] at hu
  simp only [Option.isSome_some]
  have Hcs:=Lib.hid hcs
  have Hu:=Lib.hid hu
  have Hcf:=Lib.hid cf
  have H1:=Lib.hid h1
  have hn0:(((f.length:Int)+1)==0)=false:=by simp;omega
  have hlen:=h.len
  have Hpf:=Lib.hid hpf
  clear hfc hu hcs cf h h1 hrg hv hln htk htd hmay hfr
  generalize m.regs.getD k 0=old at *
  go_enter Tryz.func53,Tryz.ntmps53
  go_upto_region 1 with(fail)
  go_simp
  refine Au fun wa hq=>?_
  have hb2:Below w.heap.size w wa:=by rw [hq];exact((Below.refl w.heap.size w).alloc (Nat.le_refl _) _).alloc (by simp) _
  have hB:Blk wa w.heap.size 55 cs:=by rw [hq];exact(Blk.new w 55 cs).alloc _
  have hR:Blk wa (w.heap.size+1) 55 (Ag 0 (List.replicate 32 0) none 0 0):=by rw [hq];exact Blk.newAt (w.alloc (.cells cs 55)) 55 _ (by simp)
  clear hq
  go_upto_region 3 with(first
   |(refine Ac rfl 55 _ rfl w.heap.size rfl 55 cs _ hB Tryz.underlying55 rfl hs ?_)
   |(go_at_call 91;(with_reducible refine(Hu.out _ hb2).mono ?_);rintro e w2 ⟨rfl,hb3⟩;have c33:=(hB.ext hb3).cell 33;rw [hf] at c33;have zB:=(hB.ext hb3).lt;have hR2:=hR.ext hb3))
  go_simp
  have hb4:=hb2.trans (hb3.mono hb2.size)
  replace hB:=hB.ext hb3
  replace cp:=(hb4.cell (p:=⟨b,o,none⟩) hbw).trans cp
  replace hR:=hR2
  clear hb2 hb3 hR2 zB c33
  have zb:b<w2.heap.size:=Nat.lt_of_lt_of_le hbw hb4.size
  refine Ae 885 138 1023 [0,1,2,3,4,5,6,7,8,9] (by kernel_rfl) (by kernel_rfl) (by kernel_rfl) rfl ?_
  repeat'(first
   |refine rZ ?_
   |(refine' oR _ (by decide) (by decide) (by decide) (fun wq hwq K hK=>?_) ?_ ?_;rotate_left 1;(· have c33:=(hB.ext hwq).cell 33;rw [hf] at c33;have ck:=(hB.ext hwq).cell (1+k);rw [hrk] at ck;have cq:=hwq.at_ zb cp;go_wp2_with(fail);all_goals exact hK);rfl)
   |fail)
  refine Aj ?_
  rintro w4 rfl
  go_upto_region 4 with(fail)
  go_simp
  replace hb4:=hb4.drew
  replace hB:=hB.ext (Below.refl _ _).drew
  replace hR:=hR.ext (Below.refl _ _).drew
  replace cp:=((Below.refl w2.heap.size w2).drew.cell (p:=⟨b,o,none⟩) zb).trans cp
  replace zb:b<w2.drew.heap.size:=zb
  generalize w2.drew=w3 at *
  by_cases hc1:cap=1
  ·subst hc1
   have hfz:f=[]:=List.eq_nil_of_length_eq_zero (by omega)
   have Hfz:=Lib.hid hfz
   clear hfz
   have hnews:∀ W,W=w3.drew→∀ ad,some (⟨b,o,none⟩:Addr)=some ad→∀ j u,(List.map (Value.int .i64) f)[j]? = some u→W.cell? (ad.add j)=some u:=by
    intro W hW ad had j u hu
    obtain rfl:=Option.some.inj had
    rw [Addr.add_lit]
    rw [List.getElem?_map] at hu
    obtain⟨x,hx,rfl⟩:=Option.map_eq_some_iff.1 hu
    rw [hW]
    first | (rw [Hfz.out] at hx;simp at hx;done) | exact(hb4.drew.cell hbw).trans (Hcf.out j x hx)
   refine Ae 727 8 735 [0,1,2,3,4,6,7,5,8,9,10] (by kernel_rfl) (by kernel_rfl) (by kernel_rfl) rfl ?_
   repeat'(first
    |refine rZ ?_
    |(refine' oR _ (by decide) (by decide) (by decide) (fun wq hwq K hK=>?_) ?_ ?_;rotate_left 1;(· have c33:=(hB.ext hwq).cell 33;rw [hf] at c33;go_wp2_with(fail);all_goals exact hK);rfl)
    |fail)
   refine oS (fun w1 hw1 K1 hK1=>?_)
   have hnews:=hnews w1 hw1
   have hb4':Below w.heap.size w w1:=by rw [hw1];exact hb4.drew
   have hB':Blk w1 w.heap.size 55 cs:=by rw [hw1];exact hB.ext (Below.refl _ _).drew
   have hR':Blk w1 (w.heap.size+1) 55 (Ag 0 (List.replicate 32 0) none 0 0):=by rw [hw1];exact hR.ext (Below.refl _ _).drew
   clear hw1
   go_wp2_with(go_at_call 66;(with_reducible refine(I8 (some ⟨b,o,none⟩) 0 0 (List.map (Value.int .i64) f) _ (by first | decide | omega) (by first | (simp;done) | simp [Hfz.out]) (F0 _) hnews (fun h=>by cases h)).mono ?_);rintro e w5 ⟨v5,rfl,hown5,hb5⟩)
   refine hK1 _ _ (fun _=>True) trivial ?_
   simp only [Act.put,sA,sS,sZ]
   clear hK1 K1 hnews
   replace hB:=hB'.ext hb5
   replace hR:=hR'.ext hb5
   replace hb4:=hb4'.trans (hb5.mono hb4'.size)
   obtain⟨A5,cap5,rfl,hl5,hn5,hA5,hc5,hg5⟩:=Fw hown5
   have Hg5:=Lib.hid (show ∀ ad,A5=some ad→w.heap.size+1<ad.block from fun ad h=>Nat.lt_of_lt_of_le hR'.lt (hg5 ad h))
   have Hl5:=Lib.hid hl5
   clear hown5 hb5 hB' hR' hb4' zb cp hl5 hg5
   refine oQ rfl rfl ?_
   refine oS (fun w1 hw1 K1 hK1=>?_)
   subst hw1
   have ck:=hB.cell (1+k)
   rw [hrk] at ck
   have fk:=hB.frozen (1+k)
   go_wp2_with(fail)
   refine hK1 undef _ (fun _=>True) trivial ?_
   simp only [Act.put,sA,sS,sZ]
   clear hK1 K1 ck fk
   replace hB:=hB.set (1+k) (.int .i64 p)
   replace hb4:=hb4.setCell (p:=⟨w.heap.size,1+k,none⟩) (Nat.le_refl _) (.int .i64 p)
   replace hA5:=hA5.setCell (p:=⟨w.heap.size,1+k,none⟩) (.int .i64 p) (fun ad h=>by have:=Hg5.out ad h;show ad.block≠w.heap.size;omega)
   replace hR:=hR.far (p:=⟨w.heap.size,1+k,none⟩) (Nat.succ_ne_self _) (.int .i64 p)
   refine rO ?_
   refine oS (fun w1 hw1 K1 hK1=>?_)
   subst hw1
   have ck:=hB.cell 33
   have e33:(cs.setIfInBounds (1+k) (.int .i64 p))[33]? = cs[33]? := Array.getElem?_setIfInBounds_ne (by omega)
   rw [e33,hf] at ck
   have fk:=hB.frozen 33
   go_wp2_with(fail)
   refine hK1 undef _ (fun _=>True) trivial ?_
   simp only [Act.put,sA,sS,sZ]
   clear hK1 K1 ck fk e33
   replace hB:=hB.set 33 (.slice A5 0 cap5)
   replace hb4:=hb4.setCell (p:=⟨w.heap.size,33,none⟩) (Nat.le_refl _) (.slice A5 0 cap5)
   replace hA5:=hA5.setCell (p:=⟨w.heap.size,33,none⟩) (.slice A5 0 cap5) (fun ad h=>by have:=Hg5.out ad h;show ad.block≠w.heap.size;omega)
   replace hR:=hR.far (p:=⟨w.heap.size,33,none⟩) (Nat.succ_ne_self _) (.slice A5 0 cap5)
   have hend:(cs.setIfInBounds (1+k) (.int .i64 p)).setIfInBounds 33 (.slice A5 0 cap5)=Ag m.phys (m.regs.set k p) A5 0 cap5:=by rw [Hcs.out];exact Gm m.phys m.regs _ A5 _ _ _ cap5 k p hlen (by omega)
   rw [hend] at hB
   have hset:(m.regs.set k p).length=32:=by simp [hlen]
   refine Aj ?_
   rintro w9 hw9
   have hz9:w1.heap.size=w9.heap.size:=by rw [hw9];simp
   rw [←hw9] at hB hb4 hA5 hR
   rw [hz9] at hA5
   clear hw9 hend hz9
   have hs9:=D7 (phys:=m.phys) (A:=A5) (n:=0) (cap:=cap5) hset
   have h19:=E6 m.phys (m.regs.set k p) A5 0 cap5
   have hv9:Ag m.phys (m.regs.set k p) A5 0 cap5=Ag m.phys (m.regs.set k p) A5 f.length cap5:=by first | rfl | rw [Hfz.out];rfl
   obtain⟨cs9,h9⟩:∃ cs9,cs9=Ag m.phys (m.regs.set k p) A5 0 cap5:=⟨_,rfl⟩
   have Hv9:=Lib.hid (h9.trans hv9)
   have hsz9:(Ag m.phys (m.regs.set k p) A5 0 cap5).size=(Ag 0 (List.replicate 32 0) none 0 0).size:=by rw [B5 _ _ _ _ _ hset];rfl
   rw [←h9] at hsz9 hs9 h19 hB
   clear hv9 h9
   have hb9:=hb4.size
   go_wp2_with(first
    |(refine Ac rfl 55 _ rfl w.heap.size rfl 55 cs9 _ hB Tryz.underlying55 rfl hs9 ?_)
    |(refine Ab rfl 55 _ _ rfl (w.heap.size+1) cs9 rfl rfl 55 _ hR hs9 hsz9 h19 ?_;intro w5 hB5 hg5;have hld:=Fv hB5 hs9))
   refine bodyPost_ret (Mg Tryz.results53 rfl rfl rfl rfl hld) rfl ?_
   refine⟨_,rfl,below_grown hb4 hg5 hb4.size (Nat.le_succ _),A5,cap5,by rw [Hv9.out],?_,fun ad h=>by have:=Hg5.out ad h;omega⟩
   have hm1:=H1.out
   have hA9:=(hA5.grown (Nat.le_refl _) hg5 (fun ad h=>by have:=Hg5.out ad h;omega)).mono hg5.size
   have hc9:f.length≤cap5:=by first | exact hc5 | (rw [Hfz.out];exact Nat.zero_le _)
   refine⟨hm1.p0,hm1.p1,hset,by show f.length≤_;omega,hc9,hA9,hn5,fun x hx=>?_⟩
   rcases List.mem_append.1 hx with hx | hx
   ·rcases List.mem_or_eq_of_mem_set hx with hx | rfl
    ·exact hm1.wf x (List.mem_append_left _ hx)
    ·exact hpk
   ·exact hm1.wf x (List.mem_append_right _ (by rw [Hpf.out];exact List.mem_cons_of_mem _ hx))
  ·have Hcf2:=Hcf
   have hnews:∀ W,W=w3.drew→∀ ad,some (⟨b,(o+1),none⟩:Addr)=some ad→∀ j u,(List.map (Value.int .i64) f)[j]? = some u→W.cell? (ad.add j)=some u:=by
    intro W hW ad had j u hu
    obtain rfl:=Option.some.inj had
    rw [Addr.add_lit]
    rw [List.getElem?_map] at hu
    obtain⟨x,hx,rfl⟩:=Option.map_eq_some_iff.1 hu
    rw [hW]
    first | (rw [Hfz.out] at hx;simp at hx;done) | exact(hb4.drew.cell hbw).trans (Hcf.out j x hx)
   refine Ae 727 8 735 [0,1,2,3,4,6,7,5,8,9,10] (by kernel_rfl) (by kernel_rfl) (by kernel_rfl) rfl ?_
   repeat'(first
    |refine rZ ?_
    |(refine' oR _ (by decide) (by decide) (by decide) (fun wq hwq K hK=>?_) ?_ ?_;rotate_left 1;(· have c33:=(hB.ext hwq).cell 33;rw [hf] at c33;go_wp2_with(fail);all_goals exact hK);rfl)
    |fail)
   refine oS (fun w1 hw1 K1 hK1=>?_)
   have hnews:=hnews w1 hw1
   have hb4':Below w.heap.size w w1:=by rw [hw1];exact hb4.drew
   have hB':Blk w1 w.heap.size 55 cs:=by rw [hw1];exact hB.ext (Below.refl _ _).drew
   have hR':Blk w1 (w.heap.size+1) 55 (Ag 0 (List.replicate 32 0) none 0 0):=by rw [hw1];exact hR.ext (Below.refl _ _).drew
   clear hw1
   go_wp2_with(go_at_call 66;(with_reducible refine(I8 (some ⟨b,(o+1),none⟩) f.length (cap - 1) (List.map (Value.int .i64) f) _ (by first | decide | omega) (by first | (simp;done) | simp [Hfz.out]) (F0 _) hnews (fun h=>by cases h)).mono ?_);rintro e w5 ⟨v5,rfl,hown5,hb5⟩)
   refine hK1 _ _ (fun _=>True) trivial ?_
   simp only [Act.put,sA,sS,sZ]
   clear hK1 K1 hnews
   replace hB:=hB'.ext hb5
   replace hR:=hR'.ext hb5
   replace hb4:=hb4'.trans (hb5.mono hb4'.size)
   obtain⟨A5,cap5,rfl,hl5,hn5,hA5,hc5,hg5⟩:=Fw hown5
   have Hg5:=Lib.hid (show ∀ ad,A5=some ad→w.heap.size+1<ad.block from fun ad h=>Nat.lt_of_lt_of_le hR'.lt (hg5 ad h))
   have Hl5:=Lib.hid hl5
   clear hown5 hb5 hB' hR' hb4' zb cp hl5 hg5
   refine oQ rfl rfl ?_
   refine oS (fun w1 hw1 K1 hK1=>?_)
   subst hw1
   have ck:=hB.cell (1+k)
   rw [hrk] at ck
   have fk:=hB.frozen (1+k)
   go_wp2_with(fail)
   refine hK1 undef _ (fun _=>True) trivial ?_
   simp only [Act.put,sA,sS,sZ]
   clear hK1 K1 ck fk
   replace hB:=hB.set (1+k) (.int .i64 p)
   replace hb4:=hb4.setCell (p:=⟨w.heap.size,1+k,none⟩) (Nat.le_refl _) (.int .i64 p)
   replace hA5:=hA5.setCell (p:=⟨w.heap.size,1+k,none⟩) (.int .i64 p) (fun ad h=>by have:=Hg5.out ad h;show ad.block≠w.heap.size;omega)
   replace hR:=hR.far (p:=⟨w.heap.size,1+k,none⟩) (Nat.succ_ne_self _) (.int .i64 p)
   refine rO ?_
   refine oS (fun w1 hw1 K1 hK1=>?_)
   subst hw1
   have ck:=hB.cell 33
   have e33:(cs.setIfInBounds (1+k) (.int .i64 p))[33]? = cs[33]? := Array.getElem?_setIfInBounds_ne (by omega)
   rw [e33,hf] at ck
   have fk:=hB.frozen 33
   go_wp2_with(fail)
   refine hK1 undef _ (fun _=>True) trivial ?_
   simp only [Act.put,sA,sS,sZ]
   clear hK1 K1 ck fk e33
   replace hB:=hB.set 33 (.slice A5 f.length cap5)
   replace hb4:=hb4.setCell (p:=⟨w.heap.size,33,none⟩) (Nat.le_refl _) (.slice A5 f.length cap5)
   replace hA5:=hA5.setCell (p:=⟨w.heap.size,33,none⟩) (.slice A5 f.length cap5) (fun ad h=>by have:=Hg5.out ad h;show ad.block≠w.heap.size;omega)
   replace hR:=hR.far (p:=⟨w.heap.size,33,none⟩) (Nat.succ_ne_self _) (.slice A5 f.length cap5)
   have hend:(cs.setIfInBounds (1+k) (.int .i64 p)).setIfInBounds 33 (.slice A5 f.length cap5)=Ag m.phys (m.regs.set k p) A5 f.length cap5:=by rw [Hcs.out];exact Gm m.phys m.regs _ A5 _ _ _ cap5 k p hlen (by omega)
   rw [hend] at hB
   have hset:(m.regs.set k p).length=32:=by simp [hlen]
   refine Aj ?_
   rintro w9 hw9
   have hz9:w1.heap.size=w9.heap.size:=by rw [hw9];simp
   rw [←hw9] at hB hb4 hA5 hR
   rw [hz9] at hA5
   clear hw9 hend hz9
   have hs9:=D7 (phys:=m.phys) (A:=A5) (n:=f.length) (cap:=cap5) hset
   have h19:=E6 m.phys (m.regs.set k p) A5 f.length cap5
   have hv9:Ag m.phys (m.regs.set k p) A5 f.length cap5=Ag m.phys (m.regs.set k p) A5 f.length cap5:=by first | rfl | rw [Hfz.out];rfl
   obtain⟨cs9,h9⟩:∃ cs9,cs9=Ag m.phys (m.regs.set k p) A5 f.length cap5:=⟨_,rfl⟩
   have Hv9:=Lib.hid (h9.trans hv9)
   have hsz9:(Ag m.phys (m.regs.set k p) A5 f.length cap5).size=(Ag 0 (List.replicate 32 0) none 0 0).size:=by rw [B5 _ _ _ _ _ hset];rfl
   rw [←h9] at hsz9 hs9 h19 hB
   clear hv9 h9
   have hb9:=hb4.size
   go_wp2_with(first
    |(refine Ac rfl 55 _ rfl w.heap.size rfl 55 cs9 _ hB Tryz.underlying55 rfl hs9 ?_)
    |(refine Ab rfl 55 _ _ rfl (w.heap.size+1) cs9 rfl rfl 55 _ hR hs9 hsz9 h19 ?_;intro w5 hB5 hg5;have hld:=Fv hB5 hs9))
   refine bodyPost_ret (Mg Tryz.results53 rfl rfl rfl rfl hld) rfl ?_
   refine⟨_,rfl,below_grown hb4 hg5 hb4.size (Nat.le_succ _),A5,cap5,by rw [Hv9.out],?_,fun ad h=>by have:=Hg5.out ad h;omega⟩
   have hm1:=H1.out
   have hA9:=(hA5.grown (Nat.le_refl _) hg5 (fun ad h=>by have:=Hg5.out ad h;omega)).mono hg5.size
   have hc9:f.length≤cap5:=by first | exact hc5 | (rw [Hfz.out];exact Nat.zero_le _)
   refine⟨hm1.p0,hm1.p1,hset,by show f.length≤_;omega,hc9,hA9,hn5,fun x hx=>?_⟩
   rcases List.mem_append.1 hx with hx | hx
   ·rcases List.mem_or_eq_of_mem_set hx with hx | rfl
    ·exact hm1.wf x (List.mem_append_left _ hx)
    ·exact hpk
   ·exact hm1.wf x (List.mem_append_right _ (by rw [Hpf.out];exact List.mem_cons_of_mem _ hx))
 ·have htk:Mr m rd=none:=by
   unfold Mr
   cases hfr:m.free with
   |nil=>rfl
   |cons p f=>
    simp only
    rw [if_neg]
    rintro⟨a,b⟩
    exact hok ⟨a,by rw [hfr];simp,b⟩
  have Htk:=Lib.hid (show takeD m rd=(A1.zero,0,0)∧Mr m rd=none from⟨by unfold takeD;rw [htk];rfl,htk⟩)
  rw [htk]
  replace Htk:=Lib.hid Htk.out.1
  have hno:(m.free.length=0)=(m.free=[]):=by rw [eq_iff_iff];exact List.length_eq_zero_iff
  have hok':m.may=false∨(m.may=true∧m.free.length=0)∨(m.may=true∧((m.free.length:Int)==0)=false∧rd<1)∨(m.may=true∧((m.free.length:Int)==0)=false∧1≤rd∧31<rd):=by
   rcases hmm:m.may with _ | _
   ·exact Or.inl rfl
   ·by_cases hfr:m.free=[]
    ·exact Or.inr (Or.inl ⟨rfl,by rw [hfr];rfl⟩)
    ·have hfl:((m.free.length:Int)==0)=false:=by
      have:m.free.length≠0:=fun e=>hfr (List.eq_nil_of_length_eq_zero e)
      simp;omega
     by_cases h1:rd<1
     ·exact Or.inr (Or.inr (Or.inl ⟨rfl,hfl,h1⟩))
     ·by_cases h2:31<rd
      ·exact Or.inr (Or.inr (Or.inr ⟨rfl,hfl,by omega,h2⟩))
      ·exact absurd ⟨hmm,hfr,by omega,by omega⟩ hok
  clear hok htk hno hv hrg h
  generalize m.may=X at *
  generalize m.free.length=n at *
  generalize Ag m.phys m.regs A n cap=cs at *
  have Hu:=Lib.hid hu
  clear hu
  rcases hok' with rfl | ⟨rfl,rfl⟩ | ⟨rfl,hn,h1⟩ | ⟨rfl,hn,h1,h2⟩
  all_goals
   go_enter Tryz.func53,Tryz.ntmps53
   go_upto_region 1 with(fail)
   go_simp
   refine Au fun wa hq=>?_
   have hb2:Below w.heap.size w wa:=by rw [hq];exact((Below.refl w.heap.size w).alloc (Nat.le_refl _) _).alloc (by simp) _
   have hB:Blk wa w.heap.size 55 cs:=by rw [hq];exact(Blk.new w 55 cs).alloc _
   have hR:Blk wa (w.heap.size+1) 55 (Ag 0 (List.replicate 32 0) none 0 0):=by rw [hq];exact Blk.newAt (w.alloc (.cells cs 55)) 55 _ (by simp)
   clear hq
   go_wp2_with(first
    |(refine Ac rfl 55 _ rfl w.heap.size rfl 55 cs _ hB Tryz.underlying55 rfl hs ?_)
    |(go_at_call 91;(with_reducible refine(Hu.out _ hb2).mono ?_);rintro e w2 ⟨rfl,hb3⟩;have c33:=(hB.ext hb3).cell 33;rw [hf] at c33;have zB:=(hB.ext hb3).lt;have hR2:=hR.ext hb3)
    |(refine Ao rfl 55 _ rfl [] rfl _ G8 ?_)
    |(refine Ab rfl 55 _ _ rfl (w.heap.size+1) (Ag 0 (List.replicate 32 0) none 0 0) rfl rfl 55 _ hR2 Ec rfl (E6 _ _ _ _ _) ?_;intro w5 hB5 hg5;have hld:=Fv hB5 Ec))
   refine bodyPost_ret (Mg Tryz.results53 rfl rfl rfl rfl hld) rfl ?_
   rw [Htk.out]
   exact⟨_,rfl,below_grown (hb2.trans (hb3.mono hb2.size)) hg5 (Nat.le_trans hb2.size hb3.size) (Nat.le_succ _),Mu.zero _ _⟩
def Oh (m:A1) (p:Int):A1:=(Le m p).getD A1.zero
theorem Aga {w:World} {m:A1} {v:Value} (h:Qr w m v) (p:Int) (hp0 : -9223372036854775808≤p) (hp1:p≤9223372036854775807) (hfew:m.free.length<17592186044000) :
  Calls Tryz.prog 33 #[v, .int .i64 p] w fun e w'=>∃ v',e = .returned (.tuple #[v', .bool (Le m p).isSome])∧Below w.heap.size w w'∧Mu w' w.heap.size (Oh m p) v':=by
 have hv:=h
 have hu:=fun W (hb:Below w.heap.size w W)=>Wg (h.ext hb) p hp0 hp1
 obtain⟨A,cap,rfl,h⟩:=h
 have hs:=D7 (phys:=m.phys) (A:=A) (n:=m.free.length) (cap:=cap) h.len
 have hf:=D4 m.phys m.regs A m.free.length cap h.len
 rcases hok:Gw m p with _ | _
 ·have hg:Le m p=none:=by unfold Le;rw [if_neg (by rw [hok];simp)]
  have Htk:=Lib.hid (show Oh m p=A1.zero by unfold Oh;rw [hg];rfl)
  rw [hg]
  rw [hok] at hu
  generalize Ag m.phys m.regs A m.free.length cap=cs at *
  have Hu:=Lib.hid hu
  clear hu hg hok hv h hf
  go_enter Tryz.func33,Tryz.ntmps33
  go_upto_region 1 with(fail)
  go_simp
  refine Au fun wa hq=>?_
  have hb2:Below w.heap.size w wa:=by rw [hq];exact((Below.refl w.heap.size w).alloc (Nat.le_refl _) _).alloc (by simp) _
  have hB:Blk wa w.heap.size 55 cs:=by rw [hq];exact(Blk.new w 55 cs).alloc _
  have hR:Blk wa (w.heap.size+1) 55 (Ag 0 (List.replicate 32 0) none 0 0):=by rw [hq];exact Blk.newAt (w.alloc (.cells cs 55)) 55 _ (by simp)
  clear hq
  go_wp2_with(first
   |(refine Ac rfl 55 _ rfl w.heap.size rfl 55 cs _ hB Tryz.underlying55 rfl hs ?_)
   |(go_at_call 65;(with_reducible refine(Hu.out _ hb2).mono ?_);rintro e w2 ⟨rfl,hb3⟩;have hR2:=hR.ext hb3)
   |(refine Ao rfl 55 _ rfl [] rfl _ G8 ?_)
   |(refine Ab rfl 55 _ _ rfl (w.heap.size+1) (Ag 0 (List.replicate 32 0) none 0 0) rfl rfl 55 _ hR2 Ec rfl (E6 _ _ _ _ _) ?_;intro w5 hB5 hg5;have hld:=Fv hB5 Ec))
  refine bodyPost_ret (Ed Tryz.results33 rfl rfl hld) rfl ?_
  rw [Htk.out]
  exact⟨_,rfl,below_grown (hb2.trans (hb3.mono hb2.size)) hg5 (Nat.le_trans hb2.size hb3.size) (Nat.le_succ _),Mu.zero _ _⟩
 ·have hg:Le m p=some ⟨m.phys,m.regs,m.free++[p]⟩:=by unfold Le;rw [if_pos hok]
  have hgd:Oh m p=⟨m.phys,m.regs,m.free++[p]⟩:=by unfold Oh;rw [hg];rfl
  rw [hg,hgd]
  rw [hok] at hu
  simp only [Option.isSome_some]
  obtain⟨cs,hcs⟩:∃ cs,cs=Ag m.phys m.regs A m.free.length cap:=⟨_,rfl⟩
  rw [←hcs] at hs hf hu ⊢
  have hroom:=h.room
  have hlen:=h.len
  have Hcs:=Lib.hid hcs
  have Hu:=Lib.hid hu
  have H1:=Lib.hid h
  obtain⟨n,hn⟩:∃ n,n=m.free.length:=⟨_,rfl⟩
  rw [←hn] at hfew hroom hf
  have Hn:=Lib.hid hn
  clear hu hg hgd hok hv hcs h hn
  go_enter Tryz.func33,Tryz.ntmps33
  go_upto_region 1 with(fail)
  go_simp
  refine Au fun wa hq=>?_
  have hb2:Below w.heap.size w wa:=by rw [hq];exact((Below.refl w.heap.size w).alloc (Nat.le_refl _) _).alloc (by simp) _
  have hB:Blk wa w.heap.size 55 cs:=by rw [hq];exact(Blk.new w 55 cs).alloc _
  have hR:Blk wa (w.heap.size+1) 55 (Ag 0 (List.replicate 32 0) none 0 0):=by rw [hq];exact Blk.newAt (w.alloc (.cells cs 55)) 55 _ (by simp)
  clear hq
  go_upto_region 3 with(first
   |(refine Ac rfl 55 _ rfl w.heap.size rfl 55 cs _ hB Tryz.underlying55 rfl hs ?_)
   |(go_at_call 65;(with_reducible refine(Hu.out _ hb2).mono ?_);rintro e w2 ⟨rfl,hb3⟩))
  have hb4:=hb2.trans (hb3.mono hb2.size)
  replace hB:=hB.ext hb3
  replace hR:=hR.ext hb3
  have c33:=hB.cell 33
  rw [hf] at c33
  have hA2:Aq w2 w2.heap.size .i64 A m.free:=(H1.out.free.below hb4).mono hb4.size
  have hnl:A=none→n=0:=fun e=>by rw [Hn.out,(H1.out.nil e).1];rfl
  have hln:(m.free.map (Value.int .i64)).length=n*1:=by simp [Hn.out]
  have hcells:=Lib.hid hA2.cells
  have Hnl:=Lib.hid hnl
  have Hln:=Lib.hid hln
  clear hb2 hb3 hA2 hnl hln
  obtain⟨i0,hi,hz0,hz1,hz2⟩:=info_parts Nx
  go_upto_region 4 with(first
   |(go_at_call 66;(with_reducible refine(I8 A n cap (m.free.map (Value.int .i64)) _ (by omega) Hln.out (F0 _) hcells.out Hnl.out).mono ?_);rintro e w5 ⟨v5,rfl,hown5,hb5⟩;have hB5:=hB.ext hb5;have hR5:=hR.ext hb5;have hb6:=hb4.trans (hb5.mono hb4.size);have zz:=hb5.size)
   |(refine E7 rfl (.tmp 13) (.tmp 15) 29 rfl w2.heap.size 3 i0 _ 1 8 Tryz.underlying29 hi hz0 hz1 hz2 rfl (by decide) v5 n _ rfl (hown5.alloc _) (some ⟨w5.heap.size,0,none⟩) 1 1 [.int .i64 p] rfl rfl (fun h=>by cases h) (Sl w5 _ _) (by simp;rfl) (by unfold maxLen;omega) (by omega) (by simp;omega) ?_;intro v7 w7 hown7 hg7;have hB7:=(hB5.alloc (.cells #[.int .i64 p] 3)).grown hg7 (fun h=>by have:=hown5.lt _ h.symm;have:=hB.lt;omega);have hR7:=(hR5.alloc (.cells #[.int .i64 p] 3)).grown hg7 (fun h=>by have:=hown5.lt _ h.symm;have:=hR.lt;omega);have hb7:=(hb6.alloc hb6.size (.cells #[.int .i64 p] 3)).grown hg7 (by have:=hb6.size;simp;omega) (fun k hk=>by have:=hown5.lt _ hk;have:=hb4.size;omega);have c7:=hB7.cell 33;rw [hf] at c7;have f7:=hB7.frozen 33;obtain⟨A7,cap7,rfl,hl7,hn7,hA7,hc7,hg7'⟩:=Fw (l:=m.free++[p]) (show w7.ownsRow w2.heap.size 3 1 v7 (n+1) ((m.free++[p]).map (.int .i64)) by rw [List.map_append];exact hown7);have Hg7:=Lib.hid (show ∀ ad,A7=some ad→w.heap.size+1<ad.block from fun ad h=>Nat.lt_of_lt_of_le hR.lt (hg7' ad h));have Hl7:=Lib.hid hl7;clear hg7' hg7 hown7 hl7))
  go_simp
  refine Au fun w9 hw9=>?_
  have hB9:=hB7.set 33 (.slice A7 (n+1) cap7)
  have hb9:=hb7.setCell (p:=⟨w.heap.size,33,none⟩) (Nat.le_refl _) (.slice A7 (n+1) cap7)
  have hA9:=hA7.setCell (p:=⟨w.heap.size,33,none⟩) (.slice A7 (n+1) cap7) (fun ad h=>by have:=Hg7.out ad h;show ad.block≠w.heap.size;omega)
  have hR9:=hR7.far (p:=⟨w.heap.size,33,none⟩) (Nat.succ_ne_self _) (.slice A7 (n+1) cap7)
  have hend:cs.setIfInBounds 33 (.slice A7 (n+1) cap7)=Ag m.phys m.regs A7 (n+1) cap7:=by
   rw [Hcs.out]
   have:=Gm m.phys m.regs A A7 m.free.length cap (n+1) cap7 0 (m.regs.getD 0 0) hlen (by omega)
   have e1:m.regs.set 0 (m.regs.getD 0 0)=m.regs:=by
    have:m.regs.getD 0 0=m.regs[0]'(by omega):=by simp [List.getD,List.getElem?_eq_getElem (show 0<m.regs.length by omega)]
    rw [this,List.set_getElem_self]
   have e2:(Ag m.phys m.regs A m.free.length cap).setIfInBounds (1+0) (.int .i64 (m.regs.getD 0 0))=Ag m.phys m.regs A m.free.length cap:=by
    have hr0:=Ek m.phys m.regs A m.free.length cap (i:=0) (by omega)
    apply Array.ext_getElem?
    intro i
    rw [Array.getElem?_setIfInBounds]
    split
    ·rename_i hi;subst hi;rw [hr0,if_pos (by rw [B5 _ _ _ _ _ hlen];omega)]
    ·rfl
   rw [e1,e2] at this
   exact this
  rw [hend] at hB9
  rw [←hw9] at hB9 hb9 hA9 hR9
  have hz9:w7.heap.size=w9.heap.size:=by rw [hw9];simp
  rw [hz9] at hA9
  clear hw9 hz9 hend hB hR hB5 hR5 hb6 hB7 hR7 hb7 hA7 c7 f7 hown5 hb5
  have hs9:=D7 (phys:=m.phys) (A:=A7) (n:=n+1) (cap:=cap7) hlen
  have h19:=E6 m.phys m.regs A7 (n+1) cap7
  obtain⟨cs9,h9⟩:∃ cs9,cs9=Ag m.phys m.regs A7 (n+1) cap7:=⟨_,rfl⟩
  have hsz9:(Ag m.phys m.regs A7 (n+1) cap7).size=(Ag 0 (List.replicate 32 0) none 0 0).size:=by rw [B5 _ _ _ _ _ hlen];rfl
  rw [←h9] at hsz9 hs9 h19 hB9
  have Hv9:=Lib.hid h9
  clear h9
  go_wp2_with(first
   |(refine Ac rfl 55 _ rfl w.heap.size rfl 55 cs9 _ hB9 Tryz.underlying55 rfl hs9 ?_)
   |(refine Ab rfl 55 _ _ rfl (w.heap.size+1) cs9 rfl rfl 55 _ hR9 hs9 hsz9 h19 ?_;intro wx hBx hgx;have hld:=Fv hBx hs9))
  refine bodyPost_ret (Ed Tryz.results33 rfl rfl hld) rfl ?_
  have hm1:=H1.out
  have hlx:(m.free++[p]).length=n+1:=by simp [Hn.out]
  refine⟨_,rfl,below_grown hb9 hgx hb9.size (Nat.le_succ _),A7,cap7,by rw [Hv9.out];show _=Value.agg (Ag m.phys m.regs A7 (m.free++[p]).length cap7);rw [hlx],?_,fun ad h=>by have:=Hg7.out ad h;omega⟩
  have hA10:=(hA9.grown (Nat.le_refl _) hgx (fun ad h=>by have:=Hg7.out ad h;omega)).mono hgx.size
  refine⟨hm1.p0,hm1.p1,hlen,by show(m.free++[p]).length≤_;omega,by show(m.free++[p]).length≤_;omega,hA10,hn7,fun x hx=>?_⟩
  rcases List.mem_append.1 hx with hx | hx
  ·exact hm1.wf x (List.mem_append_left _ hx)
  ·rcases List.mem_append.1 hx with hx | hx
   ·exact hm1.wf x (List.mem_append_right _ hx)
   ·simp at hx;subst hx;exact⟨hp0,hp1⟩
end Go.Proofs.YtapgojgcmlnbgacGreat
