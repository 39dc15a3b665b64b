/- Parts of a proof. -/
import Derived.Test.YtapgojgcmlnbgacK14
import Derived.Handy
set_option linter.unusedSimpArgs false
set_option linter.unusedVariables false
set_option maxRecDepth 100000
set_option maxHeartbeats 16000000
namespace Go.Proofs.Ytapgojgcmlnbgac
open Go.RowKit
theorem drew_below {w wx:World} (h:wx=w.drew) (B:Nat):Below B w wx:=by rw [h];exact(Below.refl _ _).drew
theorem apply_any (c:Com) (b o:Nat) (T:TypeId) (hcs:Array Value) (A:Option Addr) (base cap:Nat) (m:List Int) (w:World) (hH:Blk w b T hcs) (hsz:o+35≤hcs.size) (hr0:0≤c.rd) (hr1:c.rd≤31)
  (hown:w.ownsRow base 5 1 (.slice A m.length cap) m.length (m.map (.int .u8))) (hne:(Value.slice A m.length cap).ownBlock≠some b) (hl:m.length≤9223372036854775807)
  (hm:c.many=0∨c.many=1∨c.many=2∨c.many=4) (hf:c.many=0∨(0≤c.at_∧c.at_+c.many≤m.length∧c.at_≤4294967291)) (hd0:0≤c.data) (hd1:c.data≤4294967295) :
  Calls Try.prog 19 #[.agg c.cells, .pointer (some ⟨b,o,none⟩), .slice A m.length cap] w fun e w'=>e = .returned (.tuple #[]) ∧
   ∃ w1,w.grownBy w1 (some b)∧Blk w1 b T (appC hcs o c)∧w'.ownsRow base 5 1 (.slice A m.length cap) m.length ((applyM c m).map (.int .u8))∧w1.grownBy w' (Value.slice A m.length cap).ownBlock:=by
 generalize hX:applyM c m=X
 have HX:=Lib.hid hX
 clear hX
 generalize hY:appC hcs o c=Y
 have HY:=Lib.hid hY
 clear hY
 obtain⟨c0,c1,c2,c3,c4,c5,c6,c7,c8,c9,c10⟩:=c
 dsimp only at *
 go_enter Try.func19,Try.ntmps19
 go_upto_region 1 with(fail)
 go_simp
 refine wp_gen fun wa hq=>?_
 have hB:Blk wa w.heap.size 65 #[.int .u32 c0, .int .u32 c1, .int .i64 c2, .int .i64 c3, .int .i64 c4, .int .u32 c5, .int .u32 c6, .int .i64 c7, .int .u32 c8, .bool c9, .int .u32 c10]:=by rw [hq];exact Blk.new w _ _
 have hbl:Below w.heap.size w wa:=by rw [hq];exact(Below.refl _ _).alloc (Nat.le_refl _) _
 clear hq
 have hlt:=hH.lt
 have hHa:=hH.ext hbl
 have hga:=below_any hbl (some b)
 clear hbl
 refine wp_region_ord 112303 336 112639 [0,1,2,3,4,5,6,7,8,9,10,11,12,13,14,15,16,17] (fun w'=>Blk w' w.heap.size 65 #[.int .u32 c0, .int .u32 c1, .int .i64 c2, .int .i64 c3, .int .i64 c4, .int .u32 c5, .int .u32 c6, .int .i64 c7, .int .u32 c8, .bool c9, .int .u32 c10]) (fun w'=>w'=_) (by kernel_rfl) (by kernel_rfl) (by kernel_rfl) rfl (fun w' hw=>by rw [hw];exact hB.ext (Below.refl _ _).drew) rfl ?_
 repeat'(first
  |refine oQ rfl rfl ?_
  |(refine' oE _ (by decide) (by decide) (fun wq K hK=>?_) ?_ ?_;rotate_left 1;(· go_wp2_with(fail);all_goals exact hK);rfl)
  |(refine' oR _ (by decide) (by decide) (by decide) (fun wq hwq K hK=>?_) ?_ ?_;rotate_left 1;(· have d1:=hwq.cell 1;have d2:=hwq.cell 2;have d3:=hwq.cell 3;go_wp2_with(fail);all_goals exact hK);rfl)
  |((first | refine oT rfl rfl rfl rfl ?_ ?_ | refine oF rfl rfl rfl rfl ?_ ?_)<;>intro hc<;>first | (cases hc;done) | ((try cases hc);simp only [Act.put,sA,sS,sZ]))
  |refine oU rfl rfl rfl rfl ?_)
 refine wpOW_beside (by decide) (by decide) (by decide) (by kernel_rfl) (fun w1 hw1 K hK=>?_)
 replace hga:=grownBy_trans hga (below_any (show Below wa.heap.size wa w1 by rw [hw1];exact(Below.refl _ _).drew) (some b))
 replace hB:=hB.ext (show Below wa.heap.size wa w1 by rw [hw1];exact(Below.refl _ _).drew)
 replace hHa:=hHa.ext (show Below wa.heap.size wa w1 by rw [hw1];exact(Below.refl _ _).drew)
 clear hw1
 have E0:=Lib.hid hsz
 obtain⟨v32,e32⟩:∃ v,hcs[o+32]? = some v:=⟨_,Array.getElem?_eq_getElem (by omega)⟩
 obtain⟨v33,e33⟩:∃ v,(hcs.setIfInBounds (o+32) (.int .u32 c1))[o+33]? = some v:=⟨_,Array.getElem?_eq_getElem (by simp;omega)⟩
 obtain⟨v34,e34⟩:∃ v,((hcs.setIfInBounds (o+32) (.int .u32 c1)).setIfInBounds (o+33) (.int .i64 c2))[o+34]? = some v:=⟨_,Array.getElem?_eq_getElem (by simp;omega)⟩
 have fc:=hHa.frozen (o+32)
 have fv:=hHa.cell (o+32)
 rw [e32] at fv
 go_wp2_with(fail)
 replace hHa:=hHa.set (o+32) (.int .u32 c1)
 replace hB:=hB.farAt (b:=b) (off:=o+32) (Nat.ne_of_gt hlt) (.int .u32 c1)
 replace hga:=grownBy_trans hga (grown_set _ ⟨b,o+32,none⟩ (.int .u32 c1))
 refine hK undef _ hB ?_
 simp only [Act.put,sA,sS,sZ]
 clear hK K fc fv
 repeat'(first
  |refine oQ rfl rfl ?_
  |(refine' oE _ (by decide) (by decide) (fun wq K hK=>?_) ?_ ?_;rotate_left 1;(· go_wp2_with(fail);all_goals exact hK);rfl)
  |(refine' oR _ (by decide) (by decide) (by decide) (fun wq hwq K hK=>?_) ?_ ?_;rotate_left 1;(· have d1:=hwq.cell 1;have d2:=hwq.cell 2;have d3:=hwq.cell 3;go_wp2_with(fail);all_goals exact hK);rfl)
  |((first | refine oT rfl rfl rfl rfl ?_ ?_ | refine oF rfl rfl rfl rfl ?_ ?_)<;>intro hc<;>first | (cases hc;done) | ((try cases hc);simp only [Act.put,sA,sS,sZ]))
  |refine oU rfl rfl rfl rfl ?_)
 refine wpOW_beside (by decide) (by decide) (by decide) (by kernel_rfl) (fun w1 hw1 K hK=>?_)
 subst hw1
 have fc:=hHa.frozen (o+33)
 have fv:=hHa.cell (o+33)
 rw [e33] at fv
 go_wp2_with(fail)
 replace hHa:=hHa.set (o+33) (.int .i64 c2)
 replace hB:=hB.farAt (b:=b) (off:=o+33) (Nat.ne_of_gt hlt) (.int .i64 c2)
 replace hga:=grownBy_trans hga (grown_set _ ⟨b,o+33,none⟩ (.int .i64 c2))
 refine hK undef _ hB ?_
 simp only [Act.put,sA,sS,sZ]
 clear hK K fc fv
 repeat'(first
  |refine oQ rfl rfl ?_
  |(refine' oE _ (by decide) (by decide) (fun wq K hK=>?_) ?_ ?_;rotate_left 1;(· go_wp2_with(fail);all_goals exact hK);rfl)
  |(refine' oR _ (by decide) (by decide) (by decide) (fun wq hwq K hK=>?_) ?_ ?_;rotate_left 1;(· have d1:=hwq.cell 1;have d2:=hwq.cell 2;have d3:=hwq.cell 3;go_wp2_with(fail);all_goals exact hK);rfl)
  |((first | refine oT rfl rfl rfl rfl ?_ ?_ | refine oF rfl rfl rfl rfl ?_ ?_)<;>intro hc<;>first | (cases hc;done) | ((try cases hc);simp only [Act.put,sA,sS,sZ]))
  |refine oU rfl rfl rfl rfl ?_)
 refine wpOW_beside (by decide) (by decide) (by decide) (by kernel_rfl) (fun w1 hw1 K hK=>?_)
 subst hw1
 have fc:=hHa.frozen (o+34)
 have fv:=hHa.cell (o+34)
 rw [e34] at fv
 go_wp2_with(fail)
 replace hHa:=hHa.set (o+34) (.int .i64 c3)
 replace hB:=hB.farAt (b:=b) (off:=o+34) (Nat.ne_of_gt hlt) (.int .i64 c3)
 replace hga:=grownBy_trans hga (grown_set _ ⟨b,o+34,none⟩ (.int .i64 c3))
 refine hK undef _ hB ?_
 simp only [Act.put,sA,sS,sZ]
 clear hK K fc fv
 refine wpO_nil ?_
 intro w2 hq
 rw [←hq] at hHa hB hga
 clear hq e32 e33 e34 v32 v33 v34
 try go_simp
 have d4:=hB.cell 4
 by_cases hp:0<c4
 focus
  obtain⟨n,rfl⟩:=Int.eq_ofNat_of_zero_le hr0
  have hn:n<32:=by omega
  have HY2:Hid ((((hcs.setIfInBounds (o+32) (.int .u32 c1)).setIfInBounds (o+33) (.int .i64 c2)).setIfInBounds (o+34) (.int .i64 c3)).setIfInBounds (o+n) (.int .u32 c5)=Y):=by
   refine Lib.hid ?_
   rw [←HY.out]
   unfold appC
   rw [if_pos hp]
   rfl
  have hs3:(((hcs.setIfInBounds (o+32) (.int .u32 c1)).setIfInBounds (o+33) (.int .i64 c2)).setIfInBounds (o+34) (.int .i64 c3)).size=hcs.size:=by simp
  generalize ((hcs.setIfInBounds (o+32) (.int .u32 c1)).setIfInBounds (o+33) (.int .i64 c2)).setIfInBounds (o+34) (.int .i64 c3)=hc3 at *
  obtain⟨vn,en⟩:∃ v,hc3[o+n]? = some v:=⟨_,Array.getElem?_eq_getElem (by have:=E0.out;omega)⟩
  clear HY hs3
  go_upto_region 3 with(fail)
  try go_simp
  refine wp_region_ord 235 20 255 [0,1,2,3,4,5,6,7,8] (fun w'=>Blk w' w.heap.size 65 #[.int .u32 c0, .int .u32 c1, .int .i64 c2, .int .i64 c3, .int .i64 n, .int .u32 c5, .int .u32 c6, .int .i64 c7, .int .u32 c8, .bool c9, .int .u32 c10]) (fun w'=>w'=_) (by kernel_rfl) (by kernel_rfl) (by kernel_rfl) rfl (fun w' hw=>by rw [hw];exact hB.ext (Below.refl _ _).drew) rfl ?_
  repeat'(first
   |refine oQ rfl rfl ?_
   |(refine' oE _ (by decide) (by decide) (fun wq K hK=>?_) ?_ ?_;rotate_left 1;(· go_wp2_with(fail);all_goals exact hK);rfl)
   |(refine' oR _ (by decide) (by decide) (by decide) (fun wq hwq K hK=>?_) ?_ ?_;rotate_left 1;(· have d4:=hwq.cell 4;have d5:=hwq.cell 5;go_wp2_with(fail);all_goals exact hK);rfl)
   |((first | refine oT rfl rfl rfl rfl ?_ ?_ | refine oF rfl rfl rfl rfl ?_ ?_)<;>intro hc<;>first | (cases hc;done) | ((try cases hc);simp only [Act.put,sA,sS,sZ]))
   |refine oU rfl rfl rfl rfl ?_)
  refine wpOW_solo (by decide) (by decide) (by decide) (by kernel_rfl) (fun wx hwx K hK=>?_)
  replace hga:=grownBy_trans hga (below_any (show Below w2.heap.size w2 wx by rw [hwx];exact(Below.refl _ _).drew) (some b))
  replace hB:=hB.ext (show Below w2.heap.size w2 wx by rw [hwx];exact(Below.refl _ _).drew)
  replace hHa:=hHa.ext (show Below w2.heap.size w2 wx by rw [hwx];exact(Below.refl _ _).drew)
  clear hwx d4
  have fc:=hHa.frozen (o+n)
  have fv:=hHa.cell (o+n)
  rw [en] at fv
  go_wp2_with(fail)
  replace hHa:=hHa.set (o+n) (.int .u32 c5)
  replace hB:=hB.farAt (b:=b) (off:=o+n) (Nat.ne_of_gt hlt) (.int .u32 c5)
  replace hga:=grownBy_trans hga (grown_set _ ⟨b,o+n,none⟩ (.int .u32 c5))
  refine hK undef _ (fun _=>True) trivial ?_
  simp only [Act.put,sA,sS,sZ]
  clear hK K fc fv
  rw [HY2.out] at hHa
  clear HY2 en vn hn
  refine wpO_nil ?_
  intro w2 hq
  rw [←hq] at hHa hB hga
  clear hq
  try go_simp
  generalize (n:Int)=c4 at *
 rotate_left 1
 focus
  have hY:Y=((hcs.setIfInBounds (o+32) (.int .u32 c1)).setIfInBounds (o+33) (.int .i64 c2)).setIfInBounds (o+34) (.int .i64 c3):=by
   rw [←HY.out]
   unfold appC
   rw [if_neg hp]
  have hp':decide (0<c4)=false:=decide_eq_false hp
  rw [←hY] at hHa
  clear HY hY
  go_upto_region 4 with(fail)
  try go_simp
  clear hp hp'
 all_goals
  have hM:=hown.kept hga (Or.inr hne)
  have hgm:=grownBy_refl w2 (Value.slice A m.length cap).ownBlock
  have d7:=hB.cell 7
  rcases hm with rfl | rfl | rfl | rfl
  ·go_wp2_with(fail)
   refine wp_loop_rounds 1 ?_
   repeat any_goals (rw [rounds_succ];go_wp2_with(fail))
   (try simp only [Exit.inBlock,Exit.then])
   first | (refine bodyPost_ret (results_none rfl _ _ _) rfl ?_) | (refine bodyPost_end (results_none rfl _ _ _) rfl ?_)
   exact⟨rfl,_,hga,hHa,by rw [←HX.out];exact hM,hgm⟩
  ·obtain⟨q0,q1,q2⟩:0≤c6∧c6+1≤m.length∧c6≤4294967291:=hf.resolve_left (by decide)
   obtain⟨p,rfl⟩:=Int.eq_ofNat_of_zero_le q0
   obtain⟨g,cap',hv,hgb,hgl⟩:=hown.form (by omega)
   injection hv with hA hn' hcap
   subst hA
   have hcell:=fun(W:World) (l:List Int) (hW:W.ownsRow base 5 1 (.slice (some ⟨g,0,none⟩) m.length cap) m.length (l.map (.int .u8))) (hl:l.length=m.length) k (hk:k<1)=>(hW.cellAt (p+k) (by omega)).trans (show(l.map (Value.int .u8))[p+k]? = some (.int .u8 (l.getD (p+k) 0)) by rw [List.getElem?_map,List.getElem?_eq_getElem (by omega),List.getD_eq_getElem?_getD,List.getElem?_eq_getElem (by omega)];rfl)
   clear hown
   go_upto_region 5 with(fail)
   refine wp_loop_rounds 2 ?_
   rw [rounds_succ]
   go_upto_region 7 with(fail)
   try go_simp
   refine wp_region_ord 8059 132 8191 [0,1,2,3,4,5,6,7,8,9,10,11,12,13] (fun w'=>Blk w' w.heap.size 65 #[.int .u32 c0, .int .u32 c1, .int .i64 c2, .int .i64 c3, .int .i64 c4, .int .u32 c5, .int .u32 (p:Int), .int .i64 1, .int .u32 c8, .bool c9, .int .u32 c10]) (fun w'=>w'=_) (by kernel_rfl) (by kernel_rfl) (by kernel_rfl) rfl (fun w' hw=>by rw [hw];exact hB.ext (Below.refl _ _).drew) rfl ?_
   repeat'(first
    |refine oQ rfl rfl ?_
    |(refine' oE _ (by decide) (by decide) (fun wq K hK=>?_) ?_ ?_;rotate_left 1;(· go_wp2_with(fail);all_goals exact hK);rfl)
    |(refine' oR _ (by decide) (by decide) (by decide) (fun wq hwq K hK=>?_) ?_ ?_;rotate_left 1;(· have d6:=hwq.cell 6;have d8:=hwq.cell 8;go_wp2_with(fail);all_goals exact hK);rfl)
    |((first | refine oT rfl rfl rfl rfl ?_ ?_ | refine oF rfl rfl rfl rfl ?_ ?_)<;>intro hc<;>first | (cases hc;done) | ((try cases hc);simp only [Act.put,sA,sS,sZ]))
    |refine oU rfl rfl rfl rfl ?_)
   refine wpOW_solo (by decide) (by decide) (by decide) (by kernel_rfl) (fun wx hwx K hK=>?_)
   have hbd:=fun B=>drew_below hwx B
   replace hB:=hB.ext (hbd _)
   replace hM:=hM.kept (below_any (hbd _) none) (Or.inr (by simp [Value.ownBlock]))
   replace hgm:=grownBy_trans hgm (below_any (hbd _) (Value.slice (some ⟨g,0,none⟩) m.length cap).ownBlock)
   clear hwx hbd
   have cx:=hcell _ _ hM (by simp) 0 (by decide)
   have fx:=hM.frozenAt (p+0)
   try simp only [Nat.add_zero] at cx fx
   go_wp2_with(fail)
   have hst:=hM.stored (p+0) (.int .u8 (c8%256))
   try simp only [Nat.add_zero] at hst
   replace hM:=hst.1
   replace hgm:=grownBy_trans hgm hst.2
   replace hB:=hB.farAt (b:=g) (off:=p+0) (Nat.ne_of_gt hgl) (.int .u8 (c8%256))
   try simp only [Nat.add_zero] at hB
   refine hK undef _ (fun _=>True) trivial ?_
   simp only [Act.put,sA,sS,sZ]
   clear hK K cx fx hst
   refine wpO_nil ?_
   intro wz hz
   rw [←hz] at hM hgm hB
   clear hz
   try go_simp
   try rw [←List.map_set] at hM
   go_wp2_with(fail)
   rw [rounds_succ]
   go_wp2_with(fail)
   (try simp only [Exit.inBlock,Exit.then])
   first | (refine bodyPost_ret (results_none rfl _ _ _) rfl ?_) | (refine bodyPost_end (results_none rfl _ _ _) rfl ?_)
   refine⟨rfl,_,hga,hHa,?_,hgm⟩
   rw [←HX.out]
   exact hM
  ·obtain⟨q0,q1,q2⟩:0≤c6∧c6+2≤m.length∧c6≤4294967291:=hf.resolve_left (by decide)
   obtain⟨p,rfl⟩:=Int.eq_ofNat_of_zero_le q0
   obtain⟨g,cap',hv,hgb,hgl⟩:=hown.form (by omega)
   injection hv with hA hn' hcap
   subst hA
   have hcell:=fun(W:World) (l:List Int) (hW:W.ownsRow base 5 1 (.slice (some ⟨g,0,none⟩) m.length cap) m.length (l.map (.int .u8))) (hl:l.length=m.length) k (hk:k<2)=>(hW.cellAt (p+k) (by omega)).trans (show(l.map (Value.int .u8))[p+k]? = some (.int .u8 (l.getD (p+k) 0)) by rw [List.getElem?_map,List.getElem?_eq_getElem (by omega),List.getD_eq_getElem?_getD,List.getElem?_eq_getElem (by omega)];rfl)
   clear hown
   go_upto_region 5 with(fail)
   refine wp_loop_rounds 3 ?_
   rw [rounds_succ]
   go_upto_region 7 with(fail)
   try go_simp
   refine wp_region_ord 8059 132 8191 [0,1,2,3,4,5,6,7,8,9,10,11,12,13] (fun w'=>Blk w' w.heap.size 65 #[.int .u32 c0, .int .u32 c1, .int .i64 c2, .int .i64 c3, .int .i64 c4, .int .u32 c5, .int .u32 (p:Int), .int .i64 2, .int .u32 c8, .bool c9, .int .u32 c10]) (fun w'=>w'=_) (by kernel_rfl) (by kernel_rfl) (by kernel_rfl) rfl (fun w' hw=>by rw [hw];exact hB.ext (Below.refl _ _).drew) rfl ?_
   repeat'(first
    |refine oQ rfl rfl ?_
    |(refine' oE _ (by decide) (by decide) (fun wq K hK=>?_) ?_ ?_;rotate_left 1;(· go_wp2_with(fail);all_goals exact hK);rfl)
    |(refine' oR _ (by decide) (by decide) (by decide) (fun wq hwq K hK=>?_) ?_ ?_;rotate_left 1;(· have d6:=hwq.cell 6;have d8:=hwq.cell 8;go_wp2_with(fail);all_goals exact hK);rfl)
    |((first | refine oT rfl rfl rfl rfl ?_ ?_ | refine oF rfl rfl rfl rfl ?_ ?_)<;>intro hc<;>first | (cases hc;done) | ((try cases hc);simp only [Act.put,sA,sS,sZ]))
    |refine oU rfl rfl rfl rfl ?_)
   refine wpOW_solo (by decide) (by decide) (by decide) (by kernel_rfl) (fun wx hwx K hK=>?_)
   have hbd:=fun B=>drew_below hwx B
   replace hB:=hB.ext (hbd _)
   replace hM:=hM.kept (below_any (hbd _) none) (Or.inr (by simp [Value.ownBlock]))
   replace hgm:=grownBy_trans hgm (below_any (hbd _) (Value.slice (some ⟨g,0,none⟩) m.length cap).ownBlock)
   clear hwx hbd
   have cx:=hcell _ _ hM (by simp) 0 (by decide)
   have fx:=hM.frozenAt (p+0)
   try simp only [Nat.add_zero] at cx fx
   go_wp2_with(fail)
   have hst:=hM.stored (p+0) (.int .u8 (c8%256))
   try simp only [Nat.add_zero] at hst
   replace hM:=hst.1
   replace hgm:=grownBy_trans hgm hst.2
   replace hB:=hB.farAt (b:=g) (off:=p+0) (Nat.ne_of_gt hgl) (.int .u8 (c8%256))
   try simp only [Nat.add_zero] at hB
   refine hK undef _ (fun _=>True) trivial ?_
   simp only [Act.put,sA,sS,sZ]
   clear hK K cx fx hst
   refine wpO_nil ?_
   intro wz hz
   rw [←hz] at hM hgm hB
   clear hz
   try go_simp
   try rw [←List.map_set] at hM
   go_wp2_with(fail)
   rw [rounds_succ]
   go_upto_region 7 with(fail)
   try go_simp
   refine wp_region_ord 8059 132 8191 [0,1,2,3,4,5,6,7,8,9,10,11,12,13] (fun w'=>Blk w' w.heap.size 65 #[.int .u32 c0, .int .u32 c1, .int .i64 c2, .int .i64 c3, .int .i64 c4, .int .u32 c5, .int .u32 (p:Int), .int .i64 2, .int .u32 c8, .bool c9, .int .u32 c10]) (fun w'=>w'=_) (by kernel_rfl) (by kernel_rfl) (by kernel_rfl) rfl (fun w' hw=>by rw [hw];exact hB.ext (Below.refl _ _).drew) rfl ?_
   repeat'(first
    |refine oQ rfl rfl ?_
    |(refine' oE _ (by decide) (by decide) (fun wq K hK=>?_) ?_ ?_;rotate_left 1;(· go_wp2_with(fail);all_goals exact hK);rfl)
    |(refine' oR _ (by decide) (by decide) (by decide) (fun wq hwq K hK=>?_) ?_ ?_;rotate_left 1;(· have d6:=hwq.cell 6;have d8:=hwq.cell 8;go_wp2_with(fail);all_goals exact hK);rfl)
    |((first | refine oT rfl rfl rfl rfl ?_ ?_ | refine oF rfl rfl rfl rfl ?_ ?_)<;>intro hc<;>first | (cases hc;done) | ((try cases hc);simp only [Act.put,sA,sS,sZ]))
    |refine oU rfl rfl rfl rfl ?_)
   refine wpOW_solo (by decide) (by decide) (by decide) (by kernel_rfl) (fun wx hwx K hK=>?_)
   have hbd:=fun B=>drew_below hwx B
   replace hB:=hB.ext (hbd _)
   replace hM:=hM.kept (below_any (hbd _) none) (Or.inr (by simp [Value.ownBlock]))
   replace hgm:=grownBy_trans hgm (below_any (hbd _) (Value.slice (some ⟨g,0,none⟩) m.length cap).ownBlock)
   clear hwx hbd
   have cx:=hcell _ _ hM (by simp) 1 (by decide)
   have fx:=hM.frozenAt (p+1)
   try simp only [Nat.add_zero] at cx fx
   go_wp2_with(fail)
   have hst:=hM.stored (p+1) (.int .u8 (c8 / 256%256))
   try simp only [Nat.add_zero] at hst
   replace hM:=hst.1
   replace hgm:=grownBy_trans hgm hst.2
   replace hB:=hB.farAt (b:=g) (off:=p+1) (Nat.ne_of_gt hgl) (.int .u8 (c8 / 256%256))
   try simp only [Nat.add_zero] at hB
   refine hK undef _ (fun _=>True) trivial ?_
   simp only [Act.put,sA,sS,sZ]
   clear hK K cx fx hst
   refine wpO_nil ?_
   intro wz hz
   rw [←hz] at hM hgm hB
   clear hz
   try go_simp
   try rw [←List.map_set] at hM
   go_wp2_with(fail)
   rw [rounds_succ]
   go_wp2_with(fail)
   (try simp only [Exit.inBlock,Exit.then])
   first | (refine bodyPost_ret (results_none rfl _ _ _) rfl ?_) | (refine bodyPost_end (results_none rfl _ _ _) rfl ?_)
   refine⟨rfl,_,hga,hHa,?_,hgm⟩
   rw [←HX.out]
   exact hM
  ·obtain⟨q0,q1,q2⟩:0≤c6∧c6+4≤m.length∧c6≤4294967291:=hf.resolve_left (by decide)
   obtain⟨p,rfl⟩:=Int.eq_ofNat_of_zero_le q0
   obtain⟨g,cap',hv,hgb,hgl⟩:=hown.form (by omega)
   injection hv with hA hn' hcap
   subst hA
   have hcell:=fun(W:World) (l:List Int) (hW:W.ownsRow base 5 1 (.slice (some ⟨g,0,none⟩) m.length cap) m.length (l.map (.int .u8))) (hl:l.length=m.length) k (hk:k<4)=>(hW.cellAt (p+k) (by omega)).trans (show(l.map (Value.int .u8))[p+k]? = some (.int .u8 (l.getD (p+k) 0)) by rw [List.getElem?_map,List.getElem?_eq_getElem (by omega),List.getD_eq_getElem?_getD,List.getElem?_eq_getElem (by omega)];rfl)
   clear hown
   go_upto_region 5 with(fail)
   refine wp_loop_rounds 5 ?_
   rw [rounds_succ]
   go_upto_region 7 with(fail)
   try go_simp
   refine wp_region_ord 8059 132 8191 [0,1,2,3,4,5,6,7,8,9,10,11,12,13] (fun w'=>Blk w' w.heap.size 65 #[.int .u32 c0, .int .u32 c1, .int .i64 c2, .int .i64 c3, .int .i64 c4, .int .u32 c5, .int .u32 (p:Int), .int .i64 4, .int .u32 c8, .bool c9, .int .u32 c10]) (fun w'=>w'=_) (by kernel_rfl) (by kernel_rfl) (by kernel_rfl) rfl (fun w' hw=>by rw [hw];exact hB.ext (Below.refl _ _).drew) rfl ?_
   repeat'(first
    |refine oQ rfl rfl ?_
    |(refine' oE _ (by decide) (by decide) (fun wq K hK=>?_) ?_ ?_;rotate_left 1;(· go_wp2_with(fail);all_goals exact hK);rfl)
    |(refine' oR _ (by decide) (by decide) (by decide) (fun wq hwq K hK=>?_) ?_ ?_;rotate_left 1;(· have d6:=hwq.cell 6;have d8:=hwq.cell 8;go_wp2_with(fail);all_goals exact hK);rfl)
    |((first | refine oT rfl rfl rfl rfl ?_ ?_ | refine oF rfl rfl rfl rfl ?_ ?_)<;>intro hc<;>first | (cases hc;done) | ((try cases hc);simp only [Act.put,sA,sS,sZ]))
    |refine oU rfl rfl rfl rfl ?_)
   refine wpOW_solo (by decide) (by decide) (by decide) (by kernel_rfl) (fun wx hwx K hK=>?_)
   have hbd:=fun B=>drew_below hwx B
   replace hB:=hB.ext (hbd _)
   replace hM:=hM.kept (below_any (hbd _) none) (Or.inr (by simp [Value.ownBlock]))
   replace hgm:=grownBy_trans hgm (below_any (hbd _) (Value.slice (some ⟨g,0,none⟩) m.length cap).ownBlock)
   clear hwx hbd
   have cx:=hcell _ _ hM (by simp) 0 (by decide)
   have fx:=hM.frozenAt (p+0)
   try simp only [Nat.add_zero] at cx fx
   go_wp2_with(fail)
   have hst:=hM.stored (p+0) (.int .u8 (c8%256))
   try simp only [Nat.add_zero] at hst
   replace hM:=hst.1
   replace hgm:=grownBy_trans hgm hst.2
   replace hB:=hB.farAt (b:=g) (off:=p+0) (Nat.ne_of_gt hgl) (.int .u8 (c8%256))
   try simp only [Nat.add_zero] at hB
   refine hK undef _ (fun _=>True) trivial ?_
   simp only [Act.put,sA,sS,sZ]
   clear hK K cx fx hst
   refine wpO_nil ?_
   intro wz hz
   rw [←hz] at hM hgm hB
   clear hz
   try go_simp
   try rw [←List.map_set] at hM
   go_wp2_with(fail)
   rw [rounds_succ]
   go_upto_region 7 with(fail)
   try go_simp
   refine wp_region_ord 8059 132 8191 [0,1,2,3,4,5,6,7,8,9,10,11,12,13] (fun w'=>Blk w' w.heap.size 65 #[.int .u32 c0, .int .u32 c1, .int .i64 c2, .int .i64 c3, .int .i64 c4, .int .u32 c5, .int .u32 (p:Int), .int .i64 4, .int .u32 c8, .bool c9, .int .u32 c10]) (fun w'=>w'=_) (by kernel_rfl) (by kernel_rfl) (by kernel_rfl) rfl (fun w' hw=>by rw [hw];exact hB.ext (Below.refl _ _).drew) rfl ?_
   repeat'(first
    |refine oQ rfl rfl ?_
    |(refine' oE _ (by decide) (by decide) (fun wq K hK=>?_) ?_ ?_;rotate_left 1;(· go_wp2_with(fail);all_goals exact hK);rfl)
    |(refine' oR _ (by decide) (by decide) (by decide) (fun wq hwq K hK=>?_) ?_ ?_;rotate_left 1;(· have d6:=hwq.cell 6;have d8:=hwq.cell 8;go_wp2_with(fail);all_goals exact hK);rfl)
    |((first | refine oT rfl rfl rfl rfl ?_ ?_ | refine oF rfl rfl rfl rfl ?_ ?_)<;>intro hc<;>first | (cases hc;done) | ((try cases hc);simp only [Act.put,sA,sS,sZ]))
    |refine oU rfl rfl rfl rfl ?_)
   refine wpOW_solo (by decide) (by decide) (by decide) (by kernel_rfl) (fun wx hwx K hK=>?_)
   have hbd:=fun B=>drew_below hwx B
   replace hB:=hB.ext (hbd _)
   replace hM:=hM.kept (below_any (hbd _) none) (Or.inr (by simp [Value.ownBlock]))
   replace hgm:=grownBy_trans hgm (below_any (hbd _) (Value.slice (some ⟨g,0,none⟩) m.length cap).ownBlock)
   clear hwx hbd
   have cx:=hcell _ _ hM (by simp) 1 (by decide)
   have fx:=hM.frozenAt (p+1)
   try simp only [Nat.add_zero] at cx fx
   go_wp2_with(fail)
   have hst:=hM.stored (p+1) (.int .u8 (c8 / 256%256))
   try simp only [Nat.add_zero] at hst
   replace hM:=hst.1
   replace hgm:=grownBy_trans hgm hst.2
   replace hB:=hB.farAt (b:=g) (off:=p+1) (Nat.ne_of_gt hgl) (.int .u8 (c8 / 256%256))
   try simp only [Nat.add_zero] at hB
   refine hK undef _ (fun _=>True) trivial ?_
   simp only [Act.put,sA,sS,sZ]
   clear hK K cx fx hst
   refine wpO_nil ?_
   intro wz hz
   rw [←hz] at hM hgm hB
   clear hz
   try go_simp
   try rw [←List.map_set] at hM
   go_wp2_with(fail)
   rw [rounds_succ]
   go_upto_region 7 with(fail)
   try go_simp
   refine wp_region_ord 8059 132 8191 [0,1,2,3,4,5,6,7,8,9,10,11,12,13] (fun w'=>Blk w' w.heap.size 65 #[.int .u32 c0, .int .u32 c1, .int .i64 c2, .int .i64 c3, .int .i64 c4, .int .u32 c5, .int .u32 (p:Int), .int .i64 4, .int .u32 c8, .bool c9, .int .u32 c10]) (fun w'=>w'=_) (by kernel_rfl) (by kernel_rfl) (by kernel_rfl) rfl (fun w' hw=>by rw [hw];exact hB.ext (Below.refl _ _).drew) rfl ?_
   repeat'(first
    |refine oQ rfl rfl ?_
    |(refine' oE _ (by decide) (by decide) (fun wq K hK=>?_) ?_ ?_;rotate_left 1;(· go_wp2_with(fail);all_goals exact hK);rfl)
    |(refine' oR _ (by decide) (by decide) (by decide) (fun wq hwq K hK=>?_) ?_ ?_;rotate_left 1;(· have d6:=hwq.cell 6;have d8:=hwq.cell 8;go_wp2_with(fail);all_goals exact hK);rfl)
    |((first | refine oT rfl rfl rfl rfl ?_ ?_ | refine oF rfl rfl rfl rfl ?_ ?_)<;>intro hc<;>first | (cases hc;done) | ((try cases hc);simp only [Act.put,sA,sS,sZ]))
    |refine oU rfl rfl rfl rfl ?_)
   refine wpOW_solo (by decide) (by decide) (by decide) (by kernel_rfl) (fun wx hwx K hK=>?_)
   have hbd:=fun B=>drew_below hwx B
   replace hB:=hB.ext (hbd _)
   replace hM:=hM.kept (below_any (hbd _) none) (Or.inr (by simp [Value.ownBlock]))
   replace hgm:=grownBy_trans hgm (below_any (hbd _) (Value.slice (some ⟨g,0,none⟩) m.length cap).ownBlock)
   clear hwx hbd
   have cx:=hcell _ _ hM (by simp) 2 (by decide)
   have fx:=hM.frozenAt (p+2)
   try simp only [Nat.add_zero] at cx fx
   go_wp2_with(fail)
   have hst:=hM.stored (p+2) (.int .u8 (c8 / 65536%256))
   try simp only [Nat.add_zero] at hst
   replace hM:=hst.1
   replace hgm:=grownBy_trans hgm hst.2
   replace hB:=hB.farAt (b:=g) (off:=p+2) (Nat.ne_of_gt hgl) (.int .u8 (c8 / 65536%256))
   try simp only [Nat.add_zero] at hB
   refine hK undef _ (fun _=>True) trivial ?_
   simp only [Act.put,sA,sS,sZ]
   clear hK K cx fx hst
   refine wpO_nil ?_
   intro wz hz
   rw [←hz] at hM hgm hB
   clear hz
   try go_simp
   try rw [←List.map_set] at hM
   go_wp2_with(fail)
   rw [rounds_succ]
   go_upto_region 7 with(fail)
   try go_simp
   refine wp_region_ord 8059 132 8191 [0,1,2,3,4,5,6,7,8,9,10,11,12,13] (fun w'=>Blk w' w.heap.size 65 #[.int .u32 c0, .int .u32 c1, .int .i64 c2, .int .i64 c3, .int .i64 c4, .int .u32 c5, .int .u32 (p:Int), .int .i64 4, .int .u32 c8, .bool c9, .int .u32 c10]) (fun w'=>w'=_) (by kernel_rfl) (by kernel_rfl) (by kernel_rfl) rfl (fun w' hw=>by rw [hw];exact hB.ext (Below.refl _ _).drew) rfl ?_
   repeat'(first
    |refine oQ rfl rfl ?_
    |(refine' oE _ (by decide) (by decide) (fun wq K hK=>?_) ?_ ?_;rotate_left 1;(· go_wp2_with(fail);all_goals exact hK);rfl)
    |(refine' oR _ (by decide) (by decide) (by decide) (fun wq hwq K hK=>?_) ?_ ?_;rotate_left 1;(· have d6:=hwq.cell 6;have d8:=hwq.cell 8;go_wp2_with(fail);all_goals exact hK);rfl)
    |((first | refine oT rfl rfl rfl rfl ?_ ?_ | refine oF rfl rfl rfl rfl ?_ ?_)<;>intro hc<;>first | (cases hc;done) | ((try cases hc);simp only [Act.put,sA,sS,sZ]))
    |refine oU rfl rfl rfl rfl ?_)
   refine wpOW_solo (by decide) (by decide) (by decide) (by kernel_rfl) (fun wx hwx K hK=>?_)
   have hbd:=fun B=>drew_below hwx B
   replace hB:=hB.ext (hbd _)
   replace hM:=hM.kept (below_any (hbd _) none) (Or.inr (by simp [Value.ownBlock]))
   replace hgm:=grownBy_trans hgm (below_any (hbd _) (Value.slice (some ⟨g,0,none⟩) m.length cap).ownBlock)
   clear hwx hbd
   have cx:=hcell _ _ hM (by simp) 3 (by decide)
   have fx:=hM.frozenAt (p+3)
   try simp only [Nat.add_zero] at cx fx
   go_wp2_with(fail)
   have hst:=hM.stored (p+3) (.int .u8 (c8 / 16777216))
   try simp only [Nat.add_zero] at hst
   replace hM:=hst.1
   replace hgm:=grownBy_trans hgm hst.2
   replace hB:=hB.farAt (b:=g) (off:=p+3) (Nat.ne_of_gt hgl) (.int .u8 (c8 / 16777216))
   try simp only [Nat.add_zero] at hB
   refine hK undef _ (fun _=>True) trivial ?_
   simp only [Act.put,sA,sS,sZ]
   clear hK K cx fx hst
   refine wpO_nil ?_
   intro wz hz
   rw [←hz] at hM hgm hB
   clear hz
   try go_simp
   try rw [←List.map_set] at hM
   go_wp2_with(fail)
   rw [rounds_succ]
   go_wp2_with(fail)
   (try simp only [Exit.inBlock,Exit.then])
   first | (refine bodyPost_ret (results_none rfl _ _ _) rfl ?_) | (refine bodyPost_end (results_none rfl _ _ _) rfl ?_)
   refine⟨rfl,_,hga,hHa,?_,hgm⟩
   rw [←HX.out]
   have ex:c8 / 16777216%256=c8 / 16777216:=by omega
   have e4:applyM ⟨c0,c1,c2,c3,c4,c5,(p:Int),4,c8,c9,c10⟩ m=(((m.set p (c8%256)).set (p+1) (c8 / 256%256)).set (p+2) (c8 / 65536%256)).set (p+3) (c8 / 16777216):=by
    show put4 m p c8=_
    unfold put4 put2 put1
    rw [ex]
   rw [e4]
   exact hM
end Go.Proofs.Ytapgojgcmlnbgac
