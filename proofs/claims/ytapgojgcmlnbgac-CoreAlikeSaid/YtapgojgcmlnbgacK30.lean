/- Parts of a proof. -/
import Derived.Test.YtapgojgcmlnbgacK29
import Derived.Test.YtapgojgcmlnbgacK16
import Derived.Test.YtapgojgcmlnbgacK25
set_option linter.unusedSimpArgs false
set_option linter.unusedVariables false
set_option maxRecDepth 100000
set_option maxHeartbeats 16000000
namespace Go.Proofs.Ytapgojgcmlnbgac
open Go.RowKit
section
variable {B:Nat} {w:World} {g p:Nat} {C:Core} {L:Lay} {ps:List Nat} {cs:Array Value} {u:Uop}
theorem CoreCells.any_ops (h:CoreCells cs C L) (l:List Uop):CoreCells cs { C with ops:=l } L:=
 ⟨h.size,h.window,h.phys,h.wide,h.commits,h.mem,h.cycles,h.taken,h.backs,h.script,h.slots,h.ops,h.access,h.seq,h.pc,h.still,h.hart,h.tab,h.names,h.words,h.there⟩
theorem CoreIs.setuop (h:CoreIs B w g C L ps cs) {i:Nat} (hp:ps[i]? = some p) (hu:Blk w p 70 u.cells) (k:Nat) (v:Value) {u':Uop} (hc:u.cells.setIfInBounds k v=u'.cells) :
  CoreIs B (w.setCell ⟨p,k,none⟩ v) g { C with ops:=C.ops.set i u' } L ps cs:=by
 have hg:=grownBy_setCell w ⟨p,k,none⟩ v
 have hB':Blk (w.setCell ⟨p,k,none⟩ v) p 70 u'.cells:=by rw [←hc];exact hu.set k v
 exact⟨by simpa using h.low,h.blk.far (by show g≠p;exact fun e=>blk_other hu h.blk (by decide) e.symm) v,h.cells.any_ops _,h.rows.uop h.low hp hg hB'⟩
theorem turned_uop (hu:Blk w p 70 u.cells) (hB:B≤p) {w':World} (hg:w.grownBy w' (some p)):Turned B w w':=
 Turned.grown hg fun k hk=>by cases hk;exact⟨hB,_,_,_,hu,rfl⟩
theorem CoreIs.uop_at (h:CoreIs B w g C L ps cs) {i:Nat} (hp:ps[i]? = some p):Blk w p 70 (C.op i).cells∧B≤p∧i<C.ops.length∧C.ops[i]? = some (C.op i):=by
 have hi:i<ps.length:=(List.getElem?_eq_some_iff.1 hp).1
 have hi2:i<C.ops.length:=by rw [←h.rows.uops.len];exact hi
 have hg:C.ops[i]? = some (C.op i):=by unfold Core.op;simp [List.getD,List.getElem?_eq_getElem hi2]
 exact⟨(h.rows.uops.at_ i _ p hg hp).1,(h.rows.uops.at_ i _ p hg hp).2,hi2,hg⟩
theorem slots_own {base:Nat} {v:Value} {l:List Slt} (h:w.ownsRow base 105 2 v l.length (slotsV l)):∃ A c,v = .slice A l.length c∧SlotsAt w w.heap.size A l∧(A=none→l=[]∧c=0)∧l.length≤c∧c≤9223372036854775807:=by
 have h0:=h
 rcases h.2 with⟨rfl,hz⟩ | ⟨g,c,cur,rfl,_,_,hc,hm,_⟩
 ·have hz':=List.eq_nil_of_length_eq_zero hz
  subst hz'
  exact⟨none,0,rfl,fun h=>absurd rfl h,fun _=>⟨rfl,rfl⟩,Nat.le_refl _,by decide⟩
 ·exact⟨_,c,rfl,SlotsAt.own h0,fun h=>(by cases h),hc,by unfold maxLen at hm;omega⟩
theorem DonePost.row {l:List Slt} {seq:Int} {e:Ending} {w':World} (h:DonePost w l seq e w'):Below w.heap.size w w'∧∃ v b,e = .returned (.tuple #[v, .bool b])∧w'.ownsRow w.heap.size 105 2 v ((doneP l seq).getD []).length (slotsV ((doneP l seq).getD [])):=by
 unfold DonePost at h
 obtain⟨hb,h⟩:=h
 refine⟨hb,?_⟩
 cases hp:doneP l seq with
 |none=>rw [hp] at h;exact⟨_,_,h,World.ownsRow_nil _ _ _ _⟩
 |some k=>rw [hp] at h;obtain⟨v,rfl,ho⟩:=h;exact⟨v,true,rfl,ho⟩
theorem own_lower {w:World} {base base':Nat} {e:TypeId} {size:Nat} {v:Value} {n:Nat} {xs:List Value} (h:w.ownsRow base e size v n xs) (hb:base'≤base):w.ownsRow base' e size v n xs:=
 ⟨h.1,h.2.imp id fun⟨g,cap,cur,e,l,r⟩=>⟨g,cap,cur,e,Nat.le_trans hb l,r⟩⟩
theorem CoreIs.setslots (h:CoreIs B w g C L ps cs) {v:Value} {l:List Slt} (ho:w.ownsRow B 105 2 v l.length (slotsV l)):CoreIs B (w.setCell ⟨g,334,none⟩ v) g { C with slots:=l } { L with slots:=v } ps (cs.setIfInBounds 334 v)∧Turned B w (w.setCell ⟨g,334,none⟩ v):=
 ⟨h.set 334 v (h.cells.set_slots v l) (h.rows.slot ho),h.turned (grownBy_setCell w ⟨g,334,none⟩ v)⟩
theorem finish_any (h:CoreIs B w g C L ps cs) {k:Nat} (hp:ps[k]? = some p) (hsl:C.slots.length≤1000) :
  Calls Try.prog 30 #[.pointer (some ⟨g,0,none⟩), .pointer (some ⟨p,0,none⟩)] w fun e w'=>e = .returned (.tuple #[])∧Turned B w w'∧∃ L' cs',CoreIs B w' g (finishP C k) L' ps cs':=by
 obtain⟨hu,hBp,hk,hg⟩:=h.uop_at hp
 unfold finishP
 generalize C.op k=u at *
 have c1:w.cell? ⟨p,1,none⟩=some (.int .i64 u.state):=hu.cell 1
 have f1:=hu.frozen 1
 have zp:=hu.lt
 have zg:=h.lt
 have h1:=h.setuop hp hu 1 (.int .i64 2) (Uop.set_state u 2)
 have hu1:Blk (w.setCell ⟨p,1,none⟩ (.int .i64 2)) p 70 (Uop.cells { u with state:=2 }):=hu.set 1 (.int .i64 2)
 have HI:=Lib.hid (And.intro h1 (And.intro hu1 (turned_uop hu hBp (grownBy_setCell w ⟨p,1,none⟩ (.int .i64 2)))))
 clear h1 hu1 h hu
 generalize hC1:({ C with ops:=C.ops.set k { u with state:=2 } }:Core)=C1 at HI
 have HC1:=Lib.hid hC1
 have es:C1.slots=C.slots:=by rw [←hC1]
 clear hC1
 go_enter Try.func30,Try.ntmps30
 go_upto_region 1 with(fail)
 go_simp
 clear c1 f1 zg
 generalize w.setCell ⟨p,1,none⟩ (.int .i64 2)=w1 at *
 obtain⟨h1,hu1,ht1⟩:=HI.out
 have zg:=h1.lt
 have zp1:=hu1.lt
 have c334:=h1.slots
 have c0:w1.cell? ⟨p,0,none⟩=some (.int .i64 u.seq):=hu1.cell 0
 obtain⟨A,cp,hsv,hS,hnl,hc1,hc2⟩:=slots_own h1.rows.slots
 rw [hsv] at c334
 rw [es] at c334 hS hnl hc1
 have HS:=Lib.hid (And.intro hS hnl)
 clear hS hnl h1 hu1 ht1 hsv
 refine wp_region_ob 31983 272 32255 [0,1,2,3,4,5,6,7,8,9,10,11,12,13,14,15] (by kernel_rfl) (by kernel_rfl) (by kernel_rfl) rfl ?_
 repeat'(first
  |refine oQ rfl rfl ?_
  |(refine' oE _ (by decide) (by decide) (fun wq K hK=>?_) ?_ ?_;rotate_left 1;(· go_wp2_with(fail);all_goals exact hK);rfl)
  |(refine' oR _ (by decide) (by decide) (by decide) (fun wq hwq K hK=>?_) ?_ ?_;rotate_left 1;(· have k334:=hwq.at_ zg c334;have k0:=hwq.at_ zp1 c0;go_wp2_with(fail);all_goals exact hK);rfl)
  |((first | refine oT rfl rfl rfl rfl ?_ ?_ | refine oF rfl rfl rfl rfl ?_ ?_)<;>intro hc<;>first | (cases hc;done) | ((try cases hc);simp only [Act.put,sA,sS,sZ]))
  |refine oU rfl rfl rfl rfl ?_)
 refine wpOW_solo (by decide) (by decide) (by decide) (by kernel_rfl) (fun w2 hw2 K1 hK1=>?_)
 have hb2:Below w1.heap.size w1 w2:=by rw [hw2];exact(Below.refl _ _).drew
 have hS2:=(HS.out.1.below hb2).mono hb2.size
 have CD:=Lib.hid (done_any A cp C.slots u.seq w2 (by omega) hS2 HS.out.2)
 clear hw2 hS2
 go_wp2_with(go_at_call 56;(with_reducible refine CD.out.mono ?_);intro e w3 hD;obtain⟨hb3,v3,b3,rfl,ho3⟩:=hD.row;obtain⟨A3,c3,rfl⟩:=own_value ho3)
 refine hK1 _ _ (fun _=>True) trivial ?_
 simp only [Act.put,sA,sS,sZ]
 clear hK1 K1 CD hD
 have hb13:=hb2.trans (hb3.mono hb2.size)
 have h3:=HI.out.1.ext hb13
 have ho3':=own_lower ho3 (base':=B) (Nat.le_trans HI.out.1.low hb2.size)
 have k3:=h3.slots
 have f3:=h3.blk.frozen 334
 have z3:=h3.lt
 have HJ:=Lib.hid (And.intro (h3.setslots ho3').1 (HI.out.2.2.trans ((Turned.below hb13).trans (h3.setslots ho3').2)))
 clear h3 ho3 ho3' HI hb13 hb2 hb3 HS
 repeat'(first
  |refine oQ rfl rfl ?_
  |(refine' oE _ (by decide) (by decide) (fun wq K hK=>?_) ?_ ?_;rotate_left 1;(· go_wp2_with(fail);all_goals exact hK);rfl)
  |((first | refine oT rfl rfl rfl rfl ?_ ?_ | refine oF rfl rfl rfl rfl ?_ ?_)<;>intro hc<;>first | (cases hc;done) | ((try cases hc);simp only [Act.put,sA,sS,sZ]))
  |refine oU rfl rfl rfl rfl ?_)
 refine wpOW_solo (by decide) (by decide) (by decide) (by kernel_rfl) (fun w4 hw4 K1 hK1=>?_)
 subst hw4
 go_wp2_with(fail)
 refine hK1 undef _ (fun _=>True) trivial ?_
 simp only [Act.put,sA,sS,sZ]
 clear hK1 K1
 refine wpO_nil ?_
 rintro w5 hw5
 rw [←hw5] at HJ
 go_wp2_with(fail)
 refine bodyPost_end (results_none rfl _ _ _) rfl ?_
 have hj:=HJ.out.1
 rw [←HC1.out] at hj
 exact⟨rfl,HJ.out.2,_,_,hj⟩
end
theorem hart_setreg {h:Hart} (hl:h.regs.length=32) {i:Nat} (hi:i<32) (x:Int):h.cells.setIfInBounds i (.int .u32 x)=Hart.cells { h with regs:=h.regs.set i x }:=by
 unfold Hart.cells
 rw [List.setIfInBounds_toArray,List.set_append_left _ _ (by simp [hl];exact hi),List.map_set]
theorem hart_splice {l r:List Int} (hl:l.length=32) (hr:r.length=32) (pc st ca:Int):splice (Hart.cells ⟨l,pc,st,ca⟩) 0 (r.map (Value.int .u32))=Hart.cells ⟨r,pc,st,ca⟩:=by
 have hz:(Hart.cells ⟨l,pc,st,ca⟩).size=35:=Hart.cells_size hl
 have hz2:(Hart.cells ⟨r,pc,st,ca⟩).size=35:=Hart.cells_size hr
 have hlen:0+(r.map (Value.int .u32)).length≤(Hart.cells ⟨l,pc,st,ca⟩).size:=by rw [hz];simp [hr]
 apply Array.ext_getElem?
 intro i
 rw [splice_get _ _ _ hlen,if_neg (by omega)]
 by_cases hi:i<32
 ·rw [if_pos (by simp [hr];exact hi),Nat.sub_zero,Hart.cells_reg (by show i<r.length;rw [hr];exact hi),List.getElem?_map]
  simp [List.getD,List.getElem?_eq_getElem (show i<r.length by rw [hr];exact hi)]
 ·rw [if_neg (by simp [hr];omega)]
  unfold Hart.cells
  rw [List.getElem?_toArray,List.getElem?_toArray,List.getElem?_append_right (by simp [hl];omega),List.getElem?_append_right (by simp [hr];omega)]
  simp [hl,hr]
section
variable {B:Nat} {w:World} {g p:Nat} {C:Core} {L:Lay} {ps:List Nat} {cs:Array Value} {u:Uop}
theorem regs_any (h:CoreIs B w g C L ps cs) (hp:Blk w p 70 u.cells) (hl:C.hart.regs.length=32) (h1:0≤u.ins.rs1∧u.ins.rs1≤31) (h2:0≤u.ins.rs2∧u.ins.rs2≤31) (ha:0≤u.a∧u.a<96) (hb:0≤u.b∧u.b<96) :
  Calls Try.prog 25 #[.pointer (some ⟨g,0,none⟩), .pointer (some ⟨p,0,none⟩)] w fun e w'=>∃ b,e = .returned (.pointer (some ⟨b,0,none⟩))∧w.heap.size≤b∧Below w.heap.size w w'∧Blk w' b 27 (regsP C u).cells:=by
 have c3:w.cell? ⟨p,3,none⟩=some (.int .u32 u.pc):=hp.cell 3
 have zp:=hp.lt
 have zg:=h.lt
 have hne:=blk_other hp h.blk (by decide)
 unfold regsP Core.word
 obtain⟨r1,e1⟩:=Int.eq_ofNat_of_zero_le h1.1
 obtain⟨r2,e2⟩:=Int.eq_ofNat_of_zero_le h2.1
 obtain⟨a,e3⟩:=Int.eq_ofNat_of_zero_le ha.1
 obtain⟨b,e4⟩:=Int.eq_ofNat_of_zero_le hb.1
 have c7:w.cell? ⟨p,7,none⟩=some (.int .i64 u.ins.rs1):=hp.cell 7
 have c8:w.cell? ⟨p,8,none⟩=some (.int .i64 u.ins.rs2):=hp.cell 8
 have c11:w.cell? ⟨p,11,none⟩=some (.int .i64 u.a):=hp.cell 11
 have c12:w.cell? ⟨p,12,none⟩=some (.int .i64 u.b):=hp.cell 12
 rw [e1] at c7 h1 ⊢
 rw [e2] at c8 h2 ⊢
 rw [e3] at c11 ha ⊢
 rw [e4] at c12 hb ⊢
 simp only [Int.toNat_natCast]
 have ka:=h.word (d:=a) (by omega)
 have kb:=h.word (d:=b) (by omega)
 generalize C.words.getD a 0=xa at *
 generalize C.words.getD b 0=xb at *
 generalize u.pc=pc at *
 have hX:=h.cells.regsX hl
 have hBg:=h.blk
 have hsz:=h.cells.size
 generalize C.hart.regs=l at *
 have built_h:Try.prog.built 27 [(1, .int .u32 pc)]=some (Hart.cells ⟨List.replicate 32 0,pc,0,0⟩):=by kernel_rfl
 have hr1:r1<32:=by omega
 have hr2:r2<32:=by omega
 have ha96:a<96:=by omega
 have hb96:b<96:=by omega
 have Hp:=Lib.hid hp
 have HBg:=Lib.hid hBg
 clear h hp h1 h2 ha hb e1 e2 e3 e4
 go_enter Try.func25,Try.ntmps25
 go_upto_region 2 with(refine wpList_build_to rfl 27 _ rfl [(1, .int .u32 pc)] rfl _ built_h ?_)
 go_simp
 refine wp_gen fun wa hq=>?_
 have hb1:Below w.heap.size w wa:=by rw [hq];exact(Below.refl _ _).alloc (Nat.le_refl _) _
 have hB1:Blk wa w.heap.size 27 (Hart.cells ⟨List.replicate 32 0,pc,0,0⟩):=by rw [hq];exact Blk.new w 27 (Hart.cells ⟨List.replicate 32 0,pc,0,0⟩)
 clear hq c3
 have hBga:=hBg.ext hb1
 have zga:=hBga.lt
 have hsz1:(Hart.cells ⟨List.replicate 32 0,pc,0,0⟩).size=35:=rfl
 have hRone:(l.map (Value.int .u32)).toArray.all (·.oneCell')=true:=by
  rw [Array.all_eq_true_iff_forall_mem]
  intro v hv
  simp only [List.mem_toArray,List.mem_map] at hv
  obtain⟨x,_,rfl⟩:=hv
  rfl
 have hRsz:(Try.prog.info? 25).map (·.size)=some (l.map (Value.int .u32)).toArray.size:=by rw [cwords_info];simp [hl]
 have HX:=Lib.hid hX
 have hRs32:(l.map (Value.int .u32)).toArray.size=32:=by simp [hl]
 obtain⟨R,hR⟩:∃ R,R=(l.map (Value.int .u32)).toArray:=⟨_,rfl⟩
 rw [←hR] at HX hRone hRsz hRs32
 have HR:=Lib.hid hR
 clear hX hR
 generalize hH0:Hart.cells ⟨List.replicate 32 0,pc,0,0⟩=H0 at hB1 hsz1
 have HH0:=Lib.hid hH0
 clear hH0
 go_upto_region 3 with(first
  |(refine wpList_load_blk rfl 25 _ rfl g 4 rfl 60 cs 32 _ hBga Try.underlying25 rfl cwords_info (by omega) ?_;rw [HX.out])
  |(refine wpList_store_blk rfl 25 _ _ rfl w.heap.size 0 R rfl rfl 27 H0 hB1 hRsz (by omega) hRone ?_;intro w2 hB2 hg2))
 go_simp
 rw [HR.out,←HH0.out] at hB2
 have hB2:Blk w2 w.heap.size 27 (Hart.cells ⟨l,pc,0,0⟩):=by rw [←hart_splice (l:=List.replicate 32 0) rfl hl pc 0 0];exact hB2
 have hb2:Below w.heap.size w w2:=below_grown hb1 hg2 hb1.size (Nat.le_refl _)
 replace c7:=(hb2.cell (p:=⟨p,7,none⟩) zp).trans c7
 replace c8:=(hb2.cell (p:=⟨p,8,none⟩) zp).trans c8
 replace c11:=(hb2.cell (p:=⟨p,11,none⟩) zp).trans c11
 replace c12:=(hb2.cell (p:=⟨p,12,none⟩) zp).trans c12
 replace ka:=(hb2.cell (p:=⟨g,142+a,none⟩) zg).trans ka
 replace kb:=(hb2.cell (p:=⟨g,142+b,none⟩) zg).trans kb
 replace zp:=Nat.lt_of_lt_of_le zp hb2.size
 replace zg:=Nat.lt_of_lt_of_le zg hb2.size
 clear hg2 hB1 hb1 hBga zga HR HH0 HX hRone hRsz hRs32 hsz1 hBg HBg Hp built_h hsz
 refine wp_region_ob 128277477343 571541536 128849018879 [0,1,2,3,4,5,6,7,8,9,10,11,12,13,14,15,16,17,18,19,20,21,22,23,24,25,26,27,28,29,30,31,32,34,35,33,36,37] (by kernel_rfl) (by kernel_rfl) (by kernel_rfl) rfl ?_
 repeat'(first
  |refine oQ rfl rfl ?_
  |(refine' oE _ (by decide) (by decide) (fun wq K hK=>?_) ?_ ?_;rotate_left 1;(· go_wp2_with(fail);all_goals exact hK);rfl)
  |(refine' oR _ (by decide) (by decide) (by decide) (fun wq hwq K hK=>?_) ?_ ?_;rotate_left 1;(· have k7:=hwq.at_ zp c7;have k8:=hwq.at_ zp c8;have k11:=hwq.at_ zp c11;have k12:=hwq.at_ zp c12;have kka:=hwq.at_ zg ka;have kkb:=hwq.at_ zg kb;go_wp2_with(fail);all_goals exact hK);rfl)
  |((first | refine oT rfl rfl rfl rfl ?_ ?_ | refine oF rfl rfl rfl rfl ?_ ?_)<;>intro hc<;>first | (cases hc;done) | ((try cases hc);simp only [Act.put,sA,sS,sZ]))
  |refine oU rfl rfl rfl rfl ?_)
 clear c7 c8 c11 c12 ka kb
 refine wpOW_solo (by decide) (by decide) (by decide) (by kernel_rfl) (fun w3 hw3 K1 hK1=>?_)
 have hb3:Below w2.heap.size w2 w3:=by rw [hw3];exact(Below.refl _ _).drew
 have hB3:=hB2.ext hb3
 have hb3':=hb2.trans (hb3.mono hb2.size)
 have k1:=hB3.cell r1
 rw [Hart.cells_reg (by show r1<l.length;rw [hl];exact hr1)] at k1
 have f1:=hB3.frozen r1
 have z1:=hB3.lt
 have hB4:=hB3.set r1 (.int .u32 xa)
 rw [hart_setreg hl hr1] at hB4
 have HJ:=Lib.hid (And.intro hB4 (below_set (u := .int .u32 xa) (off:=r1) (Nat.le_refl w.heap.size) hb3'))
 clear hw3 hB3 hB4 hb3' hb3 hB2 hb2
 go_wp2_with(fail)
 refine hK1 undef _ (fun _=>True) trivial ?_
 simp only [Act.put,sA,sS,sZ]
 clear hK1 K1 k1 f1 z1
 repeat'(first
  |refine oQ rfl rfl ?_
  |(refine' oE _ (by decide) (by decide) (fun wq K hK=>?_) ?_ ?_;rotate_left 1;(· go_wp2_with(fail);all_goals exact hK);rfl)
  |((first | refine oT rfl rfl rfl rfl ?_ ?_ | refine oF rfl rfl rfl rfl ?_ ?_)<;>intro hc<;>first | (cases hc;done) | ((try cases hc);simp only [Act.put,sA,sS,sZ]))
  |refine oU rfl rfl rfl rfl ?_)
 refine wpOW_solo (by decide) (by decide) (by decide) (by kernel_rfl) (fun w4 hw4 K1 hK1=>?_)
 rw [←hw4] at HJ
 obtain⟨hB4,hb4⟩:=HJ.out
 have hl4:(l.set r1 xa).length=32:=by simp [hl]
 have k1:=hB4.cell r2
 rw [Hart.cells_reg (by show r2<(l.set r1 xa).length;rw [hl4];exact hr2)] at k1
 have f1:=hB4.frozen r2
 have z1:=hB4.lt
 have hB5:=hB4.set r2 (.int .u32 xb)
 rw [hart_setreg hl4 hr2] at hB5
 have HJ2:=Lib.hid (And.intro hB5 (below_set (u := .int .u32 xb) (off:=r2) (Nat.le_refl w.heap.size) hb4))
 clear hw4 hB4 hb4 HJ hB5
 go_wp2_with(fail)
 refine hK1 undef _ (fun _=>True) trivial ?_
 simp only [Act.put,sA,sS,sZ]
 clear hK1 K1 k1 f1 z1
 refine wpO_nil ?_
 rintro w5 hw5
 rw [←hw5] at HJ2
 go_wp2_with(fail)
 go_ret
 exact⟨_,rfl,Nat.le_refl _,HJ2.out.2,HJ2.out.1⟩
end
theorem below_row {w w':World} (h:Below w.heap.size w w') (row:Option Nat):w.grownBy w' row:=⟨h.os,h.tape,h.output,h.size,fun k hk _=>h.block k hk⟩
section
variable {B:Nat} {w:World} {g p:Nat} {C:Core} {L:Lay} {ps:List Nat} {cs:Array Value} {u:Uop}
theorem head_nonneg (l:List Int):0≤headP l:=by
 unfold headP
 split
 ·exact Int.le_refl _
 ·omega
theorem follow_any (h:CoreIs B w g C L ps cs) (hp:Blk w p 70 u.cells) (ht:TabOk C.table) (h0:0≤u.pc∧u.pc≤4294967295) :
  Calls Try.prog 41 #[.pointer (some ⟨g,0,none⟩), .pointer (some ⟨p,0,none⟩)] w fun e w'=>e = .returned (.int .u32 (followP C u.ins u.pc).1)∧w.grownBy w' (some g)∧∃ L' cs',CoreIs B w' g { C with script:=(followP C u.ins u.pc).2 } L' ps cs':=by
 have c3:w.cell? ⟨p,3,none⟩=some (.int .u32 u.pc):=hp.cell 3
 have c5:w.cell? ⟨p,5,none⟩=some (.int .i64 u.ins.op):=hp.cell 5
 have c9:w.cell? ⟨p,9,none⟩=some (.int .i32 u.ins.imm):=hp.cell 9
 have CP3:=Lib.hid (show u.cells[3]? = some (.int .u32 u.pc) from rfl)
 have CP9:=Lib.hid (show u.cells[9]? = some (.int .i32 u.ins.imm) from rfl)
 have zp:=hp.lt
 have hne:=blk_other hp h.blk (by decide)
 have hT:=h.cells.tabX ht.size
 have hsz:=h.cells.size
 obtain⟨_,hca⟩:=ht.cnt_of u.pc
 have CB:=Lib.hid (fun W=>branch_any C.table (cntOf C.table u.pc) u.pc W h0.1 h0.2 ht.size hca)
 have HC:∀ (W:World),CoreIs B W g C L ps cs→Calls Try.prog 34 #[.pointer (some ⟨g,0,none⟩)] W fun e w'=>e = .returned (.int .i64 (headP C.script))∧W.grownBy w' (some g)∧∃ L' cs',CoreIs B w' g { C with script:=C.script.tail } L' ps cs':=fun W h=>choice_any h
 have hn0:=head_nonneg C.script
 have HI:=Lib.hid h
 have HP:=Lib.hid hp
 have HB:=Lib.hid h.blk
 have HT:=Lib.hid hT
 have HC:=Lib.hid HC
 unfold followP
 dsimp only
 clear hT h hp hca
 generalize cntOf C.table u.pc=t at *
 obtain⟨lv,tg⟩:=t
 dsimp only at CB ⊢
 generalize u.ins.op=op at *
 generalize u.ins.imm=im at *
 generalize u.pc=pc at *
 generalize headP C.script=n at *
 by_cases q3:op=3
 focus
  subst q3
  rw [if_pos rfl]
 rotate_left 1
 focus
  have q3':(op==3)=false:=by simpa using q3
  rw [if_neg q3]
  by_cases q4:op=4
  focus
   subst q4
   rw [if_pos rfl]
   by_cases q1:n%4=1
   focus
    rw [if_pos q1]
    have q1':(n%4==1)=true:=by simpa using q1
   rotate_left 1
   focus
    rw [if_neg q1]
    have q1':(n%4==1)=false:=by simpa using q1
   rotate_left 1
  rotate_left 2
  focus
   have q4':(op==4)=false:=by simpa using q4
   rw [if_neg q4]
   by_cases q5:5≤op∧op≤10
   focus
    obtain⟨q5a,q5b⟩:=q5
    have e5:decide (5≤op)=true:=decide_eq_true q5a
    have e6:decide (op≤10)=true:=decide_eq_true q5b
    rw [if_pos ⟨q5a,q5b⟩]
    generalize hlv:decide (2≤lv)=lb at *
    by_cases q1:n%3=1
    focus
     have q1':(n%3==1)=true:=by simpa using q1
     rw [decide_eq_true q1]
     rcases lb with _ | _
     focus
      clear hlv
     rotate_left 1
     focus
      clear hlv
     rotate_left 1
    rotate_left 2
    focus
     have q1':(n%3==1)=false:=by simpa using q1
     rw [decide_eq_false q1]
     rcases lb with _ | _
     focus
      clear hlv
     rotate_left 1
     focus
      clear hlv
     rotate_left 1
    rotate_left 2
   rotate_left 4
   focus
    rw [if_neg q5]
    have q5':op<5∨(5≤op∧10<op):=by omega
    clear q5
    rcases q5' with q5 | ⟨q5,q6⟩
    focus
     have e5:decide (5≤op)=false:=decide_eq_false (by omega)
    rotate_left 1
    focus
     have e5:decide (5≤op)=true:=decide_eq_true q5
     have e6:decide (op≤10)=false:=decide_eq_false (by omega)
    rotate_left 1
   rotate_left 2
  rotate_left 6
 rotate_left 8
 all_goals
  go_enter Try.func41,Try.ntmps41
  go_upto_region 2 with(fail)
  go_simp
  refine wp_region_ob 15991 136 16127 [0,1,2,3,4,5,6,7,8,9,10,11,12,13] (by kernel_rfl) (by kernel_rfl) (by kernel_rfl) rfl ?_
  repeat'(first
   |refine oQ rfl rfl ?_
   |(refine' oE _ (by decide) (by decide) (fun wq K hK=>?_) ?_ ?_;rotate_left 1;(· go_wp2_with(fail);all_goals exact hK);rfl)
   |(refine' oR _ (by decide) (by decide) (by decide) (fun wq hwq K hK=>?_) ?_ ?_;rotate_left 1;(· have k3:=hwq.at_ zp c3;first | ((refine wp_load_blk 50 _ rfl g 44 rfl 60 cs 64 _ (HB.out.ext hwq) Try.underlying50 rfl ctab_info (by omega) ?_;rw [HT.out];exact hK)) | (go_wp2_with(fail);all_goals exact hK));rfl)
   |((first | refine oT rfl rfl rfl rfl ?_ ?_ | refine oF rfl rfl rfl rfl ?_ ?_)<;>intro hc<;>first | (cases hc;done) | ((try cases hc);simp only [Act.put,sA,sS,sZ]))
   |refine oU rfl rfl rfl rfl ?_)
  refine wpOW_solo (by decide) (by decide) (by decide) (by kernel_rfl) (fun w1 hw1 K1 hK1=>?_)
  have hb1:Below w.heap.size w w1:=by rw [hw1];exact(Below.refl _ _).drew
  clear hw1
  go_wp2_with(go_at_call 70;(with_reducible refine(CB.out w1).mono ?_);rintro e w2 ⟨rfl,hb2⟩)
  refine hK1 _ _ (fun _=>True) trivial ?_
  simp only [Act.put,sA,sS,sZ]
  clear hK1 K1
  repeat'(first
   |refine oQ rfl rfl ?_
   |(refine' oE _ (by decide) (by decide) (fun wq K hK=>?_) ?_ ?_;rotate_left 1;(· go_wp2_with(fail);all_goals exact hK);rfl)
   |((first | refine oT rfl rfl rfl rfl ?_ ?_ | refine oF rfl rfl rfl rfl ?_ ?_)<;>intro hc<;>first | (cases hc;done) | ((try cases hc);simp only [Act.put,sA,sS,sZ]))
   |refine oU rfl rfl rfl rfl ?_)
  refine wpO_nil ?_
  rintro w3 rfl
  replace hb2:=hb1.trans (hb2.mono hb1.size)
  clear hb1
  replace c3:=(hb2.cell (p:=⟨p,3,none⟩) zp).trans c3
  replace c5:=(hb2.cell (p:=⟨p,5,none⟩) zp).trans c5
  replace c9:=(hb2.cell (p:=⟨p,9,none⟩) zp).trans c9
  replace zp:=Nat.lt_of_lt_of_le zp hb2.size
  have HI2:=Lib.hid (HI.out.ext hb2)
  have HP2:=Lib.hid (HP.out.ext hb2)
  clear HB HT CB HI HP
 ·go_upto_region 5 with(fail)
  go_simp
  refine wp_region_ob 3831 264 4095 [0,1,2,3,4,5,6,7,8,9,10,11] (by kernel_rfl) (by kernel_rfl) (by kernel_rfl) rfl ?_
  repeat'(first
   |refine oQ rfl rfl ?_
   |(refine' oE _ (by decide) (by decide) (fun wq K hK=>?_) ?_ ?_;rotate_left 1;(· go_wp2_with(fail);all_goals exact hK);rfl)
   |(refine' oR _ (by decide) (by decide) (by decide) (fun wq hwq K hK=>?_) ?_ ?_;rotate_left 1;(· have k3:=hwq.at_ zp c3;have k9:=hwq.at_ zp c9;go_wp2_with(fail);all_goals exact hK);rfl)
   |((first | refine oT rfl rfl rfl rfl ?_ ?_ | refine oF rfl rfl rfl rfl ?_ ?_)<;>intro hc<;>first | (cases hc;done) | ((try cases hc);simp only [Act.put,sA,sS,sZ]))
   |refine oU rfl rfl rfl rfl ?_)
  refine wpO_nil ?_
  rintro w4 rfl
  go_wp2_with(fail)
  go_ret
  exact⟨ret_int (by unfold u32;omega),below_row (hb2.trans ((Below.refl _ _).drew.mono hb2.size)) _,L,cs,HI2.out.ext (Below.refl _ _).drew⟩
 ·skip
  go_wp2_with(go_at_call 34;(with_reducible refine(HC.out _ HI2.out).mono ?_);rintro e w4 ⟨rfl,hg3,L2,cs2,HI3⟩)
  go_ret
  replace hg3:=(below_row hb2 (some g)).trans hg3
  exact⟨ret_int rfl,hg3,L2,cs2,HI3⟩
 ·skip
  go_wp2_with(go_at_call 34;(with_reducible refine(HC.out _ HI2.out).mono ?_);rintro e w4 ⟨rfl,hg3,L2,cs2,HI3⟩)
  go_ret
  replace hg3:=(below_row hb2 (some g)).trans hg3
  exact⟨rfl,hg3,L2,cs2,HI3⟩
 ·skip
  go_upto_region 14 with(go_at_call 34;(with_reducible refine(HC.out _ HI2.out).mono ?_);rintro e w4 ⟨rfl,hg3,L2,cs2,HI3⟩;have HP3:=HP2.out.grown hg3 (by simpa using hne);have zp4:=HP3.lt;have d3:w4.cell? ⟨p,3,none⟩=some (.int .u32 pc):=(HP3.cell 3).trans CP3.out;have d9:w4.cell? ⟨p,9,none⟩=some (.int .i32 im):=(HP3.cell 9).trans CP9.out;clear HP3)
  go_simp
  replace hg3:=(below_row hb2 (some g)).trans hg3
  clear c3 c5 c9
  refine wp_region_ob 3831 264 4095 [0,1,2,3,4,5,6,7,8,9,10,11] (by kernel_rfl) (by kernel_rfl) (by kernel_rfl) rfl ?_
  repeat'(first
   |refine oQ rfl rfl ?_
   |(refine' oE _ (by decide) (by decide) (fun wq K hK=>?_) ?_ ?_;rotate_left 1;(· go_wp2_with(fail);all_goals exact hK);rfl)
   |(refine' oR _ (by decide) (by decide) (by decide) (fun wq hwq K hK=>?_) ?_ ?_;rotate_left 1;(· have k3:=hwq.at_ zp4 d3;have k9:=hwq.at_ zp4 d9;go_wp2_with(fail);all_goals exact hK);rfl)
   |((first | refine oT rfl rfl rfl rfl ?_ ?_ | refine oF rfl rfl rfl rfl ?_ ?_)<;>intro hc<;>first | (cases hc;done) | ((try cases hc);simp only [Act.put,sA,sS,sZ]))
   |refine oU rfl rfl rfl rfl ?_)
  refine wpO_nil ?_
  rintro w5 rfl
  go_wp2_with(fail)
  go_ret
  exact⟨ret_int (by unfold u32;omega),hg3.trans (below_row (Below.refl _ _).drew _),L2,cs2,HI3.ext (Below.refl _ _).drew⟩
 ·skip
  go_wp2_with(go_at_call 34;(with_reducible refine(HC.out _ HI2.out).mono ?_);rintro e w4 ⟨rfl,hg3,L2,cs2,HI3⟩)
  go_ret
  replace hg3:=(below_row hb2 (some g)).trans hg3
  exact⟨ret_int rfl,hg3,L2,cs2,HI3⟩
 ·skip
  go_wp2_with(go_at_call 34;(with_reducible refine(HC.out _ HI2.out).mono ?_);rintro e w4 ⟨rfl,hg3,L2,cs2,HI3⟩)
  go_ret
  replace hg3:=(below_row hb2 (some g)).trans hg3
  exact⟨ret_int rfl,hg3,L2,cs2,HI3⟩
 ·skip
  go_upto_region 14 with(go_at_call 34;(with_reducible refine(HC.out _ HI2.out).mono ?_);rintro e w4 ⟨rfl,hg3,L2,cs2,HI3⟩;have HP3:=HP2.out.grown hg3 (by simpa using hne);have zp4:=HP3.lt;have d3:w4.cell? ⟨p,3,none⟩=some (.int .u32 pc):=(HP3.cell 3).trans CP3.out;have d9:w4.cell? ⟨p,9,none⟩=some (.int .i32 im):=(HP3.cell 9).trans CP9.out;clear HP3)
  go_simp
  replace hg3:=(below_row hb2 (some g)).trans hg3
  clear c3 c5 c9
  refine wp_region_ob 3831 264 4095 [0,1,2,3,4,5,6,7,8,9,10,11] (by kernel_rfl) (by kernel_rfl) (by kernel_rfl) rfl ?_
  repeat'(first
   |refine oQ rfl rfl ?_
   |(refine' oE _ (by decide) (by decide) (fun wq K hK=>?_) ?_ ?_;rotate_left 1;(· go_wp2_with(fail);all_goals exact hK);rfl)
   |(refine' oR _ (by decide) (by decide) (by decide) (fun wq hwq K hK=>?_) ?_ ?_;rotate_left 1;(· have k3:=hwq.at_ zp4 d3;have k9:=hwq.at_ zp4 d9;go_wp2_with(fail);all_goals exact hK);rfl)
   |((first | refine oT rfl rfl rfl rfl ?_ ?_ | refine oF rfl rfl rfl rfl ?_ ?_)<;>intro hc<;>first | (cases hc;done) | ((try cases hc);simp only [Act.put,sA,sS,sZ]))
   |refine oU rfl rfl rfl rfl ?_)
  refine wpO_nil ?_
  rintro w5 rfl
  go_wp2_with(fail)
  go_ret
  exact⟨ret_int (by unfold u32;omega),hg3.trans (below_row (Below.refl _ _).drew _),L2,cs2,HI3.ext (Below.refl _ _).drew⟩
 ·go_wp2_with(fail)
  go_ret
  exact⟨ret_int rfl,below_row hb2 _,L,cs,HI2.out⟩
 ·go_wp2_with(fail)
  go_ret
  exact⟨ret_int rfl,below_row hb2 _,L,cs,HI2.out⟩
end
end Go.Proofs.Ytapgojgcmlnbgac
