/- Parts of a proof. -/
import Derived.Test.YtapgojgcmlnbgacK33
import Derived.Test.YtapgojgcmlnbgacK20
set_option linter.unusedSimpArgs false
set_option linter.unusedVariables false
set_option maxRecDepth 100000
set_option maxHeartbeats 16000000
namespace Go.Proofs.Ytapgojgcmlnbgac
open Go.RowKit
theorem ownBlock_slice (A:Option Addr) (n n' c:Nat):(Value.slice A n c).ownBlock=(Value.slice A n' c).ownBlock:=by cases A<;>rfl
theorem undoD_len (m:RMap) (rd p:Int):(undoD m rd p).free.length≤m.free.length+1:=by
 unfold undoD undoP
 split
 ·simp
 ·exact Nat.zero_le _
theorem undoOne_eq (ops:List Uop) (m:RMap) (s:Int) (k:Nat) (h:findU ops s=(k:Int)):undoOne ops m s=if 0<(ops.getD k uopZ).dest then undoD m (ops.getD k uopZ).ins.rd (ops.getD k uopZ).old else m:=by
 unfold undoOne undoD
 rw [h]
 rfl
theorem undoOne_len (ops:List Uop) (m:RMap) (s:Int):(undoOne ops m s).free.length≤m.free.length+1:=by
 unfold undoOne
 dsimp only
 split
 ·exact undoD_len m _ _
 ·omega
theorem undo_fold_len (ops:List Uop):∀ (l:List Int) (m:RMap),(l.foldl (undoOne ops) m).free.length≤m.free.length+l.length
 |[],m=>by simp
 |s::l,m=>by
  have h1:=undoOne_len ops m s
  have h2:=undo_fold_len ops l (undoOne ops m s)
  simp only [List.foldl_cons,List.length_cons]
  omega
theorem backP_parts {C C1 C2 C5 C7:Core} {l:List Int} {acc':List Acc} {seq pc:Int} {ps ps':List Nat} (h1:({ C with backs:=C.backs+1 }:Core)=C1) (hl:cutO C1.slots seq=l) (h2:C2=({ C1 with names:=l.foldl (undoOne C1.ops) C1.names }:Core))
  (h5:C5=({ C2 with slots:=cutL C1.slots seq }:Core)) (h7:C7=({ C5 with ops:=C5.ops.filter (fun u=>!decide (seq≤u.seq)) }:Core)) (ha:(C7.access.filter fun a=>!decide (seq≤a.seq))=acc') (hk:keepBy (fun u=>decide (seq≤u.seq)) C5.ops ps=ps') :
  backP C seq pc=({ C7 with access:=acc',pc:=pc,still:=false }:Core)∧keepBy (fun u=>decide (seq≤u.seq)) C.ops ps=ps':=by
 subst h1 hl h2 h5 h7 ha hk
 exact⟨rfl,rfl⟩
section
variable {B:Nat} {w w' w2:World} {g:Nat} {C:Core} {L:Lay} {ps:List Nat} {cs:Array Value}
theorem CoreIs.setnames (h:CoreIs B w g C L ps cs) (hb:Below w.heap.size w w') {M:RMap} {A:Option Addr} {c:Nat} (hm:MapIn w' M A c) (hf:∀ ad,A=some ad→w.heap.size≤ad.block)
  (hB:Blk w2 g 60 (splice cs 108 (mapCells M.phys M.regs A M.free.length c).toList)) (hg:w'.grownBy w2 (some g)) :
  CoreIs B w2 g { C with names:=M } { L with freeA:=A,freeCap:=c } ps (splice cs 108 (mapCells M.phys M.regs A M.free.length c).toList):=by
 obtain⟨s1,s2,s3⟩:=splice_part (off:=108) (n:=34) h.cells.size (by decide) (mapCells_size M.phys M.regs A M.free.length c hm.len)
 have h1:=h.rows.name h.lt hm hf h.low hb
 exact⟨Nat.le_trans (Nat.le_trans h.low hb.size) hg.size,hB,h.cells.part_names M A c s1 s2 s3,h1.core (Nat.le_trans h.low hb.size) (h.blk.ext hb) hg⟩
theorem CoreIs.mapV (h:CoreIs B w g C L ps cs):MapV w C.names (.agg (mapCells C.names.phys C.names.regs L.freeA C.names.free.length L.freeCap)):=⟨L.freeA,L.freeCap,rfl,h.rows.names⟩
theorem CoreIs.setops (h:CoreIs B w g C L ps cs) (hg:w.grownBy w' L.ops.ownBlock) {v':Value} {ps':List Nat} {ops':List Uop} (hrow:PtrRow w' B v' ps') (hu:UopsAt w' B ops' ps')
  (hv:v'.ownBlock=L.ops.ownBlock∨∀ k,v'.ownBlock=some k→w.heap.size≤k) (hp:∀ p∈ps',p∈ps∨(C.names.free≠[]→∀ ad,L.freeA=some ad→ad.block≠p)) :
  CoreIs B (w'.setCell ⟨g,335,none⟩ v') g { C with ops:=ops' } { L with ops:=v' } ps' (cs.setIfInBounds 335 v')∧Turned B w (w'.setCell ⟨g,335,none⟩ v')∧w'.cell? ⟨g,335,none⟩=some L.ops∧w'.frozen? ⟨g,335,none⟩=false∧g<w'.heap.size:=by
 have hb:Blk w' g 60 cs:=h.blk.grown hg (by
  rcases h.rows.ptrs.other h.blk (by decide) with e | e
  ·rw [e];simp
  ·exact fun e'=>e e'.symm)
 have hr:=h.rows.ptr h.low hg hrow hu hv hp
 have ht:Turned B w w':=Turned.grown hg fun k hk=>by
  obtain⟨cur,hc⟩:=ptr_blk h.rows.ptrs hk
  exact⟨(h.rows.ptrs.lt k hk).1,_,_,_,hc,rfl⟩
 have hg2:=grownBy_setCell w' ⟨g,335,none⟩ v'
 exact⟨⟨Nat.le_trans h.low (Nat.le_trans hg.size hg2.size),hb.set 335 v',h.cells.set_ops v' ops',hr.core (Nat.le_trans h.low hg.size) hb hg2⟩,
  ht.trans (Turned.grown hg2 fun k hk=>by cases hk;exact⟨h.rows.base,_,_,_,hb,rfl⟩),(hb.cell 335).trans h.cells.ops,hb.frozen 335,hb.lt⟩
theorem CoreIs.setaccess (h:CoreIs B w g C L ps cs) (hg:w.grownBy w' L.access.ownBlock) {v':Value} {acc':List Acc} (hown:w'.ownsRow B 82 7 v' acc'.length (accsV acc'))
  (hv:v'.ownBlock=L.access.ownBlock∨∀ k,v'.ownBlock=some k→w.heap.size≤k) :
  CoreIs B (w'.setCell ⟨g,336,none⟩ v') g { C with access:=acc' } { L with access:=v' } ps (cs.setIfInBounds 336 v')∧Turned B w (w'.setCell ⟨g,336,none⟩ v')∧w'.cell? ⟨g,336,none⟩=some L.access∧w'.frozen? ⟨g,336,none⟩=false∧g<w'.heap.size:=by
 have hb:Blk w' g 60 cs:=h.blk.grown hg (by
  rcases own_other h.rows.access h.blk (by decide) with e | e
  ·rw [e];simp
  ·exact fun e'=>e e'.symm)
 have hr:=h.rows.acc h.low hg hown hv
 have ht:Turned B w w':=Turned.grown hg fun k hk=>by
  rcases h.rows.access.2 with⟨e,_⟩ | ⟨go,c,cur,e,hl,hh,_⟩
  ·rw [e] at hk;cases hk
  ·rw [e] at hk
   cases hk
   exact⟨hl,_,_,_,hh,rfl⟩
 have hg2:=grownBy_setCell w' ⟨g,336,none⟩ v'
 exact⟨⟨Nat.le_trans h.low (Nat.le_trans hg.size hg2.size),hb.set 336 v',h.cells.set_access v' acc',hr.core (Nat.le_trans h.low hg.size) hb hg2⟩,
  ht.trans (Turned.grown hg2 fun k hk=>by cases hk;exact⟨h.rows.base,_,_,_,hb,rfl⟩),(hb.cell 336).trans h.cells.access,hb.frozen 336,hb.lt⟩
structure BackAt (B:Nat) (w wr:World) (g:Nat) (C:Core) (ps:List Nat) (gs:Nat) (seq:Int) (AO:Option Addr) (cO:Nat) (l:List Int):Prop where
 core:∃ L cs,CoreIs B wr g C L ps cs
 box:Blk wr gs 3 #[.int .i64 seq]
 turned:w.grownBy wr (some g)
 gone:wr.ownsRow w.heap.size 3 1 (.slice AO l.length cO) l.length (l.map (Value.int .i64))
theorem BackAt.step {gs:Nat} {seq:Int} {AO:Option Addr} {cO:Nat} {l:List Int} {wr wn:World} {C':Core} (h:BackAt B w wr g C ps gs seq AO cO l) (hg:wr.grownBy wn (some g)) (hC:∃ L cs,CoreIs B wn g C' L ps cs):BackAt B w wn g C' ps gs seq AO cO l:=by
 obtain⟨L,cs,h1⟩:=h.core
 exact⟨hC,h.box.grown hg (by simpa using blk_other h.box h1.blk (by decide)),h.turned.trans hg,h.gone.kept hg (own_other h.gone h1.blk (by decide))⟩
theorem back_any (h:CoreIs B w g C L ps cs) (seq pc:Int) (h1:0≤C.backs) (h2:C.backs<4611686018427387904) (hsl:C.slots.length≤1000) (hop:C.ops.length≤1000) (hac:C.access.length≤1000) (hfr:C.names.free.length≤1000)
  (hfi:∀ s∈cutO C.slots seq,∃ k:Nat,findU C.ops s=(k:Int)∧k<C.ops.length) (hus:∀ u∈C.ops,(0≤u.ins.rd∧u.ins.rd≤31)∧(0<u.dest→0≤u.old∧u.old<96)) :
  Calls Try.prog 31 #[.pointer (some ⟨g,0,none⟩), .int .i64 seq, .int .u32 pc] w fun e w'=>e = .returned (.tuple #[])∧Turned B w w'∧∃ L' cs',CoreIs B w' g (backP C seq pc) L' (keepBy (fun u=>decide (seq≤u.seq)) C.ops ps) cs':=by
 have hbx:=Blk.new w 3 #[.int .i64 seq]
 have hb0:=(Below.refl w.heap.size w).alloc (Nat.le_refl _) (.cells #[.int .i64 seq] 3)
 have h0:=h.ext hb0
 have c42:=h0.cell h0.cells.backs
 have f42:=h0.blk.frozen 42
 have zg:=h0.lt
 have HI:=Lib.hid (And.intro (h0.set 42 (.int .i64 (C.backs+1)) (h0.cells.set_backs _) h0.rows) ((below_row hb0 (some g)).trans (grownBy_setCell _ ⟨g,42,none⟩ (.int .i64 (C.backs+1)))))
 have HBX:=Lib.hid (hbx.far (by exact fun e=>blk_other hbx h0.blk (by decide) e:w.heap.size≠(⟨g,42,none⟩:Addr).block) (.int .i64 (C.backs+1)))
 have zgs:w.heap.size<(w.alloc (.cells #[.int .i64 seq] 3)).heap.size:=hbx.lt
 have HT0:=Lib.hid h
 generalize hC1:({ C with backs:=C.backs+1 }:Core)=C1 at HI
 have HC1:=Lib.hid hC1
 have HFI:=Lib.hid (show ∀ s∈cutO C1.slots seq,∃ k:Nat,findU C1.ops s=(k:Int)∧k<C1.ops.length by rw [←hC1];exact hfi)
 have HUS:=Lib.hid (show ∀ u∈C1.ops,(0≤u.ins.rd∧u.ins.rd≤31)∧(0<u.dest→0≤u.old∧u.old<96) by rw [←hC1];exact hus)
 have hsl1:C1.slots.length≤1000:=by rw [←hC1];exact hsl
 have hop1:C1.ops.length≤1000:=by rw [←hC1];exact hop
 have hac1:C1.access.length≤1000:=by rw [←hC1];exact hac
 have hfr1:C1.names.free.length≤1000:=by rw [←hC1];exact hfr
 clear hC1 hbx hb0 h0 hfi hus h hsl hop hac hfr
 go_enter Try.func31,Try.ntmps31
 go_upto_region 2 with(fail)
 go_simp
 clear c42 f42 zg zgs h1 h2
 generalize (w.alloc (.cells #[.int .i64 seq] 3)).setCell ⟨g,42,none⟩ (.int .i64 (C.backs+1))=w1 at *
 obtain⟨h1c,hg1⟩:=HI.out
 have zg1:=h1c.lt
 have c334:=h1c.slots
 obtain⟨A,cp,hsv,hS,hnl,hc1,hc2⟩:=slots_own h1c.rows.slots
 rw [hsv] at c334
 have cgs:=HBX.out.cell 0
 have zgs1:=HBX.out.lt
 have HS:=Lib.hid (And.intro hS hnl)
 have hsz01:=hg1.size
 clear hS hnl h1c hsv hg1 hc2
 refine wp_region_ob 1991 24 2015 [0,1,2,3,4,5,6,7,8,9,10] (by kernel_rfl) (by kernel_rfl) (by kernel_rfl) rfl ?_
 repeat'(first
  |refine oQ rfl rfl ?_
  |(refine' oE _ (by decide) (by decide) (fun wq K hK=>?_) ?_ ?_;rotate_left 1;(· go_wp2_with(fail);all_goals exact hK);rfl)
  |(refine' oR _ (by decide) (by decide) (by decide) (fun wq hwq K hK=>?_) ?_ ?_;rotate_left 1;(· have k334:=hwq.at_ zg1 c334;have kgs:=hwq.at_ zgs1 cgs;go_wp2_with(fail);all_goals exact hK);rfl)
  |((first | refine oT rfl rfl rfl rfl ?_ ?_ | refine oF rfl rfl rfl rfl ?_ ?_)<;>intro hc<;>first | (cases hc;done) | ((try cases hc);simp only [Act.put,sA,sS,sZ]))
  |refine oU rfl rfl rfl rfl ?_)
 refine wpOW_solo (by decide) (by decide) (by decide) (by kernel_rfl) (fun w2 hw2 K1 hK1=>?_)
 have hb2:Below w1.heap.size w1 w2:=by rw [hw2];exact(Below.refl _ _).drew
 have CD:=Lib.hid (cut_any A cp C1.slots seq w2 (by omega) ((HS.out.1.below hb2).mono hb2.size))
 clear hw2
 go_wp2_with(go_at_call 57;(with_reducible refine CD.out.mono ?_);intro e w3 hD;obtain⟨hb3,v3,u3,rfl,hq3,ho3⟩:=hD;obtain⟨AO,cO,rfl⟩:=own_value ho3)
 refine hK1 _ _ (fun _=>True) trivial ?_
 simp only [Act.put,sA,sS,sZ]
 clear hK1 K1 CD hq3
 have hb13:=hb2.trans (hb3.mono hb2.size)
 have ho3':=own_lower ho3 (base':=w.heap.size) (Nat.le_trans hsz01 hb2.size)
 have HBA:Hid (BackAt B w w3 g C1 ps w.heap.size seq AO cO (cutO C1.slots seq)):=Lib.hid ⟨⟨_,_,HI.out.1.ext hb13⟩,HBX.out.ext hb13,HI.out.2.trans (below_row hb13 _),ho3'⟩
 have hcl:(cutO C1.slots seq).length≤1000:=by have:=cut_length C1.slots seq;omega
 clear hb2 hb3 ho3 ho3' hb13 HI HBX HS cgs zgs1 c334 zg1
 repeat'(first
  |refine oQ rfl rfl ?_
  |(refine' oE _ (by decide) (by decide) (fun wq K hK=>?_) ?_ ?_;rotate_left 1;(· go_wp2_with(fail);all_goals exact hK);rfl)
  |((first | refine oT rfl rfl rfl rfl ?_ ?_ | refine oF rfl rfl rfl rfl ?_ ?_)<;>intro hc<;>first | (cases hc;done) | ((try cases hc);simp only [Act.put,sA,sS,sZ]))
  |refine oU rfl rfl rfl rfl ?_)
 refine wpO_nil ?_
 rintro w4 hw4
 have HBA:Hid (BackAt B w w4 g C1 ps w.heap.size seq AO cO (cutO C1.slots seq)):=by first | (rw [hw4];exact HBA) | (rw [←hw4];exact HBA)
 clear hw4
 generalize hcO:cutO C1.slots seq=l at *
 obtain⟨N,hN⟩:∃ N,N=l.length:=⟨_,rfl⟩
 have HN:=Lib.hid hN
 rw [←hN] at hcl
 simp only [←hN]
 have HCO:=Lib.hid hcO
 clear hN hcO
 have HB1:Hid (BackAt B w w4 g { C1 with names:=(l.take 0).foldl (undoOne C1.ops) C1.names } ps w.heap.size seq AO cO l):=HBA
 clear HBA
 go_upto_region 4 with(fail)
 go_simp
 go_loopw [31] (fun v wr=>∃ k:Nat,v = .int .i64 k∧k≤N∧Hid (BackAt B w wr g { C1 with names:=(l.take k).foldl (undoOne C1.ops) C1.names } ps w.heap.size seq AO cO l)) (fun v _=>N+1 - (intOf v).toNat)
 case atStart=>exact⟨0,rfl,Nat.zero_le _,HB1⟩
 case round=>
  clear HB1
  obtain⟨k,rfl,hk,HB⟩:=hrel
  by_cases hlt:k<N
  ·have hk':k<l.length:=by rw [←HN.out];exact hlt
   have hgl:=HB.out.gone
   obtain⟨bO,oO,rfl,hbO,hcO⟩:=(IntsAt.own (k := .i64) hgl).at_ hk'
   have ck:=hcO k hk'
   have hgd:l.getD k 0=l[k]'hk':=by simp [List.getD,List.getElem?_eq_getElem hk']
   obtain⟨i,hfi,hil⟩:=HFI.out _ (List.getElem_mem hk')
   have hMl:=undo_fold_len C1.ops (l.take k) C1.names
   rw [List.length_take] at hMl
   have hM2:((l.take k).foldl (undoOne C1.ops) C1.names).free.length<17592186044000:=by omega
   have hMn:(l.take (k+1)).foldl (undoOne C1.ops) C1.names=undoOne C1.ops ((l.take k).foldl (undoOne C1.ops) C1.names) (l[k]'hk'):=by rw [List.take_succ_eq_append_getElem hk',List.foldl_append];rfl
   rw [undoOne_eq _ _ _ _ hfi] at hMn
   rw [hgd] at ck
   generalize l[k]'hk'=sq at *
   generalize (l.take k).foldl (undoOne C1.ops) C1.names=M at *
   obtain⟨L2,cs2,h2⟩:=HB.out.core
   have zg:=h2.lt
   have hl2:C1.ops.length=ps.length:=h2.rows.uops.len.symm
   have c335:=h2.ops
   have hpr:=h2.rows.ptrs
   obtain⟨A2,c2,hv2,hcc,_,_⟩:=ptr_slice hpr
   rw [hv2] at c335 hpr
   have hips:i<ps.length:=by rw [←hl2];exact hil
   obtain⟨bP,oP,rfl,zP,cP⟩:=ptr_cell hpr hips
   have hp:ps[i]? = some ps[i]:=List.getElem?_eq_getElem hips
   generalize ps[i]'hips=p at *
   have hu:Blk wr p 70 (C1.ops.getD i uopZ).cells:=(h2.uop_at hp).1
   have hum:C1.ops.getD i uopZ∈C1.ops:=by rw [List.getD,List.getElem?_eq_getElem hil];exact List.getElem_mem hil
   obtain⟨⟨hr0,hr1⟩,hoo⟩:=HUS.out _ hum
   generalize C1.ops.getD i uopZ=u at *
   have c13:wr.cell? ⟨p,13,none⟩=some (.int .i64 u.dest):=hu.cell 13
   have c6:wr.cell? ⟨p,6,none⟩=some (.int .i64 u.ins.rd):=hu.cell 6
   have c14:wr.cell? ⟨p,14,none⟩=some (.int .i64 u.old):=hu.cell 14
   have zp:=hu.lt
   have CF:∀ W,Below wr.heap.size wr W→Calls Try.prog 58 #[.pointer (some ⟨g,0,none⟩), .int .i64 sq] W fun e w'=>e = .returned (.int .i64 (i:Int))∧Below W.heap.size W w':=fun W hb=>by rw [←hfi];exact find_any (h2.ext hb) sq hop1
   have HCF:=Lib.hid CF
   have H2:=Lib.hid h2
   have HM:=Lib.hid hMn
   have HN2:(l.length:Int)=N:=by rw [HN.out]
   have HOO:=Lib.hid hoo
   clear hoo
   have hN3:N≤cO∨True:=Or.inr trivial
   clear CF h2 hMn hu hum hv2 hpr hcO hfi hgd hMl hp hgl
   go_upto_region 6 with(fail)
   go_simp
   clear ck hbO
   refine wp_region_ob 695 264 959 [0,1,2,3,4,5,6,7,8,9] (by kernel_rfl) (by kernel_rfl) (by kernel_rfl) rfl ?_
   repeat'(first
    |refine oQ rfl rfl ?_
    |(refine' oE _ (by decide) (by decide) (fun wq K hK=>?_) ?_ ?_;rotate_left 1;(· go_wp2_with(fail);all_goals exact hK);rfl)
    |(refine' oR _ (by decide) (by decide) (by decide) (fun wq hwq K hK=>?_) ?_ ?_;rotate_left 1;(· have k335:=hwq.at_ zg c335;go_wp2_with(fail);all_goals exact hK);rfl)
    |((first | refine oT rfl rfl rfl rfl ?_ ?_ | refine oF rfl rfl rfl rfl ?_ ?_)<;>intro hc<;>first | (cases hc;done) | ((try cases hc);simp only [Act.put,sA,sS,sZ]))
    |refine oU rfl rfl rfl rfl ?_)
   refine wpOW_beside (by decide) (by decide) (by decide) (by kernel_rfl) (fun w5 hw5 K1 hK1=>?_)
   have hb5:Below wr.heap.size wr w5:=by rw [hw5];exact(Below.refl _ _).drew
   clear hw5
   go_wp2_with(go_at_call 58;(with_reducible refine(HCF.out _ hb5).mono ?_);rintro e w6 ⟨rfl,hb6⟩)
   replace hb6:=hb5.trans (hb6.mono hb5.size)
   refine hK1 _ _ hb6 ?_
   simp only [Act.put,sA,sS,sZ]
   clear hK1 K1 HCF hb5
   repeat'(first
    |refine oQ rfl rfl ?_
    |(refine' oE _ (by decide) (by decide) (fun wq K hK=>?_) ?_ ?_;rotate_left 1;(· go_wp2_with(fail);all_goals exact hK);rfl)
    |(refine' oR _ (by decide) (by decide) (by decide) (fun wq hwq K hK=>?_) ?_ ?_;rotate_left 1;(· have kP:=hwq.at_ zP cP;go_wp2_with(fail);all_goals exact hK);rfl)
    |((first | refine oT rfl rfl rfl rfl ?_ ?_ | refine oF rfl rfl rfl rfl ?_ ?_)<;>intro hc<;>first | (cases hc;done) | ((try cases hc);simp only [Act.put,sA,sS,sZ]))
    |refine oU rfl rfl rfl rfl ?_)
   refine wpO_nil ?_
   rintro w7 hw7
   rw [←hw7] at hb6
   clear hw7
   replace c13:=(hb6.cell (p:=⟨p,13,none⟩) zp).trans c13
   replace c6:=(hb6.cell (p:=⟨p,6,none⟩) zp).trans c6
   replace c14:=(hb6.cell (p:=⟨p,14,none⟩) zp).trans c14
   replace zp:=Nat.lt_of_lt_of_le zp hb6.size
   replace H2:=Lib.hid (H2.out.ext hb6)
   replace HB:=Lib.hid (HB.out.step (below_row hb6 (some g)) ⟨_,_,H2.out⟩)
   clear hb6 c335 cP zP zg
   by_cases hd:0<u.dest
   ·rw [if_pos hd] at HM
    obtain⟨ho0,ho1⟩:=HOO.out hd
    have hT:=H2.out.cells.namesX H2.out.rows.names.len
    have HX:=Lib.hid hT
    have hsz2:=H2.out.cells.size
    have hs:=map_info (phys:=M.phys) (A:=L2.freeA) (n:=M.free.length) (cap:=L2.freeCap) H2.out.rows.names.len
    have CU:∀ W,Below w7.heap.size w7 W→Calls Try.prog 59 #[.agg (mapCells M.phys M.regs L2.freeA M.free.length L2.freeCap), .int .i64 u.ins.rd, .int .i64 u.old] W fun e w'=>∃ v',e = .returned (.tuple #[v', .bool (undoP M u.ins.rd u.old).isSome])∧Below W.heap.size W w'∧MapF w' W.heap.size (undoD M u.ins.rd u.old) v':=fun W hb=>undo_any (H2.out.mapV.ext hb) u.ins.rd u.old (by omega) (by omega) (by omega) (by omega) hM2
    have HCU:=Lib.hid CU
    have zg:=H2.out.lt
    clear hT CU
    generalize mapCells M.phys M.regs L2.freeA M.free.length L2.freeCap=T at *
    go_upto_region 8 with(fail)
    go_simp
    refine wp_region_ob 1023471 8720 1032191 [0,1,2,3,4,5,6,7,8,9,10,11,12,13,14,15,16,17,18,19,20] (by kernel_rfl) (by kernel_rfl) (by kernel_rfl) rfl ?_
    repeat'(first
     |refine oQ rfl rfl ?_
     |(refine' oE _ (by decide) (by decide) (fun wq K hK=>?_) ?_ ?_;rotate_left 1;(· go_wp2_with(fail);all_goals exact hK);rfl)
     |(refine' oR _ (by decide) (by decide) (by decide) (fun wq hwq K hK=>?_) ?_ ?_;rotate_left 1;(· have k6:=hwq.at_ zp c6;have k14:=hwq.at_ zp c14;first | ((refine wp_load_blk 53 _ rfl g 108 rfl 60 cs2 34 _ (H2.out.blk.ext hwq) Try.underlying53 rfl cnames_info (by omega) ?_;rw [HX.out];exact hK)) | (go_wp2_with(fail);all_goals exact hK));rfl)
     |((first | refine oT rfl rfl rfl rfl ?_ ?_ | refine oF rfl rfl rfl rfl ?_ ?_)<;>intro hc<;>first | (cases hc;done) | ((try cases hc);simp only [Act.put,sA,sS,sZ]))
     |refine oU rfl rfl rfl rfl ?_)
    refine wpOW_solo (by decide) (by decide) (by decide) (by kernel_rfl) (fun w8 hw8 K1 hK1=>?_)
    have hb8:Below w7.heap.size w7 w8:=by rw [hw8];exact(Below.refl _ _).drew
    clear hw8
    generalize undoD M u.ins.rd u.old=Mn at *
    generalize (undoP M u.ins.rd u.old).isSome=bn at *
    go_wp2_with(go_at_call 59;(with_reducible refine(HCU.out _ hb8).mono ?_);rintro e w9 ⟨v9,rfl,hb9,A9,c9,rfl,hm9,hf9⟩)
    refine hK1 _ _ (fun _=>True) trivial ?_
    simp only [Act.put,sA,sS,sZ]
    clear hK1 K1 HCU
    have hb79:=hb8.trans (hb9.mono hb8.size)
    have i9:=map_info (phys:=Mn.phys) (A:=A9) (n:=Mn.free.length) (cap:=c9) hm9.len
    have o9:=map_one Mn.phys Mn.regs A9 Mn.free.length c9
    have z9:=mapCells_size Mn.phys Mn.regs A9 Mn.free.length c9 hm9.len
    have HN9:=Lib.hid (fun(wz:World) (hB:Blk wz g 60 (splice cs2 108 (mapCells Mn.phys Mn.regs A9 Mn.free.length c9).toList)) (hg:w9.grownBy wz (some g))=>HB.out.step ((below_row hb79 (some g)).trans hg) ⟨_,_,H2.out.setnames hb79 hm9 (fun ad e=>Nat.le_trans hb8.size (hf9 ad e)) hB hg⟩)
    generalize mapCells Mn.phys Mn.regs A9 Mn.free.length c9=T9 at *
    clear hm9 hf9
    repeat'(first
     |refine oQ rfl rfl ?_
     |(refine' oE _ (by decide) (by decide) (fun wq K hK=>?_) ?_ ?_;rotate_left 1;(· go_wp2_with(fail);all_goals exact hK);rfl)
     |((first | refine oT rfl rfl rfl rfl ?_ ?_ | refine oF rfl rfl rfl rfl ?_ ?_)<;>intro hc<;>first | (cases hc;done) | ((try cases hc);simp only [Act.put,sA,sS,sZ]))
     |refine oU rfl rfl rfl rfl ?_)
    refine wpOW_solo (by decide) (by decide) (by decide) (by kernel_rfl) (fun w10 hw10 K1 hK1=>?_)
    have hB9:=H2.out.blk.ext hb79
    rw [←hw10] at hB9 HN9
    clear hw10
    refine wp_store_blk 53 _ _ rfl g 108 T9 rfl rfl 60 cs2 hB9 i9 (by rw [z9,hsz2];decide) o9 ?_
    intro w11 hB11 hg11
    refine hK1 undef _ (fun _=>True) trivial ?_
    simp only [Act.put,sA,sS,sZ]
    clear hK1 K1
    refine wpO_nil ?_
    rintro w12 hw12
    rw [←hw12] at hB11 hg11
    clear hw12
    have HBn:=Lib.hid (HN9.out w12 hB11 hg11)
    clear HN9 hB9 hB11 hg11 hb79 hb8 hb9 H2 HB
    go_wp2_with(fail)
    go_roundw
    case rel=>
     refine⟨k+1,by go_num,by omega,?_⟩
     rw [HM.out]
     exact HBn
    case measure=>simp [intOf];omega
   ·rw [if_neg hd] at HM
    go_wp2_with(fail)
    go_roundw
    case rel=>
     refine⟨k+1,by go_num,by omega,?_⟩
     rw [HM.out]
     exact HB
    case measure=>simp [intOf];omega
  ·obtain rfl:k=N:=by omega
   have e1:decide ((k:Int)<k)=false:=by simp
   have hkl:l.take k=l:=by rw [HN.out];exact List.take_length
   rw [hkl] at HB
   clear hkl
   obtain⟨C2,hC2⟩:∃ C2,C2=({ C1 with names:=l.foldl (undoOne C1.ops) C1.names }:Core):=⟨_,rfl⟩
   rw [←hC2] at HB
   have HC2:=Lib.hid hC2
   have es2:C2.slots=C1.slots:=by rw [hC2]
   have eo2:C2.ops=C1.ops:=by rw [hC2]
   have ea2:C2.access=C1.access:=by rw [hC2]
   clear hC2
   obtain⟨L2,cs2,h2⟩:=HB.out.core
   have zg:=h2.lt
   have c334:=h2.slots
   obtain⟨A2,c2,hsv,hS,hnl,hc1',hc2'⟩:=slots_own h2.rows.slots
   rw [hsv] at c334
   rw [es2] at c334 hS hnl
   have cgs:=HB.out.box.cell 0
   have zgs:=HB.out.box.lt
   have HS:=Lib.hid (And.intro hS hnl)
   have H2:=Lib.hid h2
   have HBX:=Lib.hid HB.out.box
   have HG2:=Lib.hid HB.out.turned
   clear hS hnl h2 hsv hc1' hc2' HB
   go_upto_region 10 with(fail)
   go_simp
   refine wp_region_ob 3983 48 4031 [0,1,2,3,4,5,6,7,8,9,10,11,12] (by kernel_rfl) (by kernel_rfl) (by kernel_rfl) rfl ?_
   repeat'(first
    |refine oQ rfl rfl ?_
    |(refine' oE _ (by decide) (by decide) (fun wq K hK=>?_) ?_ ?_;rotate_left 1;(· go_wp2_with(fail);all_goals exact hK);rfl)
    |(refine' oR _ (by decide) (by decide) (by decide) (fun wq hwq K hK=>?_) ?_ ?_;rotate_left 1;(· have k334:=hwq.at_ zg c334;have kgs:=hwq.at_ zgs cgs;go_wp2_with(fail);all_goals exact hK);rfl)
    |((first | refine oT rfl rfl rfl rfl ?_ ?_ | refine oF rfl rfl rfl rfl ?_ ?_)<;>intro hc<;>first | (cases hc;done) | ((try cases hc);simp only [Act.put,sA,sS,sZ]))
    |refine oU rfl rfl rfl rfl ?_)
   refine wpOW_solo (by decide) (by decide) (by decide) (by kernel_rfl) (fun w2 hw2 K1 hK1=>?_)
   have hb2:Below wr.heap.size wr w2:=by rw [hw2];exact(Below.refl _ _).drew
   have CD:=Lib.hid (cut_any A2 c2 C1.slots seq w2 (by omega) ((HS.out.1.below hb2).mono hb2.size))
   clear hw2
   go_wp2_with(go_at_call 57;(with_reducible refine CD.out.mono ?_);intro e w3 hD;obtain⟨hb3,v3,u3,rfl,ho3,hq3⟩:=hD;obtain⟨A3,c3,rfl⟩:=own_value ho3)
   refine hK1 _ _ (fun _=>True) trivial ?_
   simp only [Act.put,sA,sS,sZ]
   clear hK1 K1 CD hq3
   have hb13:=hb2.trans (hb3.mono hb2.size)
   have h3:=H2.out.ext hb13
   have ho3':=own_lower ho3 (base':=B) (Nat.le_trans H2.out.low hb2.size)
   have k3:=h3.slots
   have f3:=h3.blk.frozen 334
   have z3:=h3.lt
   have hbx3:=HBX.out.ext hb13
   have hnx:=blk_other hbx3 h3.blk (by decide)
   have HJ:=Lib.hid (And.intro (h3.setslots ho3').1 (And.intro (((HT0.out.turned HG2.out).trans (Turned.below hb13)).trans (h3.setslots ho3').2) (hbx3.farAt (off:=334) hnx (.slice A3 (cutL C1.slots seq).length c3))))
   clear h3 ho3 ho3' hb13 hb2 hb3 HS H2 HBX HG2 hbx3 hnx cgs zgs c334 zg
   repeat'(first
    |refine oQ rfl rfl ?_
    |(refine' oE _ (by decide) (by decide) (fun wq K hK=>?_) ?_ ?_;rotate_left 1;(· go_wp2_with(fail);all_goals exact hK);rfl)
    |((first | refine oT rfl rfl rfl rfl ?_ ?_ | refine oF rfl rfl rfl rfl ?_ ?_)<;>intro hc<;>first | (cases hc;done) | ((try cases hc);simp only [Act.put,sA,sS,sZ]))
    |refine oU rfl rfl rfl rfl ?_)
   refine wpOW_solo (by decide) (by decide) (by decide) (by kernel_rfl) (fun w4 hw4 K1 hK1=>?_)
   subst hw4
   go_wp2_with(fail)
   refine hK1 undef _ (fun _=>True) trivial ?_
   simp only [Act.put,sA,sS,sZ]
   clear hK1 K1 k3 f3 z3
   refine wpO_nil ?_
   rintro w5 hw5
   rw [←hw5] at HJ
   clear hw5
   obtain⟨h5,ht5,hbx5⟩:=HJ.out
   generalize (cs2.setIfInBounds 334 (.slice A3 (cutL C1.slots seq).length c3))=cs5 at *
   generalize hL5:({ L2 with slots := .slice A3 (cutL C1.slots seq).length c3 }:Lay)=L5 at *
   obtain⟨C5,hC5⟩:∃ C5,C5=({ C2 with slots:=cutL C1.slots seq }:Core):=⟨_,rfl⟩
   rw [←hC5] at h5
   have HC5:=Lib.hid hC5
   have eo5:C5.ops=C1.ops:=by rw [hC5];exact eo2
   have ea5:C5.access=C1.access:=by rw [hC5];exact ea2
   clear hC5 hL5 HJ
   have c335:=h5.ops
   have zg5:=h5.lt
   obtain⟨A5,n5,hv5,hcc5,_,_⟩:=ptr_slice h5.rows.ptrs
   have CDU:=Lib.hid (deleteU_any A5 n5 B C5.ops ps seq w.heap.size w5 (by rw [h5.rows.uops.len,eo5];omega) (by rw [←hv5];exact h5.rows.ptrs) h5.rows.uops hbx5)
   have HSO:=Lib.hid (fun(wz:World) (hg:w5.grownBy wz (Value.slice A5 ps.length n5).ownBlock) (hr:PtrRow wz B (.slice A5 (keepBy (fun u=>decide (seq≤u.seq)) C5.ops ps).length n5) (keepBy (fun u=>decide (seq≤u.seq)) C5.ops ps))=>
    have hg':w5.grownBy wz L5.ops.ownBlock:=by rw [hv5];exact hg
    And.intro (h5.setops hg' hr ((h5.rows.uops.kept hg' (fun p hp e=>by
     obtain⟨u,hu,_⟩:=h5.rows.uops.mem hp
     obtain⟨cur,hk⟩:=ptr_blk h5.rows.ptrs e.symm
     exact blk_other hu hk (by decide) rfl)).keep _) (Or.inl (by rw [hv5];exact ownBlock_slice _ _ _ _)) (fun p hp=>Or.inl (keepBy_mem _ _ _ _ hp)))
     (And.intro (hbx5.grown hg' (by
      rcases h5.rows.ptrs.other hbx5 (by decide) with e | e
      ·rw [e];simp
      ·exact fun e'=>e e'.symm)) (fun e=>blk_other hbx5 h5.blk (by decide) e)))
   rw [hv5] at c335
   have HT5:=Lib.hid ht5
   clear h5 hbx5 hv5 ht5
   generalize hKB:keepBy (fun u=>decide (seq≤u.seq)) C5.ops ps=ps' at *
   go_upto_region 12 with(go_at_call 60;(with_reducible refine CDU.out.mono ?_);rintro e w6 ⟨rfl,hg6,hr6⟩;obtain⟨⟨h6,ht6,k6,f6,z6⟩,hbx6,hne6⟩:=HSO.out w6 hg6 hr6;have HJ6:=Lib.hid (And.intro h6 (And.intro (HT5.out.trans ht6) (hbx6.farAt (off:=335) hne6 (.slice A5 ps'.length n5))));clear h6 ht6 hbx6 hg6 hr6)
   go_simp
   have HKB:=Lib.hid hKB
   clear hKB CDU HSO k6 f6 z6 c335 zg5
   generalize w6.setCell ⟨g,335,none⟩ (.slice A5 ps'.length n5)=w7 at *
   generalize (cs5.setIfInBounds 335 (.slice A5 ps'.length n5))=cs7 at *
   generalize ({ L5 with ops := .slice A5 ps'.length n5 }:Lay)=L7 at *
   obtain⟨h7,ht7,hbx7⟩:=HJ6.out
   obtain⟨C7,hC7⟩:∃ C7,C7=({ C5 with ops:=C5.ops.filter (fun u=>!decide (seq≤u.seq)) }:Core):=⟨_,rfl⟩
   rw [←hC7] at h7
   have HC7:=Lib.hid hC7
   have ea7:C7.access=C1.access:=by rw [hC7];exact ea5
   clear hC7 HJ6
   have c336:=h7.access
   have zg7:=h7.lt
   have hac7:=h7.rows.access
   obtain⟨A7,n7,hv7⟩:=own_value hac7
   have CDA:=Lib.hid (back2_del A7 n7 B C7.access seq w.heap.size w7 (by rw [ea7];omega) (by rw [←hv7];exact hac7) hbx7)
   have HSA:=Lib.hid (fun(wz:World) (hg:w7.grownBy wz (Value.slice A7 C7.access.length n7).ownBlock) (hr:wz.ownsRow B 82 7 (.slice A7 (C7.access.filter fun a=>!decide (seq≤a.seq)).length n7) (C7.access.filter fun a=>!decide (seq≤a.seq)).length (accsV (C7.access.filter fun a=>!decide (seq≤a.seq))))=>
    h7.setaccess (by rw [hv7];exact hg) hr (Or.inl (by rw [hv7];exact ownBlock_slice _ _ _ _)))
   rw [hv7] at c336
   have HT7:=Lib.hid ht7
   clear h7 hbx7 hv7 ht7 hac7
   have EO5:=Lib.hid eo5
   clear ea7 ea5 ea2 eo5 eo2 es2
   generalize hFA:(C7.access.filter fun a=>!decide (seq≤a.seq))=acc' at *
   go_upto_region 13 with(go_at_call 22;(with_reducible refine CDA.out.mono ?_);rintro e w8 ⟨rfl,hg8,hr8⟩;obtain⟨h8,ht8,k8,f8,z8⟩:=HSA.out w8 hg8 hr8;have HJ8:=Lib.hid (And.intro h8 (HT7.out.trans ht8));clear h8 ht8 hg8 hr8)
   go_simp
   have HFA:=Lib.hid hFA
   clear hFA CDA HSA c336 zg7
   (try clear k8);(try clear f8);(try clear z8)
   generalize w8.setCell ⟨g,336,none⟩ (.slice A7 acc'.length n7)=w9 at *
   generalize (cs7.setIfInBounds 336 (.slice A7 acc'.length n7))=cs9 at *
   generalize ({ L7 with access := .slice A7 acc'.length n7 }:Lay)=L9 at *
   obtain⟨h9,ht9⟩:=HJ8.out
   have k338:=h9.cell h9.cells.pc
   have k339:=h9.cell h9.cells.still
   have f338:=h9.blk.frozen 338
   have f339:=h9.blk.frozen 339
   have z9:=h9.lt
   have h10:=h9.set 338 (.int .u32 pc) (h9.cells.set_pc pc) h9.rows
   have h11:=h10.set 339 (.bool false) (h10.cells.set_still false) h10.rows
   have HJ:=Lib.hid (And.intro h11 ((ht9.trans (h9.turned (grownBy_setCell w9 ⟨g,338,none⟩ (.int .u32 pc)))).trans (h10.turned (grownBy_setCell _ ⟨g,339,none⟩ (.bool false)))))
   clear h9 h10 h11 ht9 HJ8
   go_wp2_with(fail)
   refine bodyPost_end (results_none rfl _ _ _) rfl ?_
   obtain⟨e1,e2⟩:=backP_parts (pc:=pc) HC1.out HCO.out HC2.out HC5.out HC7.out HFA.out HKB.out
   refine⟨rfl,HJ.out.2,?_⟩
   rw [e1,e2]
   exact⟨_,_,HJ.out.1⟩
end
end Go.Proofs.Ytapgojgcmlnbgac
