/- Parts of a proof. -/
import Derived.Test.YtapgojgcmlnbgacK35
import Derived.Test.YtapgojgcmlnbgacK29
import Derived.Test.YtapgojgcmlnbgacK20
import Derived.Test.YtapgojgcmlnbgacK17
import Derived.Test.YtapgojgcmlnbgacK09
set_option linter.unusedSimpArgs false
set_option linter.unusedVariables false
set_option maxRecDepth 100000
set_option maxHeartbeats 16000000
namespace Go.Proofs.Ytapgojgcmlnbgac
open Go.RowKit
theorem fetchC_no {C:Core} (h:C.still=true∨C.names.free=[]):fetchC C=(false,C):=by
 unfold fetchC
 rw [if_pos h]
theorem fetchC_full {C:Core} (h:¬ (C.still=true∨C.names.free=[])) (hp:pushP C.slots C.window C.seq=none):fetchC C=(false,C):=by
 unfold fetchC
 rw [if_neg h,hp]
theorem fetchC_fault {C:Core} (h:¬ (C.still=true∨C.names.free=[])) {sl:List Slt} (hp:pushP C.slots C.window C.seq=some sl) {i:Ins} {c:Int} (hs:seeIns C=(i,c)) (hc:c≠0) :
  fetchC C=(false,finishP { C with slots:=sl,seq:=C.seq+1,taken:=C.taken+1,ops:=C.ops++[{ uopZ with seq:=C.seq,pc:=C.pc,cause:=c,ins:=i,commit:=trapC C.pc c }],still:=true } C.ops.length):=by
 unfold fetchC
 rw [if_neg h,hp]
 dsimp only
 rw [hs,if_pos hc]
def fetchU (C:Core) (i:Ins):Uop:={ uopZ with seq:=C.seq,pc:=C.pc,ins:=i,a:=C.names.regs.getD i.rs1.toNat 0,b:=C.names.regs.getD i.rs2.toNat 0,dest:=(takeC C i).2.1,old:=(takeC C i).2.2 }
def fetchX (C:Core) (sl:List Slt) (i:Ins):Core:=
 { C with slots:=sl,seq:=C.seq+1,taken:=C.taken+1,names:=(takeC C i).1,there:=if givesP i=true then C.there.set (takeC C i).2.1.toNat false else C.there,access:=if (loadsB i || storesB i)=true then C.access++[(⟨C.seq,storesB i,false,0,0,0,false⟩:Acc)] else C.access,ops:=C.ops++[fetchU C i] }
theorem fetchC_ok {C:Core} (h:¬ (C.still=true∨C.names.free=[])) {sl:List Slt} (hp:pushP C.slots C.window C.seq=some sl) {i:Ins} (hs:seeIns C=(i,0)) :
  fetchC C=(!aloneB i,{ fetchX C sl i with ops:=C.ops++[{ fetchU C i with next:=(followP C i C.pc).1 }],script:=(followP C i C.pc).2,pc:=(followP C i C.pc).1,still:=aloneB i }):=by
 unfold fetchC
 rw [if_neg h,hp]
 dsimp only
 rw [hs,if_neg (fun hh=>hh rfl)]
 rfl
section
variable {B:Nat} {w:World} {g p:Nat} {C:Core} {L:Lay} {ps:List Nat} {cs:Array Value}
def FePost (B:Nat) (w:World) (g:Nat) (X:Bool×Core) (e:Ending) (w':World):Prop:=e = .returned (.bool X.1)∧Turned B w w'∧∃ L' ps' cs',CoreIs B w' g X.2 L' ps' cs'
theorem uopZ_cells (sq pc:Int):Try.prog.built 70 [(0, .int .i64 sq),(3, .int .u32 pc)]=some (Uop.cells { uopZ with seq:=sq,pc:=pc }):=by kernel_rfl
theorem built_trapF (pc c:Int):Try.prog.built 65 [(0, .int .u32 pc),(1, .int .u32 pc),(2, .int .i64 2),(3, .int .i64 c)]=some (trapC pc c).cells:=by kernel_rfl
theorem fetch_no (h:CoreIs B w g C L ps cs) (hn:C.still=true∨C.names.free=[]) :
  Calls Try.prog 17 #[.pointer (some ⟨g,0,none⟩)] w (FePost B w g (fetchC C)):=by
 rw [fetchC_no hn]
 have c339:=h.cell h.cells.still
 have c141:=h.nfree
 have zg:=h.lt
 have HI:=Lib.hid h
 clear h
 rcases hs:C.still with _ | _
 ·rw [hs] at c339 hn
  have hfr:C.names.free=[]:=by rcases hn with hn | hn;cases hn;exact hn
  rw [hfr] at c141
  have e0:((([]:List Int).length:Int)==0)=true:=rfl
  clear hn hfr
  go_enter Try.func17,Try.ntmps17
  go_wp2_with(fail)
  go_ret
  exact⟨rfl,Turned.refl _ _,L,ps,cs,HI.out⟩
 ·rw [hs] at c339
  clear hn
  go_enter Try.func17,Try.ntmps17
  go_wp2_with(fail)
  go_ret
  exact⟨rfl,Turned.refl _ _,L,ps,cs,HI.out⟩
theorem fetch_full (h:CoreIs B w g C L ps cs) (hf:Fine C) (hst:C.still=false) (hfr:C.names.free≠[]) (hp:pushP C.slots C.window C.seq=none) :
  Calls Try.prog 17 #[.pointer (some ⟨g,0,none⟩)] w (FePost B w g (fetchC C)):=by
 rw [fetchC_full (fun hh=>by rcases hh with hh | hh;rw [hst] at hh;cases hh;exact hfr hh) hp]
 have c339:w.cell? ⟨g,339,none⟩=some (.bool false):=by
  have:=h.cell h.cells.still
  rw [hst] at this
  exact this
 have c141:=h.nfree
 have e0:((C.names.free.length:Int)==0)=false:=by
  have:C.names.free.length≠0:=fun e=>hfr (List.eq_nil_of_length_eq_zero e)
  simpa using this
 have c334:=h.slots
 have c0:w.cell? ⟨g,0,none⟩=some (.int .i64 C.window):=h.cell h.cells.window
 have c337:w.cell? ⟨g,337,none⟩=some (.int .i64 C.seq):=h.cell h.cells.seq
 have zg:=h.lt
 obtain⟨AS,cS,hsv,hSS,hSn,hS1,hS2⟩:=slots_own h.rows.slots
 rw [hsv] at c334
 have hsl:=hf.lens.2.1
 have CP0:=Lib.hid (fun W (hb:Below w.heap.size w W)=>push_any AS cS C.slots C.window C.seq W (by omega) ((hSS.below hb).mono hb.size) hSn)
 rw [hp] at CP0
 have HI:=Lib.hid h
 clear h hf hst hfr hp hSS hSn
 go_enter Try.func17,Try.ntmps17
 go_upto_region 3 with(fail)
 go_simp
 refine wp_region_ob 511735 4360 516095 [0,1,2,3,4,5,6,7,8,9,10,11,12,13,14,15,16,17,18] (by kernel_rfl) (by kernel_rfl) (by kernel_rfl) rfl ?_
 repeat'(first
  |refine oQ rfl rfl ?_
  |(refine' oE _ (by decide) (by decide) (fun wq K hK=>?_) ?_ ?_;rotate_left 1;(· go_wp2_with(fail);all_goals exact hK);rfl)
  |(refine' oR _ (by decide) (by decide) (by decide) (fun wq hwq K hK=>?_) ?_ ?_;rotate_left 1;(· have k334:=hwq.at_ zg c334;have k0:=hwq.at_ zg c0;have k337:=hwq.at_ zg c337;go_wp2_with(fail);all_goals exact hK);rfl)
  |((first | refine oT rfl rfl rfl rfl ?_ ?_ | refine oF rfl rfl rfl rfl ?_ ?_)<;>intro hc<;>first | (cases hc;done) | ((try cases hc);simp only [Act.put,sA,sS,sZ]))
  |refine oU rfl rfl rfl rfl ?_)
 refine wpOW_solo (by decide) (by decide) (by decide) (by kernel_rfl) (fun w1 hw1 K1 hK1=>?_)
 have hb1:Below w.heap.size w w1:=by rw [hw1];exact(Below.refl _ _).drew
 clear hw1
 go_wp2_with(go_at_call 36;(with_reducible refine(CP0.out w1 hb1).mono ?_);intro e w2 hpost;obtain⟨hb2,rfl⟩:=hpost)
 refine hK1 _ _ (fun _=>True) trivial ?_
 simp only [Act.put,sA,sS,sZ]
 clear hK1 K1
 repeat'(first
  |refine oQ rfl rfl ?_
  |(refine' oE _ (by decide) (by decide) (fun wq K hK=>?_) ?_ ?_;rotate_left 1;(· go_wp2_with(fail);all_goals exact hK);rfl)
  |((first | refine oT rfl rfl rfl rfl ?_ ?_ | refine oF rfl rfl rfl rfl ?_ ?_)<;>intro hc<;>first | (cases hc;done) | ((try cases hc);simp only [Act.put,sA,sS,sZ]))
  |refine oU rfl rfl rfl rfl ?_)
 refine wpO_nil ?_
 rintro w3 hw3
 replace hb2:=hb1.trans (hb2.mono hb1.size)
 go_wp2_with(fail)
 go_ret
 exact⟨rfl,Turned.below hb2,L,ps,cs,HI.out.ext hb2⟩
end
end Go.Proofs.Ytapgojgcmlnbgac
namespace Go.Proofs.Ytapgojgcmlnbgac
open Go Go.RowKit
theorem wp_append_at {P:Program} {w:World} {o:Oper} {a:Act} {K:Act→World→Prop} {Q:Exit→Act→World→Prop} (s x:Operand) (t:TypeId)
  (ho:o.op = .call { callee := .builtin .append,args:=#[s,x],argTypes:=#[t,t] })
  (base:Nat) (e:TypeId) (i:TypeInfo) (z:Value) (size bytes:Nat) (ht:P.underlying t=some (.slice e)) (hi:P.info? e=some i) (hz:i.zero=some z)
  (hsize:i.size=size) (hby:i.bytes=bytes) (hzs:z.cells.size=size) (hsz:0<size)
  (v:Value) (n:Nat) (xs:List Value) (hs:a.eval s=v) (hown:w.ownsRow base e size v n xs)
  (ad:Addr) (m c:Nat) (news:List Value) (hx:a.eval x = .slice (some ad) m c) (hl:news.length=m*size) (hnews:∀ j u,news[j]? = some u→w.cell? (ad.add j)=some u) (h1:∀ u∈news,u.oneCell'=true)
  (h63:n+m≤maxLen) (hbytes:(n+m)*bytes≤140737488355328) (hbase:base≤w.heap.size)
  (h:∀ v' w',w'.ownsRow base e size v' (n+m) (xs++news)→w.grownBy w' v.ownBlock→(v'.ownBlock=v.ownBlock∨∀ k,v'.ownBlock=some k→w.heap.size≤k)→K (a.put o.dst v') w'):o.wp P a w K Q:=by
 obtain⟨v',w',hr,h2,h3,h4⟩:=run_append_own (P:=P) w base t o.type e i z size bytes ht hi hz hsize hby hzs hsz v n xs hown ad m c news hl hnews h1 h63 hbytes hbase
 have h5:=append_where w base t o.type e i z size bytes ht hi hz hsize hby hzs hsz v n xs hown ad m c news hl hnews h1 h63 hbytes v' w' hr
 unfold Oper.wp execOp
 simp only [ho,resolve,invoke,builtin,Sem.run_bind,Sem.run_pure,Result.andThen_ok,List.map_toArray,List.map_cons,List.map_nil,hs,hx,hr]
 exact h v' w' h2 h3 h5
section
variable {B:Nat} {w:World} {g p:Nat} {C:Core} {L:Lay} {ps:List Nat} {cs:Array Value}
theorem UopsAt.snoc {us:List Uop} (h:UopsAt w B us ps) {u:Uop} (hB:Blk w p 70 u.cells) (hb:B≤p) (hn:p ∉ ps):UopsAt w B (us++[u]) (ps++[p]):=by
 refine⟨by simp [h.len],fun i v q hv hq=>?_,List.nodup_append.2 ⟨h.nodup,by simp,fun a ha b hb2 e=>by simp at hb2;subst hb2;subst e;exact hn ha⟩⟩
 by_cases hi:i<us.length
 ·rw [List.getElem?_append_left hi] at hv
  rw [List.getElem?_append_left (by rw [h.len];exact hi)] at hq
  exact h.at_ i v q hv hq
 ·have hi2:i=us.length:=by
   have:=(List.getElem?_eq_some_iff.1 hv).1
   simp at this
   omega
  subst hi2
  rw [List.getElem?_append_right (Nat.le_refl _),Nat.sub_self] at hv
  rw [←h.len,List.getElem?_append_right (Nat.le_refl _),Nat.sub_self] at hq
  cases hv
  cases hq
  exact⟨hB,hb⟩
theorem CoreIs.pushed (h:CoreIs B w g C L ps cs) {w':World} (hg:w.grownBy w' L.ops.ownBlock) {v':Value} {ps':List Nat} {ops':List Uop} (hrow:PtrRow w' B v' ps') (hu:UopsAt w' B ops' ps')
  (hv:v'.ownBlock=L.ops.ownBlock∨∀ k,v'.ownBlock=some k→w.heap.size≤k) (hp:∀ p∈ps',p∈ps∨(C.names.free≠[]→∀ ad,L.freeA=some ad→ad.block≠p)) {v2:Value} {sl:List Slt} (ho:w'.ownsRow B 105 2 v2 sl.length (slotsV sl)) :
  (CoreIs B ((w'.setCell ⟨g,334,none⟩ v2).setCell ⟨g,335,none⟩ v') g { C with slots:=sl,ops:=ops' } { L with slots:=v2,ops:=v' } ps' ((cs.setIfInBounds 334 v2).setIfInBounds 335 v')∧Turned B w ((w'.setCell ⟨g,334,none⟩ v2).setCell ⟨g,335,none⟩ v')) ∧
  w'.cell? ⟨g,334,none⟩=some L.slots∧w'.cell? ⟨g,335,none⟩=some L.ops∧w'.frozen? ⟨g,334,none⟩=false∧w'.frozen? ⟨g,335,none⟩=false∧g<w'.heap.size:=by
 have hb:Blk w' g 60 cs:=h.blk.grown hg (by
  rcases h.rows.ptrs.other h.blk (by decide) with e | e
  ·rw [e];simp
  ·exact fun e'=>e e'.symm)
 have hr:=(h.rows.ptr h.low hg hrow hu hv hp).slot ho
 have ht:Turned B w w':=Turned.grown hg fun k hk=>by
  obtain⟨cur,hc⟩:=ptr_blk h.rows.ptrs hk
  exact⟨(h.rows.ptrs.lt k hk).1,_,_,_,hc,rfl⟩
 have hg2:=(grownBy_setCell w' ⟨g,334,none⟩ v2).trans (grownBy_setCell (w'.setCell ⟨g,334,none⟩ v2) ⟨g,335,none⟩ v')
 have hlow:=Nat.le_trans h.low hg.size
 exact⟨⟨⟨Nat.le_trans hlow hg2.size,(hb.set 334 v2).set 335 v',(h.cells.set_slots v2 sl).set_ops v' ops',hr.core hlow hb hg2⟩,
  ht.trans (Turned.grown hg2 fun k hk=>by cases hk;exact⟨h.rows.base,_,_,_,hb,rfl⟩)⟩,(hb.cell 334).trans h.cells.slots,(hb.cell 335).trans h.cells.ops,hb.frozen 334,hb.frozen 335,hb.lt⟩
theorem ptr_form {v:Value} (h:PtrRow w B v ps):∃ A n c,v = .slice A n c:=by
 obtain⟨A,c,h,_⟩:=ptr_slice h
 exact⟨A,_,c,h⟩
theorem push_len {l:List Slt} {room seq:Int} {sl:List Slt} (h:pushP l room seq=some sl):sl.length=l.length+1:=by
 unfold pushP at h
 split at h
 ·cases h
 ·cases h
  simp
theorem CoreIs.fresh (h:CoreIs B w g C L ps cs) (hp:w.heap.size≤p):B≤p∧p ∉ ps∧(C.names.free≠[]→∀ ad,L.freeA=some ad→ad.block≠p):=
 ⟨Nat.le_trans h.low hp,fun hm=>by have:=h.rows.uops.lt hm;omega,fun hf ad e hh=>by have:=h.rows.names.free_lt hf ad e;omega⟩
theorem followP_congr {C C':Core} (h1:C'.script=C.script) (h2:C'.table=C.table) (i:Ins) (pc:Int):followP C' i pc=followP C i pc:=by
 unfold followP
 rw [h1,h2]
end
end Go.Proofs.Ytapgojgcmlnbgac
