/- Parts of a proof. -/
import Derived.Test.YtapgojgcmlnbgacK24
set_option linter.unusedSimpArgs false
set_option linter.unusedVariables false
set_option maxRecDepth 100000
set_option maxHeartbeats 16000000
namespace Go.Proofs.Ytapgojgcmlnbgac
open Go
theorem TabOk.cnt_of {cs:Array Value} (h:TabOk cs) (pc:Int):(cntOf cs pc).Wf∧CntAt cs (cntK pc) (cntOf cs pc):=by
 obtain⟨c,hw,hc⟩:=h.cnt (cntK pc) (cntK_lt pc)
 have:cntOf cs pc=c:=by
  unfold cntOf intAt
  rw [hc.c0,hc.c1]
 rw [this]
 exact⟨hw,hc⟩
theorem TabOk.vl_of {cs:Array Value} (h:TabOk cs) (pc:Int):(vlOf cs pc).Wf∧VlAt cs (vlK pc) (vlOf cs pc):=by
 obtain⟨v,hw,hv⟩:=h.vl (vlK pc) (vlK_lt pc)
 have:vlOf cs pc=v:=by
  unfold vlOf intAt
  rw [hv.c0,hv.c1,hv.c2,hv.c3]
 rw [this]
 exact⟨hw,hv⟩
theorem byteP_nil (m:List Int) (seq p:Int):byteP [] m seq p=m.getD p.toNat 0:=rfl
theorem bytes_word {b0 b1 b2 b3:Int} (h0:0≤b0∧b0≤255) (h1:0≤b1∧b1≤255) (h2:0≤b2∧b2≤255) (h3:0≤b3∧b3≤255):bytesOf (b0+256*b1+65536*b2+16777216*b3)=[b0,b1,b2,b3]:=by
 unfold bytesOf
 simp only [List.cons.injEq,and_true]
 omega
theorem see_load {m:List Int} (hm:Bytes m) (seq:Int) {op p:Int} (ho:11≤op∧op≤15) (hp:0≤p) :
  seeOk m p (sizeI op)=(loadP m op p).2∧((loadP m op p).2=true→(loadP (bytesOf (seeP [] m seq p (sizeI op)).1) op 0).1=(loadP m op p).1):=by
 have hs:=(loadBytes_size ho).2
 have e1:seeOk m p (sizeI op)=thereB m.length p (sizeI op):=by
  unfold seeOk
  have:(decide (sizeI op=1) || decide (sizeI op=2) || decide (sizeI op=4))=true:=by simp;omega
  rw [this,Bool.true_and]
 have e2:(loadP m op p).2=thereB m.length p (sizeI op):=by
  unfold loadP
  rw [decide_eq_true ho.1,decide_eq_true ho.2]
  simp only [Bool.true_and]
  split
  ·rename_i h;exact h.symm
  ·rename_i h;simp at h;exact h.symm
 refine⟨e1.trans e2.symm,fun hl=>?_⟩
 rw [e2] at hl
 have b0:=hm.getD p.toNat
 have b1:=hm.getD (p.toNat+1)
 have b2:=hm.getD (p.toNat+2)
 have b3:=hm.getD (p.toNat+3)
 have t1:(p+1).toNat=p.toNat+1:=by omega
 have t2:(p+2).toNat=p.toNat+2:=by omega
 have t3:(p+3).toNat=p.toNat+3:=by omega
 have hw:(seeP [] m seq p (sizeI op)).1=seeW [] m seq p (sizeI op):=by
  unfold seeP
  rw [e1,hl]
  rfl
 have hr:(loadP m op p).1=loadW m op p.toNat:=by
  unfold loadP
  rw [decide_eq_true ho.1,decide_eq_true ho.2]
  simp only [Bool.true_and]
  rw [hl]
  rfl
 have hq:∀ w,(loadP (bytesOf w) op 0).1=loadW (bytesOf w) op 0:=fun w=>by
  have:=load_four ho w
  unfold loadP at this ⊢
  split at this
  ·rename_i h
   rw [if_pos h]
   rfl
  ·cases this
 rw [hw,hr,hq]
 have z0:=bytes_word b0 (b1:=0) (b2:=0) (b3:=0) (by omega) (by omega) (by omega)
 have z1:=bytes_word b0 b1 (b2:=0) (b3:=0) (by omega) (by omega)
 have z3:=bytes_word b0 b1 b2 b3
 unfold seeW loadW
 simp only [byteP_nil,t1,t2,t3]
 generalize m.getD p.toNat 0=x0 at *
 generalize m.getD (p.toNat+1) 0=x1 at *
 generalize m.getD (p.toNat+2) 0=x2 at *
 generalize m.getD (p.toNat+3) 0=x3 at *
 obtain rfl | rfl | rfl | rfl | rfl:op=11∨op=12∨op=13∨op=14∨op=15:=by omega
 ·rw [if_pos (show sizeI 11=1 from rfl)]
  simp only [Int.mul_zero,Int.add_zero] at z0
  rw [z0]
  rfl
 ·rw [if_neg (show ¬ sizeI 12=1 by decide),if_pos (show sizeI 12=2 from rfl)]
  simp only [Int.mul_zero,Int.add_zero] at z1
  rw [z1]
  rfl
 ·rw [if_neg (show ¬ sizeI 13=1 by decide),if_neg (show ¬ sizeI 13=2 by decide),z3]
  rfl
 ·rw [if_pos (show sizeI 14=1 from rfl)]
  simp only [Int.mul_zero,Int.add_zero] at z0
  rw [z0]
  rfl
 ·rw [if_neg (show ¬ sizeI 15=1 by decide),if_pos (show sizeI 15=2 from rfl)]
  simp only [Int.mul_zero,Int.add_zero] at z1
  rw [z1]
  rfl
theorem see_fetch {m:List Int} (hm:Bytes m) (seq:Int) {pc:Int} (hp:0≤pc):seeAt [] m seq pc=fetchP m pc:=by
 obtain⟨e1,e2⟩:=see_load hm seq (op:=13) (p:=pc) (by omega) hp
 have e1:seeOk m pc 4=(loadP m 13 pc).2:=e1
 unfold seeAt
 rw [seeP_ok,e1]
 split
 ·rename_i hl
  have e2:=e2 hl
  have e2:(loadP (bytesOf (seeP [] m seq pc 4).1) 13 0).1=(loadP m 13 pc).1:=e2
  unfold fetchP
  rw [load_four (by omega),if_pos rfl,if_pos hl,e2]
 ·rename_i hl
  unfold fetchP
  rw [if_neg hl]
theorem set_self (l:List Int) (k:Nat):l.set k (l.getD k 0)=l:=by
 by_cases h:k<l.length
 ·have:l.getD k 0=l[k]:=by simp [List.getD,List.getElem?_eq_getElem h]
  rw [this,List.set_getElem_self]
 ·rw [List.set_eq_of_length_le (by omega)]
theorem head_com {C:Core} (h:Inv C) {R:List Uop} {u:Uop} (ho:C.ops=u::R) (h2:u.state=2):u.commit=comP C.hart C.mem∧u.pc=C.hart.pc:=by
 have hO:=h.ops [] u R ho
 obtain⟨N,hgN,_,hcN,hvN⟩:=h.names
 have hpc:=h.pcs
 rw [ho] at hcN hpc
 have hpc:u.pc=C.hart.pc:=hpc.1
 have hNk:NOk N u:=hcN.1
 have hf:=hO.fetch
 have hk:known []=[]:=rfl
 rw [hk,see_fetch h.bytes _ hO.pc.1,hpc] at hf
 refine⟨?_,hpc⟩
 unfold comP
 rw [←hf]
 split
 ·rename_i hc
  have hc:u.cause=0:=hc
  have hi:=is_op (Inv.insOk hO hc)
  obtain⟨s1,s2⟩:=hNk.src hc
  have ha:C.word u.a=C.hart.regs.getD u.ins.rs1.toNat 0:=by rw [s1];exact(hvN _ (by omega)).2
  have hb:C.word u.b=C.hart.regs.getD u.ins.rs2.toNat 0:=by rw [s2];exact(hvN _ (by omega)).2
  have hst:C.hart.state=0:=h.runs
  have hca:C.hart.cause=0:=by
   have:=h.may
   unfold mayH at this
   simp at this
   omega
  have hregs:regsP C u=C.hart:=by
   unfold regsP
   rw [ha,set_self,hb,set_self,hpc]
   have:∀ H:Hart,H.state=0→H.cause=0→(⟨H.regs,H.pc,0,0⟩:Hart)=H:=fun H h1 h2=>by
    obtain⟨a,b,c,d⟩:=H
    simp only at h1 h2
    rw [h1,h2]
   exact this _ hst hca
  rw [hO.com hc h2]
  unfold execP
  split
  ·rename_i hl
   have hlo:=loads_op.1 hl
   rw [loadX_eq hl,(loadBytes_size hlo).1,ha]
   obtain⟨e1,e2⟩:=see_load h.bytes u.seq hlo (u32_bd (C.hart.regs.getD u.ins.rs1.toNat 0+u.ins.imm)).1
   rw [e1]
   unfold doesP
   simp only
   rw [if_pos hlo]
   have hreg:C.hart.reg u.ins.rs1=C.hart.regs.getD u.ins.rs1.toNat 0:=rfl
   rw [hreg,hpc]
   split
   ·rename_i hok
    unfold loadCom
    rw [hk,e2 hok]
   ·rfl
  ·rw [hregs]
 ·rename_i hc
  have hc:u.cause≠0:=hc
  rw [(hO.fault hc).2.1,hpc]
theorem does_rd {i:Ins} {h:Hart} {m:List Int} (hs:(doesP i h m).state=0):(doesP i h m).rd=if givesP i=true then i.rd else 0:=by
 have g1:16≤i.op∧i.op≤18→givesP i=false:=fun h=>by unfold givesP;simp [h.1,h.2]
 have g2:46≤i.op→givesP i=false:=fun h=>by unfold givesP;simp;omega
 unfold doesP at hs ⊢
 dsimp only at hs ⊢
 by_cases c1:11≤i.op∧i.op≤15
 ·rw [if_pos c1] at hs ⊢
  by_cases c2:(loadP m i.op (u32 (h.reg i.rs1+i.imm))).2=true
  ·rw [if_pos c2]
  ·rw [if_neg c2] at hs;exact absurd hs (by show ¬ ((2:Int)=0);decide)
 rw [if_neg c1] at hs ⊢
 by_cases c3:16≤i.op∧i.op≤18
 ·rw [if_pos c3] at hs ⊢
  rw [g1 c3]
  split<;>rfl
 rw [if_neg c3] at hs ⊢
 by_cases c4:i.op=48
 ·rw [if_pos c4] at hs;exact absurd hs (by show ¬ ((2:Int)=0);decide)
 rw [if_neg c4] at hs ⊢
 by_cases c5:i.op=47
 ·rw [if_pos c5] at hs ⊢
  rw [if_neg (h:=instDecidableEqBool (givesP i) true) (by rw [g2 (by omega)];decide)]
  (repeat' split)<;>rfl
 rw [if_neg c5] at hs ⊢
 by_cases c6:i.op=46
 ·rw [if_pos c6] at hs ⊢
  rw [g2 (by omega)]
  rfl
 rw [if_neg c6]
theorem does_many {i:Ins} {h:Hart} {m:List Int} (hi:storesB i=false):(doesP i h m).many=0:=by
 have c3:¬ (16≤i.op∧i.op≤18):=fun h=>by rw [stores_op.2 h] at hi;cases hi
 unfold doesP
 dsimp only
 rw [if_neg c3]
 (repeat' split)<;>rfl
theorem does_congr {i:Ins} {h h':Hart} {m m':List Int} (hl:loadsB i=false) (ha:aloneB i=false) (h1:h'.reg i.rs1=h.reg i.rs1) (h2:h'.reg i.rs2=h.reg i.rs2) (hp:h'.pc=h.pc) (hm:m'.length=m.length) :
  doesP i h' m'=doesP i h m:=by
 have c1:¬ (11≤i.op∧i.op≤15):=fun h=>by rw [loads_op.2 h] at hl;cases hl
 have c5:¬ i.op=47:=fun h=>by rw [alone_op.2 (Or.inl h)] at ha;cases ha
 have ht:∀ c,trapC h'.pc c=trapC h.pc c:=fun c=>by rw [hp]
 unfold doesP
 dsimp only
 rw [if_neg c1,if_neg c1,if_neg c5,if_neg c5,h1,h2,hp,hm]
def tabL (t:Array Value) (u:Uop):Array Value:=
 if u.ins.op=4∨(5≤u.ins.op∧u.ins.op≤10) then learnBranchP t (cntOf t u.pc) u.pc (decide (u.commit.next≠u32 (u.pc+4))) u.commit.next
 else if loadsB u.ins=true then learnValueP t (vlOf t u.pc) u.pc u.commit.value
 else t
theorem learnP_eq (c:Core) (u:Uop):learnP c u={ c with table:=tabL c.table u }:=by
 unfold learnP tabL
 split
 ·rfl
 ·split<;>rfl
theorem tabL_ok {t:Array Value} (h:TabOk t) {u:Uop} (hp:0≤u.pc∧u.pc≤4294967295) (hc:u.commit.Wf):TabOk (tabL t u):=by
 unfold tabL
 split
 ·exact h.setCnt (cntK_lt _) (learnC_wf (h.cnt_of u.pc).1 _ hc.next.1 hc.next.2)
 ·split
  ·exact h.setVl (vlK_lt _) (learnV_wf (h.vl_of u.pc).1 hp.1 hp.2 hc.value.1 hc.value.2)
  ·exact h
theorem other_next {N:RMap} (h:NGood N) {u:Uop} (hu:NOk N u) (hd:0<u.dest):(0≤u.old∧u.old<N.phys)∧u.old ∉ (nextN N u).all:=by
 obtain⟨_,⟨r1,r2⟩,hf,ho⟩:=hu.dst hd
 have hl:u.ins.rd.toNat<N.regs.length:=by rw [h.len];omega
 have hm:=h.may
 unfold RMap.may RMap.all at hm
 rw [hf] at hm
 obtain⟨m1,m2,m3⟩:=may_take hl hm
 rw [ho]
 refine⟨m2,?_⟩
 unfold nextN RMap.all
 rw [if_pos hd]
 exact m3
theorem next_sub {N:RMap} {u:Uop} (hu:NOk N u):∀ p∈(nextN N u).all,p∈N.all:=by
 intro p hp
 unfold nextN at hp
 split at hp
 ·rename_i hd
  obtain⟨_,_,hf,_⟩:=hu.dst hd
  unfold RMap.all at hp ⊢
  rcases List.mem_append.1 hp with hp | hp
  ·rcases List.mem_or_eq_of_mem_set hp with hp | rfl
   ·exact List.mem_append_left _ hp
   ·exact List.mem_append_right _ (by rw [hf];simp)
  ·exact List.mem_append_right _ (List.mem_of_mem_tail hp)
 ·exact hp
theorem NChain.sub {M:RMap}:∀ {L:List Uop} {N:RMap},NChain N L M→∀ p∈M.all,p∈N.all
 |[],_,h=>by cases h;exact fun p hp=>hp
 |_::_,_,⟨h,h1⟩=>fun p hp=>next_sub h p (h1.sub p hp)
theorem nextN_phys (N:RMap) (u:Uop):(nextN N u).phys=N.phys:=by unfold nextN;split<;>rfl
def goneN (N:RMap) (u:Uop):RMap:=if 0<u.dest then addFree (nextN N u) u.old else N
theorem give_gone {N M:RMap} {u:Uop} {R:List Uop} (h:NChain N (u::R) M) (hg:NGood N):(if 0<u.dest then (giveP M u.old).getD RMap.zero else M)=(if 0<u.dest then addFree M u.old else M):=by
 split
 ·rename_i hd
  obtain⟨hu,h1⟩:=h
  obtain⟨o1,o2⟩:=other_next hg hu hd
  have hM:=h1.good (hg.next hu)
  have hot:otherP M u.old=true:=by
   unfold otherP
   rw [hM.may]
   simp only [Bool.true_and,Bool.and_eq_true,decide_eq_true_eq,Bool.not_eq_true']
   have hph:M.phys=N.phys:=by rw [h1.phys,nextN_phys]
   exact⟨⟨o1.1,by rw [hph];exact o1.2⟩,decide_eq_false fun hin=>o2 (h1.sub _ hin)⟩
  unfold giveP
  rw [if_pos hot]
  rfl
 ·rfl
theorem chain_gone {N M:RMap} {u:Uop} {R:List Uop} (h:NChain N (u::R) M):NChain (goneN N u) R (if 0<u.dest then addFree M u.old else M):=by
 obtain⟨hu,h1⟩:=h
 unfold goneN
 split
 ·exact h1.addFree _
 ·rename_i hd
  unfold nextN at h1
  rw [if_neg hd] at h1
  exact h1
theorem gone_good {N:RMap} {u:Uop} (hg:NGood N) (hu:NOk N u):NGood (goneN N u):=by
 unfold goneN
 split
 ·rename_i hd
  obtain⟨o1,o2⟩:=other_next hg hu hd
  have hn:=hg.next hu
  refine⟨hn.len,?_,hn.zero⟩
  have:=hn.may
  unfold RMap.may RMap.all at this ⊢
  exact may_give this (by show 0≤u.old∧u.old<(nextN N u).phys;rw [nextN_phys];exact o1) o2
 ·exact hg
theorem gone_all {N:RMap} {u:Uop} (hu:NOk N u) (hl:N.all.length=N.phys.toNat):(goneN N u).all.length=(goneN N u).phys.toNat:=by
 unfold goneN
 split
 ·rename_i hd
  obtain⟨_,_,hf,_⟩:=hu.dst hd
  unfold addFree nextN RMap.all
  rw [if_pos hd]
  show(_++(N.free.tail++[u.old])).length=N.phys.toNat
  rw [←hl]
  unfold RMap.all
  rw [hf]
  simp
 ·exact hl
theorem gone_regs {N:RMap} (u:Uop) (hg:NGood N) (hu:NOk N u) (r:Nat):(goneN N u).regs.getD r 0=if 0<u.dest∧u.ins.rd.toNat=r then u.dest else N.regs.getD r 0:=by
 unfold goneN
 split
 ·rename_i hd
  obtain⟨_,⟨r1,r2⟩,hf,_⟩:=hu.dst hd
  unfold addFree nextN
  rw [if_pos hd]
  show(N.regs.set u.ins.rd.toNat u.dest).getD r 0=_
  rw [getD_set]
  by_cases e:u.ins.rd.toNat=r
  ·rw [if_pos ⟨e,by rw [hg.len];omega⟩,if_pos ⟨hd,e⟩]
  ·rw [if_neg (fun h=>e h.1),if_neg (fun h=>e h.2)]
 ·rename_i hd
  rw [if_neg (fun h=>hd h.1)]
theorem goneOne_eq {C:Core} {R:List Uop} {u:Uop} (ho:C.ops=u::R) :
  goneOne C={ C with
   ops:=R,hart:=applyH u.commit C.hart,mem:=applyM u.commit C.mem,commits:=C.commits++[u.commit],
   names:=if 0<u.dest then (giveP C.names u.old).getD RMap.zero else C.names,table:=tabL C.table u,
   access:=C.access.filter (fun a=>!decide (a.seq=u.seq)),still:=if aloneB u.ins=true then false else C.still }:=by
 have hop:C.op 0=u:=by unfold Core.op;rw [ho];rfl
 unfold goneOne
 dsimp only
 rw [learnP_eq,hop,ho]
 rfl
theorem known_cons {u:Uop} (h:stKnown u=true) (L:List Uop):known (u::L)=accS u::known L:=by
 unfold known
 rw [List.filter_cons_of_pos h]
 rfl
theorem known_cons_no {u:Uop} (h:stKnown u=false) (L:List Uop):known (u::L)=known L:=by
 unfold known
 rw [List.filter_cons_of_neg (by rw [h];simp)]
theorem byte_gone {u:Uop} {L:List Uop} {m:List Int} {seq q:Int} (hp:(u::L).Pairwise (fun u v=>u.seq<v.seq)) (hs:u.seq<seq) (hc:u.commit.Wf) (hf:stKnown u=true→u.commit.at_+u.commit.many≤m.length) (hl:m.length≤4096)
  (hno:stKnown u=false→u.commit.many=0) (hq:0≤q):byteP (known L) (applyM u.commit m) seq q=byteP (known (u::L)) m seq q:=by
 rcases hk:stKnown u with _ | _
 ·rw [known_cons_no hk]
  have:applyM u.commit m=m:=by
   unfold applyM putN
   rw [hno hk]
   rfl
  rw [this]
 ·have hp':=known_seqs hp
  rw [known_cons hk] at hp' ⊢
  have h1:=hc.many
  have h2:=hc.at_
  exact byteP_commit (a:=accS u) hp' rfl rfl hs h1 h2.1 (hf hk) hl hq
structure HeadOk (C:Core) (u:Uop) (R:List Uop):Prop where
 com:u.commit=comP C.hart C.mem
 pc:u.pc=C.hart.pc
 wf:u.commit.Wf
 fits:u.commit.Fits C.mem.length
 hart:applyH u.commit C.hart=goH C.hart C.mem
 mem:applyM u.commit C.mem=goM C.hart C.mem
theorem headOk {C:Core} (h:Inv C) {R:List Uop} {u:Uop} (ho:C.ops=u::R) (h2:u.state=2):HeadOk C u R:=by
 obtain⟨e1,e2⟩:=head_com h ho h2
 refine⟨e1,e2,?_,?_,?_,?_⟩
 ·rw [e1];exact comP_wf h.hart h.bytes
 ·rw [e1];exact comP_fits _ _
 ·rw [e1];rfl
 ·rw [e1];rfl
theorem rd_set {l:List Int} {i:Int} {r:Nat} {x:Int} (hl:l.length=32) (h0:0≤i) (h1:i≤31):(l.set i.toNat x).getD r 0=if i.toNat=r then x else l.getD r 0:=by
 rw [getD_set]
 by_cases e:i.toNat=r
 ·rw [if_pos ⟨e,by omega⟩,if_pos e]
 ·rw [if_neg (fun h=>e h.1),if_neg e]
theorem gone_inv {C:Core} (h:Inv C) {R:List Uop} {u:Uop} (ho:C.ops=u::R) (h2:u.state=2) (h0:(goH C.hart C.mem).state=0) :
  Inv { goneOne C with slots:=R.map slotOf }:=by
 have H:=headOk h ho h2
 have hO:=h.ops [] u R ho
 obtain⟨N,hgN,hlN,hcN,hvN⟩:=h.names
 rw [ho] at hcN
 have hNk:NOk N u:=hcN.1
 have hst0:u.commit.state=0:=by
  have:=H.hart
  rw [←this] at h0
  exact h0
 have hc0:u.cause=0:=by
  rcases Decidable.em (u.cause=0) with hc | hc
  ·exact hc
  ·have:=(hO.fault hc).2.1
   rw [this] at hst0
   exact absurd hst0 (by show ¬ ((2:Int)=0);decide)
 have hi:=is_op (Inv.insOk hO hc0)
 have hstop:stopB u=false:=by
  unfold stopB
  rw [hc0,hst0]
  simp
 have hpcs:=h.pcs
 rw [ho] at hpcs
 obtain⟨hp1,hp2⟩:=hpcs
 rw [hstop] at hp2
 rw [if_neg (by simp)] at hp2
 have hseqs:=h.seqs
 rw [ho] at hseqs
 have hcw:=H.wf
 have hdoes:u.commit=doesP u.ins C.hart C.mem:=by
  have hf:=hO.fetch
  have hk:known []=[]:=rfl
  rw [hk,see_fetch h.bytes _ hO.pc.1,H.pc] at hf
  rw [H.com]
  unfold comP
  rw [←hf]
  rw [if_pos (show(u.ins,u.cause).2=0 from hc0)]
 have hrd:u.commit.rd=if givesP u.ins=true then u.ins.rd else 0:=by
  rw [hdoes]
  rw [hdoes] at hst0
  exact does_rd hst0
 have hmany:stKnown u=false→u.commit.many=0:=by
  intro hk
  rcases hs:storesB u.ins with _ | _
  ·rw [hdoes];exact does_many hs
  ·unfold stKnown at hk
   rw [hs,decide_eq_true h2,decide_eq_true hst0] at hk
   cases hk
 have hfit:stKnown u=true→u.commit.at_+u.commit.many≤C.mem.length:=by
  intro hk
  rcases H.fits with hf | hf
  ·exfalso
   unfold stKnown at hk
   simp only [Bool.and_eq_true] at hk
   have hs:=hk.1.1
   have:=doesP_store C.hart C.mem hs (by rw [←hdoes];exact hst0)
   rw [←hdoes] at this
   have e:=congrArg Com.many this.1
   have e:u.commit.many=bytesI u.ins.op:=e
   rw [hf] at e
   unfold bytesI at e
   split at e
   ·cases e
   ·split at e<;>cases e
  ·exact hf
 have hmlen:(applyM u.commit C.mem).length=C.mem.length:=applyM_length _ _
 rw [goneOne_eq ho,give_gone (N:=N) (R:=R) hcN hgN]
 have hreg:∀ r,r<32→(applyH u.commit C.hart).regs.getD r 0=if 0<u.dest∧u.ins.rd.toNat=r then u.commit.value else C.hart.regs.getD r 0:=by
  intro r hr
  unfold applyH
  dsimp only
  rw [hrd]
  by_cases hd:0<u.dest
  ·obtain⟨⟨g1,_⟩,⟨r1,r2⟩,_,_⟩:=hNk.dst hd
   rw [if_pos g1,if_pos (show 0<u.ins.rd by omega),rd_set h.hart.len (by omega) r2]
   by_cases e:u.ins.rd.toNat=r
   ·rw [if_pos e,if_pos ⟨hd,e⟩]
   ·rw [if_neg e,if_neg (fun h=>e h.2)]
  ·have hg:givesP u.ins=false:=by
    rcases hg:givesP u.ins with _ | _
    ·rfl
    ·exact absurd ⟨hg,hc0⟩ (hNk.nodst (by omega)).2
   rw [hg,if_neg (h:=instDecidableEqBool false true) (by decide),if_neg (by omega),if_neg (fun h=>hd h.1)]
 refine⟨h.cfg,applyH_wf hcw h.hart,applyH_may hcw h.may,?_,applyM_bytes h.bytes,?_,tabL_ok h.tab hO.pc hcw,h.words,h.there,rfl,(List.pairwise_cons.1 hseqs).2,?_,?_,?_,?_,h.seq0,h.pc,?_⟩
 ·show(applyH u.commit C.hart).state=0
  rw [H.hart];exact h0
 ·show(applyM u.commit C.mem).length≤4096
  rw [hmlen];exact h.room
 ·
  show C.access.filter (fun a=>!decide (a.seq=u.seq))=(R.filter memB).map (accOf C.words)
  rw [h.access,ho,List.filter_map,List.filter_filter]
  congr 1
  have e1:∀ v∈R,(((fun a:Acc=>!decide (a.seq=u.seq))∘accOf C.words) v&&memB v)=memB v:=fun v hv=>by
   have:=(List.pairwise_cons.1 hseqs).1 v hv
   simp only [Function.comp,accOf_seq]
   rw [decide_eq_false (by omega)]
   simp
  rw [List.filter_cons_of_neg (by simp [accOf_seq]),List.filter_congr e1]
 ·refine⟨goneN N u,gone_good hgN hNk,gone_all hNk hlN,chain_gone hcN,fun r hr=>?_⟩
  show C.has ((goneN N u).regs.getD r 0)=true∧C.word ((goneN N u).regs.getD r 0)=(applyH u.commit C.hart).regs.getD r 0
  rw [gone_regs u hgN hNk,hreg r hr]
  by_cases e:0<u.dest∧u.ins.rd.toNat=r
  ·rw [if_pos e,if_pos e]
   exact hO.d2 e.1 h2
  ·rw [if_neg e,if_neg e]
   exact hvN r hr
 ·show PChain u.commit.next R C.pc
  rw [←hO.nx h2 hstop]
  exact hp2
 ·have:=h.len
  rw [ho] at this
  show R.length≤C.window
  simp at this
  omega
 ·intro L v R' e
  have e:R=L++v::R':=e
  have hOv:=h.ops (u::L) v R' (by rw [ho,e];rfl)
  have hlt:u.seq<v.seq:=(List.pairwise_cons.1 hseqs).1 v (by rw [e];simp)
  have hpL:(u::L).Pairwise (fun u v=>u.seq<v.seq):=by
   rw [e] at hseqs
   exact hseqs.sublist (List.Sublist.cons_cons u (List.sublist_append_left L (v::R')))
  have hbyte:∀ q,0≤q→byteP (known L) (applyM u.commit C.mem) v.seq q=byteP (known (u::L)) C.mem v.seq q:=fun q hq=>byte_gone hpL hlt hcw hfit h.room hmany hq
  have hsee:∀ p many,0≤p→(seeP (known L) (applyM u.commit C.mem) v.seq p many).1=(seeP (known (u::L)) C.mem v.seq p many).1∧(seeP (known L) (applyM u.commit C.mem) v.seq p many).2.1=(seeP (known (u::L)) C.mem v.seq p many).2.1:=
   fun p many hp=>seeP_congr hmlen fun q h1 _ _ _=>hbyte q (by omega)
  refine hOv.congr hOv.seq.2 (fun e=>by cases e) (fun e=>e) (fun hl hs=>?_) ?_ (fun _ _=>⟨fun h=>h,fun h=>h⟩) (fun _=>⟨rfl,rfl⟩) (fun hcv h2v=>?_)
  ·show(if aloneB u.ins=true then false else C.still)=true
   rcases ha:aloneB u.ins with _ | _
   ·exact hs
   ·have:=(hO.last (by unfold lastB;rw [ha];rfl)).1
    rw [this] at e
    cases L<;>cases e
  ·show seeAt (known L) (applyM u.commit C.mem) v.seq v.pc=_
   unfold seeAt
   obtain⟨s1,s2⟩:=hsee v.pc 4 hOv.pc.1
   rw [s1,s2]
  ·have hlone:aloneB v.ins=false:=by
    rcases ha:aloneB v.ins with _ | _
    ·rfl
    ·have:=hOv.lone ha (by omega)
     cases this
   have hiv:=is_op (Inv.insOk hOv hcv)
   unfold execP
   rcases hl:loadsB v.ins with _ | _
   ·show doesP v.ins _ _=doesP v.ins _ _
    have hl32:(applyH u.commit C.hart).regs.length=32:=(applyH_wf hcw h.hart).len
    have hset:∀ (l:List Int) (x y:Int) (i j r:Int),l.length=32→0≤i→i≤31→0≤j→j≤31→(r=i∨r=j)→((l.set i.toNat x).set j.toNat y).getD r.toNat 0=if r=j then y else x:=by
     intro l x y i j r hl hi0 hi1 hj0 hj1 hr
     rw [getD_set,getD_set]
     by_cases e:r=j
     ·rw [if_pos e,if_pos ⟨by rw [e],by simp;omega⟩]
     ·rcases hr with rfl | rfl
      ·rw [if_neg e,if_neg (fun h=>e (by omega)),if_pos ⟨rfl,by omega⟩]
      ·exact absurd rfl e
    refine does_congr hl hlone ?_ ?_ rfl hmlen
    ·show(((applyH u.commit C.hart).regs.set v.ins.rs1.toNat (C.word v.a)).set v.ins.rs2.toNat (C.word v.b)).getD v.ins.rs1.toNat 0=((C.hart.regs.set v.ins.rs1.toNat (C.word v.a)).set v.ins.rs2.toNat (C.word v.b)).getD v.ins.rs1.toNat 0
     rw [hset _ _ _ _ _ _ hl32 (by omega) (by omega) (by omega) (by omega) (Or.inl rfl),hset _ _ _ _ _ _ h.hart.len (by omega) (by omega) (by omega) (by omega) (Or.inl rfl)]
    ·show(((applyH u.commit C.hart).regs.set v.ins.rs1.toNat (C.word v.a)).set v.ins.rs2.toNat (C.word v.b)).getD v.ins.rs2.toNat 0=((C.hart.regs.set v.ins.rs1.toNat (C.word v.a)).set v.ins.rs2.toNat (C.word v.b)).getD v.ins.rs2.toNat 0
     rw [hset _ _ _ _ _ _ hl32 (by omega) (by omega) (by omega) (by omega) (Or.inr rfl),hset _ _ _ _ _ _ h.hart.len (by omega) (by omega) (by omega) (by omega) (Or.inr rfl)]
   ·rw [if_pos rfl,if_pos rfl,loadX_eq hl,loadX_eq hl]
    obtain⟨s1,s2⟩:=hsee (u32 (C.word v.a+v.ins.imm)) (loadBytes v.ins.op) (u32_bd _).1
    rw [seeP_ok,seeP_ok] at s2
    show(if seeOk (applyM u.commit C.mem) (u32 (C.word v.a+v.ins.imm)) (loadBytes v.ins.op)=true then loadCom v.ins v.pc (seeP (known L) (applyM u.commit C.mem) v.seq (u32 (C.word v.a+v.ins.imm)) (loadBytes v.ins.op)).1 else _)=_
    rw [s1,s2]
theorem OpOk.congr2 {C C':Core} {L L' R R':List Uop} {v:Uop} (h:OpOk C L v R) (hq:v.seq<C'.seq)
  (hL:L=[]→L'=[]) (hst:lastB v=true→R'=[]∧C'.still=true)
  (hf:seeAt (known L') C'.mem v.seq v.pc=seeAt (known L) C.mem v.seq v.pc)
  (hs:v.cause=0→v.state≠0→(C.has v.a=true→C'.has v.a=true)∧(C.has v.b=true→C'.has v.b=true))
  (hd:0<v.dest→C'.has v.dest=C.has v.dest∧C'.word v.dest=C.word v.dest)
  (hx:v.cause=0→v.state=2→execP C' L' v=execP C L v):OpOk C' L' v R':=
 ⟨⟨h.seq.1,hq⟩,h.st,h.fault,h.cause,by rw [hf];exact h.fetch,h.pc,h.next,h.nextS,
  fun hc hn=>⟨(hs hc hn).1 (h.src hc hn).1,(hs hc hn).2 (h.src hc hn).2⟩,h.gs,
  fun h1 h2 h3=>h.d1 h1 h2 (by rw [←(hd h1).1];exact h3),fun h1 h2=>by rw [(hd h1).1,(hd h1).2];exact h.d2 h1 h2,
  fun h1 h2=>by rw [hx h1 h2];exact h.com h1 h2,h.nx,fun h1 h2=>hL (h.lone h1 h2),hst⟩
def pushC (C:Core) (u:Uop) (s:List Int) (pc:Int) (still:Bool):Core:=
 { C with
  slots:=(C.ops++[u]).map slotOf
  ops:=C.ops++[u]
  seq:=C.seq+1
  taken:=C.taken+1
  names:=nextN C.names u
  there:=if 0<u.dest then C.there.set u.dest.toNat false else C.there
  access:=((C.ops++[u]).filter memB).map (accOf C.words)
  script:=s
  pc:=pc
  still:=still }
theorem snoc_split {α:Type} {A L R:List α} {u v:α} (h:A++[u]=L++v::R):(∃ R0,R=R0++[u]∧A=L++v::R0)∨(R=[]∧v=u∧L=A):=by
 rcases List.eq_nil_or_concat R with rfl | ⟨R0,w,rfl⟩
 ·right
  have:=List.append_inj' h rfl
  exact⟨rfl,by injection this.2 with h _;exact h.symm,this.1.symm⟩
 ·left
  refine⟨R0,?_⟩
  have e:L++v::(R0++[w])=(L++v::R0)++[w]:=by simp
  rw [List.concat_eq_append,e] at h
  have:=List.append_inj' h rfl
  have e2:u=w:=by injection this.2
  exact⟨by rw [e2,List.concat_eq_append],this.1⟩
theorem Inv.free {C:Core} (h:Inv C) (hs:C.still=false):∀ v∈C.ops,lastB v=false:=by
 intro v hv
 obtain⟨L,R,e⟩:=List.append_of_mem hv
 rcases hl:lastB v with _ | _
 ·rfl
 ·have:=((h.ops L v R e).last hl).2
  rw [hs] at this
  cases this
theorem Inv.pushed {C:Core} (h:Inv C) (hs:C.still=false) (hlen:C.ops.length<C.window) {u:Uop} (s:List Int) {pc:Int} (still:Bool) (hN:NOk C.names u) (hseq:u.seq=C.seq) (hpc:u.pc=C.pc)
  (hpcr:0≤pc∧pc≤4294967295) (hq:stopB u=false→u.next=pc) (hsrc:u.cause=0→(0≤u.ins.rs1∧u.ins.rs1≤31)∧0≤u.ins.rs2∧u.ins.rs2≤31) (hz:u.cause≠0→u.a=0∧u.b=0)
  (hu:OpOk (pushC C u s pc still) C.ops u []):Inv (pushC C u s pc still):=by
 obtain⟨N,hgN,hlN,hcN,hvN⟩:=h.names
 have hfree:=h.free hs
 have hc2:=hcN.snoc hN
 have hM:=hcN.good hgN
 have hdst:0<u.dest→u.dest∈C.names.free∧u.dest<96:=fun hd=>by
  have:u.dest∈C.names.free:=by rw [(hN.dst hd).2.2.1];simp
  exact⟨this,(hM.free_pos this).2⟩
 have hap:(C.ops++[u]).Pairwise Apart:=by
  refine hc2.apart hgN (fun v hv hcz=>?_) (fun v hv hcn=>?_)
  ·rcases List.mem_append.1 hv with hv | hv
   ·obtain⟨L,R,e⟩:=List.append_of_mem hv
    have:=is_op (Inv.insOk (h.ops L v R e) hcz)
    omega
   ·rw [List.mem_singleton.1 hv] at hcz ⊢
    exact hsrc hcz
  ·rcases List.mem_append.1 hv with hv | hv
   ·obtain⟨L,R,e⟩:=List.append_of_mem hv
    obtain⟨_,_,e1,e2,_⟩:=(h.ops L v R e).fault hcn
    exact⟨e1,e2⟩
   ·rw [List.mem_singleton.1 hv] at hcn ⊢
    exact hz hcn
 have hap:∀ v∈C.ops,Apart v u:=fun v hv=>(List.pairwise_append.1 hap).2.2 v hv u (by simp)
 have hhas:∀ p:Int,0≤p→(0<u.dest→p≠u.dest)→(pushC C u s pc still).has p=C.has p:=by
  intro p hp hne
  show(if 0<u.dest then C.there.set u.dest.toNat false else C.there).getD p.toNat false=C.there.getD p.toNat false
  split
  ·rename_i hd
   exact has_set false (by omega) hp (hne hd)
  ·rfl
 refine⟨h.cfg,h.hart,h.may,h.runs,h.bytes,h.room,h.tab,h.words,?_,rfl,?_,rfl,?_,?_,?_,?_,hpcr,?_⟩
 ·show(if 0<u.dest then C.there.set u.dest.toNat false else C.there).length=96
  split
  ·simp [h.there]
  ·exact h.there
 ·refine List.pairwise_append.2 ⟨h.seqs,by simp,fun v hv w hw=>?_⟩
  rw [List.mem_singleton.1 hw,hseq]
  obtain⟨L,R,e⟩:=List.append_of_mem hv
  exact(h.ops L v R e).seq.2
 ·refine⟨N,hgN,hlN,hc2,fun r hr=>?_⟩
  obtain⟨v1,v2⟩:=hvN r hr
  refine⟨?_,v2⟩
  rw [hhas _ (hgN.reg_range hr).1 (fun hd e=>hgN.disjoint (hgN.reg_mem hr) (e▸hcN.free_sub _ (hdst hd).1))]
  exact v1
 ·show PChain C.hart.pc (C.ops++[u]) pc
  refine PChain.snoc (by rw [hpc];exact h.pcs) (fun x hx=>?_) pc hq
  have:=hfree x hx
  unfold lastB at this
  rw [Bool.or_eq_false_iff] at this
  exact this.2
 ·show(C.ops++[u]).length≤C.window
  simp
  omega
 ·show 0≤C.seq+1
  have:=h.seq0
  omega
 ·intro L v R e
  have e:C.ops++[u]=L++v::R:=e
  rcases snoc_split e with⟨R0,rfl,e0⟩ | ⟨rfl,rfl,rfl⟩
  ·have hOv:=h.ops L v R0 e0
   have hv:v∈C.ops:=by rw [e0];simp
   obtain⟨q1,q2,q3,_⟩:=uop_regs (by rw [←e0];exact hcN) hgN hOv
   have ha:=hap v hv
   refine hOv.congr2 (by show v.seq<C.seq+1;have:=hOv.seq.2;omega) id (fun hl=>by rw [hfree v hv] at hl;cases hl) rfl (fun _ _=>⟨fun hh=>?_,fun hh=>?_⟩) (fun hd=>⟨?_,rfl⟩) (fun _ _=>?_)
   ·rw [hhas _ q1.1 ha.a];exact hh
   ·rw [hhas _ q2.1 ha.b];exact hh
   ·rw [hhas _ q3 ha.d]
   ·exact execP_congr rfl rfl rfl rfl rfl
  ·exact hu
theorem Inv.seen {C:Core} (h:Inv C):seeIns C=seeAt (known C.ops) C.mem C.seq C.pc:=by
 obtain⟨s1,s2⟩:=see_access (words:=C.words) (A:=C.ops) (B:=[]) (seq:=C.seq) C.mem C.pc 4 (fun v hv=>by cases hv)
 rw [List.append_nil,←h.access] at s1 s2
 unfold seeIns seeAt
 rw [s1,s2]
theorem seeAt_cases (K:List Acc) (m:List Int) (seq pc:Int):(seeAt K m seq pc).2=0∧IsP (seeAt K m seq pc).1=true∨((seeAt K m seq pc).2=1∨(seeAt K m seq pc).2=2)∧(seeAt K m seq pc).1=insN:=by
 unfold seeAt
 split
 ·have hc:=fetchP_cause (bytesOf (seeP K m seq pc 4).1) 0
  by_cases h0:(fetchP (bytesOf (seeP K m seq pc 4).1) 0).2=0
  ·exact Or.inl ⟨h0,(fetchP_is h0).1⟩
  ·right
   refine⟨by omega,?_⟩
   unfold fetchP at h0 ⊢
   split at h0
   ·rename_i hl
    rw [if_pos hl]
    cases hd:decP (loadP (bytesOf (seeP K m seq pc 4).1) 13 0).1 with
    |none=>rfl
    |some i=>rw [hd] at h0;exact absurd rfl h0
   ·rename_i hl
    rw [if_neg hl]
 ·exact Or.inr ⟨Or.inl rfl,rfl⟩
theorem Inv.pushOk {C:Core} (h:Inv C):pushP C.slots C.window C.seq=if C.window≤C.ops.length then none else some (C.slots++[⟨C.seq,false⟩]):=by
 have hl:C.slots.length=C.ops.length:=by rw [h.slots];simp
 have ha:C.slots.any (fun s=>decide (C.seq≤s.seq))=false:=by
  rw [List.any_eq_false]
  intro s hs
  rw [h.slots] at hs
  obtain⟨v,hv,rfl⟩:=List.mem_map.1 hs
  obtain⟨L,R,e⟩:=List.append_of_mem hv
  have:=(h.ops L v R e).seq.2
  show ¬ decide (C.seq≤v.seq)=true
  simp
  omega
 unfold pushP
 rw [ha,hl]
 simp only [Bool.false_eq_true,or_false]
theorem follow_bd {C:Core} (h:Inv C) (i:Ins) (pc:Int):0≤(followP C i pc).1∧(followP C i pc).1≤4294967295:=by
 obtain⟨ht,_⟩:=h.tab.cnt_of pc
 unfold followP
 dsimp only
 split
 ·exact u32_bd _
 split
 ·dsimp only
  split
  ·exact u32_bd _
  ·exact⟨ht.t0,ht.t1⟩
 split
 ·dsimp only
  split
  ·exact u32_bd _
  ·exact u32_bd _
 ·exact u32_bd _
theorem follow_next {C:Core} {i:Ins} (hi:(storesB i || aloneB i)=true) (pc:Int):(followP C i pc).1=u32 (pc+4):=by
 have:(16≤i.op∧i.op≤18)∨i.op=47∨i.op=48:=by
  rw [Bool.or_eq_true] at hi
  rcases hi with hi | hi
  ·exact Or.inl (stores_op.1 hi)
  ·exact Or.inr (alone_op.1 hi)
 unfold followP
 dsimp only
 rw [if_neg (by omega),if_neg (by omega),if_neg (by omega)]
def uopF (C:Core) (f:Ins×Int):Uop:={ uopZ with seq:=C.seq,pc:=C.pc,cause:=f.2,ins:=f.1,state:=2,commit:=trapC C.pc f.2 }
def takeC (C:Core) (i:Ins):RMap×Int×Int:=if givesP i=true then (takeP C.names i.rd).getD (RMap.zero,0,0) else (C.names,0,0)
def uopT (C:Core) (i:Ins):Uop:=
 { uopZ with seq:=C.seq,pc:=C.pc,ins:=i,a:=C.names.regs.getD i.rs1.toNat 0,b:=C.names.regs.getD i.rs2.toNat 0,dest:=(takeC C i).2.1,old:=(takeC C i).2.2,next:=(followP C i C.pc).1 }
theorem takeC_eq {C:Core} (h:Inv C) {i:Ins} (hi:IsP i=true) (hf:C.names.free≠[]):NOk C.names (uopT C i)∧(takeC C i).1=nextN C.names (uopT C i)∧(0<(uopT C i).dest↔givesP i=true):=by
 obtain⟨N,hgN,_,hcN,_⟩:=h.names
 have hM:=hcN.good hgN
 have ho:=is_op hi
 rcases hg:givesP i with _ | _
 ·have e:takeC C i=(C.names,0,0):=by unfold takeC;rw [hg];rfl
  have ed:(uopT C i).dest=0:=by show(takeC C i).2.1=0;rw [e]
  refine⟨⟨fun _=>⟨rfl,rfl⟩,fun hd=>by rw [ed] at hd;omega,fun _=>⟨ed,fun hh=>?_⟩⟩,?_,⟨fun hd=>by rw [ed] at hd;omega,fun hh=>by cases hh⟩⟩
  ·have:givesP i=true:=hh.1
   rw [hg] at this
   cases this
  ·unfold nextN
   rw [ed,e]
   rfl
 ·cases hfr:C.names.free with
  |nil=>exact absurd hfr hf
  |cons p f=>
   have hrd:1≤i.rd∧i.rd≤31:=by
    have h1:=hg
    unfold givesP at h1
    simp only [Bool.and_eq_true,decide_eq_true_eq] at h1
    omega
   have e:takeC C i=(⟨C.names.phys,C.names.regs.set i.rd.toNat p,f⟩,p,C.names.regs.getD i.rd.toNat 0):=by
    unfold takeC takeP
    rw [if_pos hg,hfr]
    dsimp only
    rw [if_pos ⟨hM.may,hrd⟩]
    rfl
   have ed:(uopT C i).dest=p:=by show(takeC C i).2.1=p;rw [e]
   have eo:(uopT C i).old=C.names.regs.getD i.rd.toNat 0:=by show(takeC C i).2.2=_;rw [e]
   have hp:=hM.free_pos (p:=p) (by rw [hfr];simp)
   refine⟨⟨fun _=>⟨rfl,rfl⟩,fun _=>⟨⟨hg,rfl⟩,hrd,by rw [hfr,ed];rfl,eo⟩,fun hd=>by rw [ed] at hd;omega⟩,?_,⟨fun _=>rfl,fun _=>by rw [ed];exact hp.1⟩⟩
   unfold nextN
   rw [ed,if_pos hp.1,e,hfr]
   rfl
theorem mem_ins {u:Uop} (h:u.ins=insN):memB u=false:=by unfold memB;rw [h];decide
theorem fetchC_eq {C:Core} (h:Inv C):(fetchC C=(false,C)∧(C.still=true∨C.names.free=[]∨C.window≤C.ops.length)) ∨
  (C.still=false∧C.names.free≠[]∧C.ops.length<C.window ∧
   ((((seeAt (known C.ops) C.mem C.seq C.pc).2=1∨(seeAt (known C.ops) C.mem C.seq C.pc).2=2)∧(seeAt (known C.ops) C.mem C.seq C.pc).1=insN∧fetchC C=(false,pushC C (uopF C (seeAt (known C.ops) C.mem C.seq C.pc)) C.script C.pc true)) ∨
    ∃ i,seeAt (known C.ops) C.mem C.seq C.pc=(i,0)∧IsP i=true∧fetchC C=(!aloneB i,pushC C (uopT C i) (followP C i C.pc).2 (followP C i C.pc).1 (aloneB i)))):=by
 rcases Decidable.em (C.still=true∨C.names.free=[]) with hc | hc
 ·left
  refine⟨?_,by rcases hc with hc | hc;exact Or.inl hc;exact Or.inr (Or.inl hc)⟩
  unfold fetchC
  rw [if_pos hc]
 have hs:C.still=false:=by
  rcases e:C.still with _ | _
  ·rfl
  ·exact absurd (Or.inl e) hc
 have hfr:C.names.free≠[]:=fun e=>hc (Or.inr e)
 by_cases hw:C.window≤C.ops.length
 ·left
  refine⟨?_,Or.inr (Or.inr hw)⟩
  unfold fetchC
  rw [if_neg hc,h.pushOk,if_pos hw]
 right
 refine⟨hs,hfr,by omega,?_⟩
 have hex:fetchC C=(let f:=seeAt (known C.ops) C.mem C.seq C.pc
   let slots:=C.slots++[(⟨C.seq,false⟩:Slt)]
   let c1:={ C with slots:=slots,seq:=C.seq+1,taken:=C.taken+1 }
   if f.2≠0 then
    (false,finishP { c1 with ops:=C.ops++[{ uopZ with seq:=C.seq,pc:=C.pc,cause:=f.2,ins:=f.1,commit:=trapC C.pc f.2 }],still:=true } C.ops.length)
   else
    let i:=f.1
    let t:=takeC C i
    let u:={ uopZ with seq:=C.seq,pc:=C.pc,ins:=i,a:=C.names.regs.getD i.rs1.toNat 0,b:=C.names.regs.getD i.rs2.toNat 0,dest:=t.2.1,old:=t.2.2 }
    let c2:={ c1 with
     names:=t.1
     there:=if givesP i=true then C.there.set t.2.1.toNat false else C.there
     access:=if (loadsB i || storesB i)=true then C.access++[(⟨C.seq,storesB i,false,0,0,0,false⟩:Acc)] else C.access }
    let fo:=followP C i C.pc
    (!aloneB i,{ c2 with ops:=C.ops++[{ u with next:=fo.1 }],script:=fo.2,pc:=fo.1,still:=aloneB i })):=by
  rw [←h.seen]
  conv=>lhs;unfold fetchC
  rw [if_neg hc,h.pushOk,if_neg hw]
  rfl
 rw [hex]
 dsimp only
 have hslots:∀ b,(C.ops.map slotOf)++[(⟨C.seq,b⟩:Slt)]=C.slots++[⟨C.seq,b⟩]:=fun b=>by rw [h.slots]
 rcases seeAt_cases (known C.ops) C.mem C.seq C.pc with⟨h0,his⟩ | ⟨h0,hin⟩
 ·right
  generalize hf:seeAt (known C.ops) C.mem C.seq C.pc=f at h0 his ⊢
  obtain⟨i,c⟩:=f
  simp only at h0 his
  subst h0
  refine⟨i,rfl,his,?_⟩
  rw [if_neg (fun hh=>hh rfl)]
  obtain⟨t1,t2,t3⟩:=takeC_eq h his hfr
  congr 1
  unfold pushC
  have e1:(C.ops++[uopT C i]).map slotOf=C.slots++[⟨C.seq,false⟩]:=by
   rw [List.map_append,h.slots]
   rfl
  have e2:(if 0<(uopT C i).dest then C.there.set (uopT C i).dest.toNat false else C.there)=(if givesP i=true then C.there.set (takeC C i).2.1.toNat false else C.there):=by
   by_cases hg:givesP i=true
   ·rw [if_pos hg,if_pos (t3.2 hg)]
    rfl
   ·rw [if_neg hg,if_neg (fun hd=>hg (t3.1 hd))]
  have e3:((C.ops++[uopT C i]).filter memB).map (accOf C.words)=(if (loadsB i || storesB i)=true then C.access++[(⟨C.seq,storesB i,false,0,0,0,false⟩:Acc)] else C.access):=by
   rw [List.filter_append,List.map_append,←h.access]
   by_cases hm:(loadsB i || storesB i)=true
   ·have hm':memB (uopT C i)=true:=hm
    rw [if_pos hm,List.filter_cons_of_pos hm']
    have hk:stKnown (uopT C i)=false:=by unfold stKnown;simp [uopT,uopZ]
    have:accOf C.words (uopT C i)=⟨C.seq,storesB i,false,0,0,0,false⟩:=by
     unfold accOf
     rw [hk,if_neg (h:=instDecidableEqBool false true) (by decide),if_neg (fun hh=>by have h2:(0:Int)=2:=hh.2.1;cases h2)]
     rfl
    rw [List.filter_nil,List.map_cons,List.map_nil,this]
   ·have hm':memB (uopT C i)=false:=by
     rcases e:memB (uopT C i) with _ | _
     ·rfl
     ·exact absurd e hm
    rw [if_neg hm,List.filter_cons_of_neg (by rw [hm'];simp)]
    simp
  rw [e1,e2,e3,←t2]
  rfl
 ·left
  refine⟨h0,hin,?_⟩
  rw [if_pos (by omega)]
  congr 1
  generalize hf:seeAt (known C.ops) C.mem C.seq C.pc=f at h0 hin ⊢
  obtain⟨i,c⟩:=f
  simp only at h0 hin
  subst hin
  unfold finishP
  have hop:Core.op { C with slots:=C.slots++[(⟨C.seq,false⟩:Slt)],seq:=C.seq+1,taken:=C.taken+1,ops:=C.ops++[{ uopZ with seq:=C.seq,pc:=C.pc,cause:=c,ins:=insN,commit:=trapC C.pc c }],still:=true } C.ops.length={ uopZ with seq:=C.seq,pc:=C.pc,cause:=c,ins:=insN,commit:=trapC C.pc c }:=Core.op_at (R:=[]) rfl
  dsimp only
  rw [hop]
  have hd:doneP (C.slots++[(⟨C.seq,false⟩:Slt)]) C.seq=some (C.slots++[⟨C.seq,true⟩]):=doneP_at (fun s hs=>by
   rw [h.slots] at hs
   obtain⟨v,hv,rfl⟩:=List.mem_map.1 hs
   obtain⟨L,R,e⟩:=List.append_of_mem hv
   have:=(h.ops L v R e).seq.2
   show v.seq≠C.seq
   omega)
  dsimp only
  rw [hd,set_at]
  unfold pushC
  have e1:(C.ops++[uopF C (insN,c)]).map slotOf=C.slots++[⟨C.seq,true⟩]:=by
   rw [List.map_append,h.slots]
   rfl
  have e3:((C.ops++[uopF C (insN,c)]).filter memB).map (accOf C.words)=C.access:=by
   rw [List.filter_append,List.map_append,←h.access,List.filter_cons_of_neg (by rw [mem_ins (u:=uopF C (insN,c)) rfl];simp)]
   simp
  rw [e1,e3]
  rfl
theorem fetch_inv {C:Core} (h:Inv C):Inv (fetchC C).2:=by
 rcases fetchC_eq h with⟨e,_⟩ | ⟨hs,hfr,hw,⟨h0,hin,e⟩ | ⟨i,hf,his,e⟩⟩
 ·rw [e];exact h
 ·rw [e]
  generalize hf:seeAt (known C.ops) C.mem C.seq C.pc=f at h0 hin ⊢
  obtain⟨i,c⟩:=f
  simp only at h0 hin
  subst hin
  have hc0:c≠0:=by omega
  refine h.pushed hs hw C.script true ⟨fun hh=>absurd hh hc0,fun hd=>(by cases hd),fun _=>⟨rfl,fun hh=>absurd hh.2 hc0⟩⟩ rfl rfl h.pc (fun hst=>?_) (fun hh=>absurd hh hc0) (fun _=>⟨rfl,rfl⟩) ?_
  ·have:stopB (uopF C (insN,c))=true:=by
    unfold stopB
    rw [decide_eq_true (show(uopF C (insN,c)).cause≠0 from hc0)]
    rfl
   rw [this] at hst
   cases hst
  ·refine⟨⟨h.seq0,by show C.seq<C.seq+1;omega⟩,Or.inr (Or.inr rfl),fun _=>⟨rfl,rfl,rfl,rfl,rfl⟩,Or.inr h0,hf.symm,h.pc,by show(0:Int)≤0∧(0:Int)≤4294967295;omega,fun hh=>absurd hh hc0,fun hh=>absurd hh hc0,fun hh=>(by cases hh),fun hd=>(by cases hd),fun hd=>(by cases hd),fun hh=>absurd hh hc0,fun _ hst=>?_,fun ha=>?_,fun _=>⟨rfl,rfl⟩⟩
   ·have:stopB (uopF C (insN,c))=true:=by
     unfold stopB
     rw [decide_eq_true (show(uopF C (insN,c)).cause≠0 from hc0)]
     rfl
    rw [this] at hst
    cases hst
   ·exact absurd ha (by decide:¬ aloneB insN=true)
 ·rw [e]
  obtain⟨t1,t2,t3⟩:=takeC_eq h his hfr
  have ho:=is_op his
  have hb:=follow_bd h i C.pc
  refine h.pushed hs hw _ (aloneB i) t1 rfl rfl hb (fun _=>rfl) (fun _=>⟨by show 0≤i.rs1∧i.rs1≤31;omega,by show 0≤i.rs2∧i.rs2≤31;omega⟩) (fun hh=>absurd rfl hh) ?_
  refine⟨⟨h.seq0,by show C.seq<C.seq+1;omega⟩,Or.inl rfl,fun hh=>absurd rfl hh,Or.inl rfl,hf.symm,h.pc,hb,fun _ hh=>follow_next hh _,fun _ hh=>absurd rfl hh,fun hh=>(by cases hh),fun hd _ hh=>?_,fun _ hh=>?_,fun _ hh=>?_,fun hh=>?_,fun _ hh=>absurd rfl hh,fun hl=>⟨rfl,?_⟩⟩
  ·exfalso
   have hd':0<(uopT C i).dest:=hd
   have:(C.there.set (uopT C i).dest.toNat false).getD (uopT C i).dest.toNat false=true:=by
    have hh:(if 0<(uopT C i).dest then C.there.set (uopT C i).dest.toNat false else C.there).getD (uopT C i).dest.toNat false=true:=hh
    rw [if_pos hd'] at hh
    exact hh
   obtain⟨N,hgN,_,hcN,_⟩:=h.names
   have hM:=hcN.good hgN
   have hfr:(uopT C i).dest∈C.names.free:=by rw [(t1.dst hd').2.2.1];simp
   rw [has_self false (by omega) (by rw [h.there];exact(hM.free_pos hfr).2)] at this
   cases this
  ·have hh:(0:Int)=2:=hh
   cases hh
  ·have hh:(0:Int)=2:=hh
   cases hh
  ·have hh:(0:Int)=2:=hh
   cases hh
  ·show aloneB i=true
   have hl:(aloneB i || stopB (uopT C i))=true:=hl
   have hst:stopB (uopT C i)=false:=rfl
   rw [hst,Bool.or_false] at hl
   exact hl
def StillOk (C:Core):Prop:=C.still=true→∃ L u,C.ops=L++[u]∧lastB u=true
theorem lastB_state {u u':Uop} (hi:u'.ins=u.ins) (hc:u'.cause=u.cause) (h0:u.state≠2) (h:lastB u=true):lastB u'=true:=by
 unfold lastB stopB at h ⊢
 rw [decide_eq_false h0] at h
 rw [hi,hc]
 simp only [Bool.false_and,Bool.or_false] at h
 rcases ha:aloneB u.ins with _ | _
 ·rw [ha,Bool.false_or] at h
  rw [h]
  rfl
 ·rfl
theorem snoc_set {L R:List Uop} {u u':Uop} (hi:u'.ins=u.ins) (hc:u'.cause=u.cause) (h0:u.state≠2) (h:∃ L' w,L++u::R=L'++[w]∧lastB w=true):∃ L' w,L++u'::R=L'++[w]∧lastB w=true:=by
 obtain⟨L',w,e,hl⟩:=h
 rcases snoc_split e.symm with⟨R0,rfl,_⟩ | ⟨rfl,rfl,_⟩
 ·exact⟨L++u'::R0,w,by simp,hl⟩
 ·exact⟨L,u',rfl,lastB_state hi hc h0 hl⟩
theorem storedP_still (c:Core) (k:Nat):(storedP c k).still=true→c.still=true∧(storedP c k).ops=c.ops:=by
 unfold storedP
 dsimp only
 split
 ·intro h
  have h:false=true:=h
  cases h
 ·intro h
  exact⟨h,rfl⟩
theorem complete_still {C:Core} (h:Inv C) (hs:StillOk C) {L R:List Uop} {u:Uop} (ho:C.ops=L++u::R) (h1:u.state=1):StillOk (completeP C L.length):=by
 have hsq:=h.seqs
 rw [ho] at hsq
 obtain⟨hlt,hgt⟩:=seqs_split hsq
 rw [complete_eq h ho h1]
 dsimp only
 have h2:(coreD C L R u (execP C L u) (uD u (execP C L u)) (entD C u (execP C L u))).still=true→∃ L' w,L++uD u (execP C L u)::R=L'++[w]∧lastB w=true:=fun hh=>
  snoc_set (u:=u) rfl rfl (by omega) (by rw [←ho];exact hs hh)
 split
 ·rename_i h0
  intro _
  refine⟨L,uD u (execP C L u),?_,?_⟩
  ·show(L++uD u (execP C L u)::R).filter (fun v=>!decide (u.seq+1≤v.seq))=L++[uD u (execP C L u)]
   have e:L++uD u (execP C L u)::R=(L++[uD u (execP C L u)])++R:=by simp
   rw [e]
   refine filter_lt (fun v hv=>?_) (fun v hv=>by have:=hgt v hv;omega)
   rcases List.mem_append.1 hv with hv | hv
   ·have:=hlt v hv;omega
   ·rw [List.mem_singleton.1 hv];show u.seq<u.seq+1;omega
  ·unfold lastB stopB uD
   simp [h0]
 ·rcases hm:missP C L u with _ | _
  ·simp only [Bool.false_eq_true,if_false]
   split
   ·intro hh
    obtain⟨g1,g2⟩:=storedP_still _ _ hh
    rw [g2]
    exact h2 g1
   ·exact h2
  ·simp only [if_true]
   split
   ·intro hh
    have:=(storedP_still _ _ hh).1
    have:false=true:=this
    cases this
   ·intro hh
    have hh:false=true:=hh
    cases hh
theorem fetch_still {C:Core} (h:Inv C) (hs:StillOk C):StillOk (fetchC C).2:=by
 rcases fetchC_eq h with⟨e,_⟩ | ⟨_,hfr,hw,⟨h0,hin,e⟩ | ⟨i,hf,his,e⟩⟩
 ·rw [e];exact hs
 ·rw [e]
  intro _
  refine⟨C.ops,_,rfl,?_⟩
  unfold lastB stopB
  rw [decide_eq_true (show(uopF C (seeAt (known C.ops) C.mem C.seq C.pc)).cause≠0 by show(seeAt (known C.ops) C.mem C.seq C.pc).2≠0;omega)]
  simp
 ·rw [e]
  intro hh
  have hh:aloneB i=true:=hh
  refine⟨C.ops,_,rfl,?_⟩
  unfold lastB
  rw [show aloneB (uopT C i).ins=aloneB i from rfl,hh]
  rfl
theorem gone_still {C:Core} (hs:StillOk C) {R:List Uop} {u:Uop} (ho:C.ops=u::R) (hst:stopB u=false):StillOk (goneOne C):=by
 intro hh
 rw [goneOne_eq ho] at hh ⊢
 have hh:(if aloneB u.ins=true then false else C.still)=true:=hh
 rcases ha:aloneB u.ins with _ | _
 ·rw [ha] at hh
  obtain⟨L,w,e,hl⟩:=hs hh
  rw [ho] at e
  show ∃ L' w,R=L'++[w]∧lastB w=true
  cases L with
  |nil=>
   have e:u::R=[w]:=e
   injection e with e1 e2
   rw [←e1] at hl
   unfold lastB at hl
   rw [ha,hst] at hl
   cases hl
  |cons x L=>
   rw [List.cons_append] at e
   injection e with e1 e2
   exact⟨L,w,e2,hl⟩
 ·rw [ha] at hh
  cases hh
structure Begun (C C':Core) (k:Nat) (now:Int):Prop where
 same:C'={ C with ops:=C'.ops,script:=C'.script,words:=C'.words,there:=C'.there }
 ops:C'.ops=C.ops∨((C.op k).state=0∧∃ r g,r≤now+9∧C'.ops=C.ops.set k { C.op k with state:=1,ready:=r,guessed:=g })
theorem begin_shape (C:Core) (k:Nat) (now head:Int):Begun C (beginP C k now head).2 k now:=by
 unfold beginP
 dsimp only
 split
 ·exact⟨rfl,Or.inl rfl⟩
 rename_i hn
 have h0:(C.op k).state=0:=by rcases Decidable.em ((C.op k).state=0) with e | e;exact e;exact absurd (Or.inl e) hn
 split
 ·exact⟨rfl,Or.inr ⟨h0,now+3,(C.op k).guessed,by omega,rfl⟩⟩
 split
 ·split
  ·refine⟨?_,Or.inr ⟨h0,now+1+headP C.script%9,true,by omega,rfl⟩⟩
   unfold putW32
   split<;>rfl
  ·exact⟨rfl,Or.inr ⟨h0,now+1+headP C.script%9,(C.op k).guessed,by omega,rfl⟩⟩
 ·exact⟨rfl,Or.inr ⟨h0,now+1,(C.op k).guessed,by omega,rfl⟩⟩
theorem begin_still {C:Core} (hs:StillOk C) {L R:List Uop} {u:Uop} (ho:C.ops=L++u::R) (now head:Int):StillOk (beginP C L.length now head).2:=by
 obtain⟨hsame,hops⟩:=begin_shape C L.length now head
 intro hh
 have hst:(beginP C L.length now head).2.still=C.still:=by rw [hsame]
 rw [hst] at hh
 rcases hops with e | ⟨h0,r,g,_,e⟩
 ·rw [e];exact hs hh
 ·have hu:C.op L.length=u:=Core.op_at ho
  rw [hu] at h0 e
  rw [e,ho,set_at]
  exact snoc_set (u:=u) rfl rfl (by omega) (by rw [←ho];exact hs hh)
theorem begin_head {C:Core} (h:Inv C) {R:List Uop} {u:Uop} (ho:C.ops=u::R) (h0:u.state=0) (now:Int) :
  (beginP C 0 now (C.op 0).seq).1=true∧∃ u',(beginP C 0 now (C.op 0).seq).2.ops=u'::R∧u'.state=1∧u'.ready≤now+9:=by
 have hu:C.op 0=u:=Core.op_at (L:=[]) ho
 obtain⟨N,hgN,_,hcN,hvN⟩:=h.names
 have hO:=h.ops [] u R ho
 rw [ho] at hcN
 have hc:u.cause=0:=by
  rcases Decidable.em (u.cause=0) with e | e
  ·exact e
  ·have:=(hO.fault e).1;omega
 have hi:=is_op (Inv.insOk hO hc)
 obtain⟨s1,s2⟩:=hcN.1.src hc
 have ha:C.has u.a=true:=by rw [s1];exact(hvN _ (by omega)).1
 have hb:C.has u.b=true:=by rw [s2];exact(hvN _ (by omega)).1
 have hno:¬ (u.state≠0∨C.has u.a=false∨C.has u.b=false∨(aloneB u.ins=true∧u.seq≠u.seq)):=by
  rw [ha,hb]
  rintro(hh | hh | hh | ⟨_,hh⟩)
  ·exact hh h0
  ·cases hh
  ·cases hh
  ·exact hh rfl
 have h1:(beginP C 0 now (C.op 0).seq).1=true:=by
  unfold beginP
  rw [hu]
  dsimp only
  rw [if_neg hno]
  (repeat' split)<;>rfl
 refine⟨h1,?_⟩
 unfold beginP
 rw [hu]
 dsimp only
 rw [if_neg hno,ho]
 split
 ·exact⟨_,rfl,rfl,by show now+3≤_;omega⟩
 split
 ·split
  ·exact⟨_,rfl,rfl,by show now+1+_%9≤_;omega⟩
  ·exact⟨_,rfl,rfl,by show now+1+_%9≤_;omega⟩
 ·exact⟨_,rfl,rfl,by show now+1≤_;omega⟩
structure Mid (C C':Core):Prop where
 hart:C'.hart=C.hart
 mem:C'.mem=C.mem
 commits:C'.commits=C.commits
 wide:C'.wide=C.wide
 cycles:C'.cycles=C.cycles
 taken:C.taken≤C'.taken
 backs:C.backs≤C'.backs
theorem Mid.refl (C:Core):Mid C C:=⟨rfl,rfl,rfl,rfl,rfl,Int.le_refl _,Int.le_refl _⟩
theorem Mid.trans {A B C:Core} (h:Mid A B) (k:Mid B C):Mid A C:=
 ⟨k.hart.trans h.hart,k.mem.trans h.mem,k.commits.trans h.commits,k.wide.trans h.wide,k.cycles.trans h.cycles,Int.le_trans h.taken k.taken,Int.le_trans h.backs k.backs⟩
structure Good (C:Core):Prop where
 inv:Inv C
 still:StillOk C
def Soon (T:Int) (C:Core):Prop:=∀ u∈C.ops,u.state=1→u.ready≤T
structure Part (C C':Core) (T:Int) (L:List Uop):Prop where
 good:Good C'
 mid:Mid C C'
 soon:Soon T C→Soon T C'
 ops:∃ R',C'.ops=L++R'
theorem Part.refl {C:Core} (h:Good C) (T:Int) {L R:List Uop} (ho:C.ops=L++R):Part C C T L:=⟨h,Mid.refl C,id,R,ho⟩
theorem finish_part (now T:Int):∀ (n:Nat) (C:Core) (L R:List Uop),Good C→C.ops=L++R→Part C (finishAll n L.length now C) T L
 |0,C,L,R,h,ho=>Part.refl h T ho
 |n+1,C,L,[],h,ho=>by
  show Part C (if L.length<C.ops.length then _ else C) T L
  rw [if_neg (by rw [ho];simp)]
  exact Part.refl h T ho
 |n+1,C,L,u::R,h,ho=>by
  show Part C (if L.length<C.ops.length then finishAll n (L.length+1) now (if (C.op L.length).state=1∧(C.op L.length).ready≤now then completeP C L.length else C) else C) T L
  rw [if_pos (by rw [ho];simp)]
  have hu:C.op L.length=u:=Core.op_at ho
  rw [hu]
  have hlen:L.length+1=(L++[u]).length:=by simp
  split
  ·rename_i hc
   have K:=complete_kept h.inv ho hc.1
   obtain⟨u',X,Y,hR,hops,hst,_⟩:=K.ops
   have hlen':L.length+1=(L++[u']).length:=by simp
   have hgood:Good (completeP C L.length):=⟨K.inv,complete_still h.inv h.still ho hc.1⟩
   have P:=finish_part now T n (completeP C L.length) (L++[u']) X hgood (by rw [hops];simp)
   rw [hlen']
   refine⟨P.good,Mid.trans ⟨K.hart,K.mem,K.commits,K.cfg.1,K.cycles,by rw [K.taken];exact Int.le_refl _,K.backs.1⟩ P.mid,fun hs=>P.soon fun v hv hv1=>?_,?_⟩
   ·rw [hops] at hv
    rcases List.mem_append.1 hv with hv | hv
    ·exact hs v (by rw [ho];simp [hv]) hv1
    ·rcases List.mem_cons.1 hv with rfl | hv
     ·omega
     ·exact hs v (by rw [ho,hR];simp [hv]) hv1
   ·obtain⟨R',e⟩:=P.ops
    exact⟨u'::R',by rw [e];simp⟩
  ·have P:=finish_part now T n C (L++[u]) R h (by rw [ho];simp)
   rw [hlen]
   refine⟨P.good,P.mid,P.soon,?_⟩
   obtain⟨R',e⟩:=P.ops
   exact⟨u::R',by rw [e];simp⟩
theorem finish_head (now T:Int) (n:Nat) {C:Core} {u:Uop} {R:List Uop} (h:Good C) (ho:C.ops=u::R) :
  ∃ u' R',(finishAll (n+1) 0 now C).ops=u'::R'∧(u'.state=2∨(u'=u∧¬ (u.state=1∧u.ready≤now))):=by
 show ∃ u' R',(if 0<C.ops.length then finishAll n 1 now (if (C.op 0).state=1∧(C.op 0).ready≤now then completeP C 0 else C) else C).ops=u'::R'∧_
 rw [if_pos (by rw [ho];simp)]
 have hu:C.op 0=u:=Core.op_at (L:=[]) ho
 rw [hu]
 split
 ·rename_i hc
  have K:=complete_kept h.inv (L:=[]) ho hc.1
  obtain⟨u',X,Y,hR,hops,hst,_⟩:=K.ops
  have hgood:Good (completeP C 0):=⟨K.inv,complete_still h.inv h.still (L:=[]) ho hc.1⟩
  obtain⟨R',e⟩:=(finish_part now T n (completeP C 0) [u'] X hgood (by rw [show completeP C 0=completeP C [].length from rfl,hops];rfl)).ops
  exact⟨u',R',e,Or.inl hst⟩
 ·rename_i hc
  obtain⟨R',e⟩:=(finish_part now T n C [u] R h (by rw [ho];rfl)).ops
  exact⟨u,R',e,Or.inr ⟨rfl,hc⟩⟩
theorem finish_none (now:Int) (n k:Nat) {C:Core} (ho:C.ops=[]):finishAll n k now C=C:=by
 cases n with
 |zero=>rfl
 |succ n=>
  show(if k<C.ops.length then _ else C)=C
  rw [if_neg (by rw [ho];simp)]
theorem begin_good {C:Core} (h:Good C) {L R:List Uop} {u:Uop} (ho:C.ops=L++u::R) (now:Int):Good (beginP C L.length now (C.op 0).seq).2:=
 ⟨begin_inv h.inv ho now,begin_still h.still ho now _⟩
theorem begin_mid (C:Core) (k:Nat) (now head:Int):Mid C (beginP C k now head).2:=by
 obtain⟨hs,_⟩:=begin_shape C k now head
 rw [hs]
 exact⟨rfl,rfl,rfl,rfl,rfl,Int.le_refl _,Int.le_refl _⟩
theorem begin_part (now:Int):∀ (n:Nat) (some_:Int) (C:Core) (L R:List Uop),Good C→C.ops=L++R→Part C (beginAll n L.length some_ now C) (now+9) L
 |0,_,C,L,R,h,ho=>Part.refl h _ ho
 |n+1,some_,C,L,[],h,ho=>by
  show Part C (if L.length<C.ops.length∧some_<C.wide then _ else C) _ L
  rw [if_neg (by rw [ho];simp)]
  exact Part.refl h _ ho
 |n+1,some_,C,L,u::R,h,ho=>by
  show Part C (if L.length<C.ops.length∧some_<C.wide then beginAll n (L.length+1) (if (beginP C L.length now (C.op 0).seq).1=true then some_+1 else some_) now (beginP C L.length now (C.op 0).seq).2 else C) _ L
  split
  ·have hu:C.op L.length=u:=Core.op_at ho
   obtain⟨_,hops⟩:=begin_shape C L.length now (C.op 0).seq
   have hg:=begin_good h ho now
   have hm:=begin_mid C L.length now (C.op 0).seq
   generalize (beginP C L.length now (C.op 0).seq).1=b
   generalize hC':(beginP C L.length now (C.op 0).seq).2=C' at hops hg hm ⊢
   obtain⟨u',e,hst⟩:∃ u',C'.ops=L++u'::R∧(u'=u∨(u'.state=1∧u'.ready≤now+9)):=by
    rcases hops with e | ⟨_,r,g,hr,e⟩
    ·exact⟨u,by rw [e,ho],Or.inl rfl⟩
    ·exact⟨_,by rw [e,ho,set_at],Or.inr ⟨rfl,hr⟩⟩
   have hlen:L.length+1=(L++[u']).length:=by simp
   have P:=begin_part now n (if b=true then some_+1 else some_) C' (L++[u']) R hg (by rw [e];simp)
   rw [hlen]
   refine⟨P.good,hm.trans P.mid,fun hs=>P.soon fun v hv hv1=>?_,?_⟩
   ·rw [e] at hv
    rcases List.mem_append.1 hv with hv | hv
    ·exact hs v (by rw [ho];simp [hv]) hv1
    ·rcases List.mem_cons.1 hv with rfl | hv
     ·rcases hst with rfl | hst
      ·exact hs _ (by rw [ho];simp) hv1
      ·exact hst.2
     ·exact hs v (by rw [ho];simp [hv]) hv1
   ·obtain⟨R',e⟩:=P.ops
    exact⟨u'::R',by rw [e];simp⟩
  ·exact Part.refl h _ ho
theorem begin_head_part (now:Int) (n:Nat) {C:Core} {u:Uop} {R:List Uop} (h:Good C) (ho:C.ops=u::R) :
  ∃ u' R',(beginAll (n+1) 0 0 now C).ops=u'::R'∧(if u.state=0 then u'.state=1∧u'.ready≤now+9 else u'=u):=by
 show ∃ u' R',(if 0<C.ops.length∧0<C.wide then beginAll n 1 (if (beginP C 0 now (C.op 0).seq).1=true then 0+1 else 0) now (beginP C 0 now (C.op 0).seq).2 else C).ops=u'::R'∧_
 rw [if_pos ⟨by rw [ho];simp,by have:=h.inv.cfg.2.1;omega⟩]
 have hu:C.op 0=u:=Core.op_at (L:=[]) ho
 have hg:=begin_good h (L:=[]) ho now
 have hg:Good (beginP C 0 now (C.op 0).seq).2:=hg
 obtain⟨u',e,hst⟩:∃ u',(beginP C 0 now (C.op 0).seq).2.ops=u'::R∧(if u.state=0 then u'.state=1∧u'.ready≤now+9 else u'=u):=by
  by_cases h0:u.state=0
  ·obtain⟨_,u',e,h1,h2⟩:=begin_head h.inv ho h0 now
   exact⟨u',e,by rw [if_pos h0];exact⟨h1,h2⟩⟩
  ·refine⟨u,?_,by rw [if_neg h0]⟩
   rcases(begin_shape C 0 now (C.op 0).seq).ops with e | ⟨e0,_⟩
   ·rw [e,ho]
   ·rw [hu] at e0
    exact absurd e0 h0
 obtain⟨R',e'⟩:=(begin_part now n (if (beginP C 0 now (C.op 0).seq).1=true then 0+1 else 0) _ [u'] R hg (by rw [e];rfl)).ops
 exact⟨u',R',e',hst⟩
theorem begin_none (now:Int) (n k:Nat) (s:Int) {C:Core} (ho:C.ops=[]):beginAll n k s now C=C:=by
 cases n with
 |zero=>rfl
 |succ n=>
  show(if k<C.ops.length∧s<C.wide then _ else C)=C
  rw [if_neg (by rw [ho];simp)]
theorem fetch_part {C:Core} (h:Good C) (T:Int):Part C (fetchC C).2 T C.ops:=by
 have hg:Good (fetchC C).2:=⟨fetch_inv h.inv,fetch_still h.inv h.still⟩
 rcases fetchC_eq h.inv with⟨e,_⟩ | ⟨_,hfr,hw,⟨h0,hin,e⟩ | ⟨i,hf,his,e⟩⟩
 ·rw [e];exact Part.refl h T (R:=[]) (by simp)
 ·rw [e] at hg ⊢
  refine⟨hg,⟨rfl,rfl,rfl,rfl,rfl,by show C.taken≤C.taken+1;omega,Int.le_refl _⟩,fun hs v hv h1=>?_,[_],rfl⟩
  rcases List.mem_append.1 hv with hv | hv
  ·exact hs v hv h1
  ·rw [List.mem_singleton.1 hv] at h1
   have h1:(2:Int)=1:=h1
   cases h1
 ·rw [e] at hg ⊢
  refine⟨hg,⟨rfl,rfl,rfl,rfl,rfl,by show C.taken≤C.taken+1;omega,Int.le_refl _⟩,fun hs v hv h1=>?_,[_],rfl⟩
  rcases List.mem_append.1 hv with hv | hv
  ·exact hs v hv h1
  ·rw [List.mem_singleton.1 hv] at h1
   have h1:(0:Int)=1:=h1
   cases h1
theorem fetchAll_part (T:Int):∀ (n:Nat) (C:Core),Good C→Part C (fetchAll n C) T C.ops
 |0,C,h=>Part.refl h T (R:=[]) (by simp)
 |n+1,C,h=>by
  have P:=fetch_part h T
  show Part C (if (fetchC C).1=true then fetchAll n (fetchC C).2 else (fetchC C).2) T C.ops
  split
  ·have Q:=fetchAll_part T n (fetchC C).2 P.good
   obtain⟨R1,e1⟩:=P.ops
   obtain⟨R2,e2⟩:=Q.ops
   exact⟨Q.good,P.mid.trans Q.mid,fun hs=>Q.soon (P.soon hs),R1++R2,by rw [e2,e1];simp⟩
  ·exact P
theorem fetch_first {C:Core} (h:Good C) (ho:C.ops=[]):∃ u,(fetchC C).2.ops=[u]∧(u.state=0∨u.state=2):=by
 rcases fetchC_eq h.inv with⟨_,hc⟩ | ⟨_,hfr,hw,⟨h0,hin,e⟩ | ⟨i,hf,his,e⟩⟩
 ·exfalso
  rcases hc with hc | hc | hc
  ·obtain⟨L,u,e,_⟩:=h.still hc
   rw [ho] at e
   cases L<;>cases e
  ·obtain⟨N,hgN,hlN,hcN,_⟩:=h.inv.names
   rw [ho] at hcN
   have hcN:N=C.names:=hcN
   have hp:=hgN.phys
   have hl:=hgN.len
   unfold RMap.all at hlN
   rw [List.length_append,hl,hcN,hc] at hlN
   rw [hcN] at hp
   simp at hlN
   omega
  ·have:=h.inv.cfg.1.1
   rw [ho] at hc
   simp at hc
   omega
 ·rw [e]
  exact⟨_,by show C.ops++[_]=_;rw [ho];rfl,Or.inr rfl⟩
 ·rw [e]
  exact⟨_,by show C.ops++[_]=_;rw [ho];rfl,Or.inl rfl⟩
theorem fetchAll_first (n:Nat) {C:Core} (h:Good C) (ho:C.ops=[]):∃ u R,(fetchAll (n+1) C).ops=u::R∧(u.state=0∨u.state=2):=by
 obtain⟨u,e,hst⟩:=fetch_first h ho
 show ∃ u R,(if (fetchC C).1=true then fetchAll n (fetchC C).2 else (fetchC C).2).ops=u::R∧_
 split
 ·obtain⟨R,e2⟩:=(fetchAll_part 0 n (fetchC C).2 (fetch_part h 0).good).ops
  rw [e] at e2
  exact⟨u,R,e2,hst⟩
 ·exact⟨u,[],e,hst⟩
end Go.Proofs.Ytapgojgcmlnbgac
