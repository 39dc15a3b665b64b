/- Parts of a proof. -/
import Derived.Test.YtapgojgcmlnbgacK23
set_option linter.unusedSimpArgs false
set_option linter.unusedVariables false
set_option maxRecDepth 100000
set_option maxHeartbeats 16000000
namespace Go.Proofs.Ytapgojgcmlnbgac
open Go
theorem over_no {pc at_ many:Int} (_hm:many=1∨many=2∨many=4) (h:overB pc at_ many=false) {u:Uop} (h1:u.commit.at_=at_) (h2:u.commit.many=many) {q:Int} (q1:pc≤q) (q2:q<pc+4):hasB (accS u) q=false:=by
 rcases hh:hasB (accS u) q with _ | _
 ·rfl
 ·exfalso
  unfold hasB accS manyI at hh
  rw [h1,h2] at hh
  unfold overB at h
  simp at hh h
  omega
theorem see_store {L X:List Uop} {u u':Uop} (h:stKnown u=false) (h':stKnown u'=true) {m:List Int} {seq p many:Int} (hq:∀ q,p≤q→q<p+4→(many=1→q<p+1)→(many=2→q<p+2)→hasB (accS u') q=false) :
  (seeP (known (L++u'::X)) m seq p many).1=(seeP (known (L++u::X)) m seq p many).1∧(seeP (known (L++u'::X)) m seq p many).2.1=(seeP (known (L++u::X)) m seq p many).2.1:=
 seeP_congr rfl fun q q1 q2 q3 q4=>byte_store h h' m seq q (hq q q1 q2 q3 q4)
theorem fetch_store {L X:List Uop} {u u' v:Uop} (h:stKnown u=false) (h':stKnown u'=true) {m:List Int} (hm:u'.commit.many=1∨u'.commit.many=2∨u'.commit.many=4) (ho:overB v.pc u'.commit.at_ u'.commit.many=false) :
  seeAt (known (L++u'::X)) m v.seq v.pc=seeAt (known (L++u::X)) m v.seq v.pc:=by
 obtain⟨e1,e2⟩:=see_store (L:=L) (X:=X) h h' (m:=m) (seq:=v.seq) (p:=v.pc) (many:=4) fun q q1 q2 _ _=>over_no hm ho rfl rfl q1 q2
 unfold seeAt
 rw [e1,e2]
theorem loadX_store {L X:List Uop} {u u' v:Uop} {w:Int} (h:stKnown u=false) (h':stKnown u'=true) {m:List Int} (hl:loadsB v.ins=true) (hlen:m.length≤4096)
  (hv:seeOk m (u32 (w+v.ins.imm)) (loadBytes v.ins.op)=true→meetB (accS u') ⟨v.seq,false,true,u32 (w+v.ins.imm),loadBytes v.ins.op,0,true⟩=false) :
  loadX (known (L++u'::X)) m v w=loadX (known (L++u::X)) m v w:=by
 rw [loadX_eq hl,loadX_eq hl]
 split
 ·rename_i hok
  have hmeet:=hv hok
  have hb:=loadBytes_size (loads_op.1 hl)
  have hok':=hok
  unfold seeOk thereB at hok'
  simp only [Bool.and_eq_true,decide_eq_true_eq,Bool.or_eq_true] at hok'
  have hu:=u32_bd (w+v.ins.imm)
  obtain⟨e1,_⟩:=see_store (L:=L) (X:=X) h h' (m:=m) (seq:=v.seq) (p:=u32 (w+v.ins.imm)) (many:=loadBytes v.ins.op) fun q q1 q2 q3 q4=>by
   rcases hh:hasB (accS u') q with _ | _
   ·rfl
   ·exfalso
    refine meet_no hmeet hh ?_
    have hmi:manyI (loadBytes v.ins.op)=loadBytes v.ins.op:=by unfold manyI;omega
    unfold hasB
    rw [hmi]
    simp
    omega
  rw [e1]
 ·rfl
theorem store_kept {C:Core} (h:Inv C) {L R:List Uop} {u:Uop} (d:DoneAt C L R u) (hst:storesB u.ins=true) (h0:(execP C L u).state=0) (hmiss:missP C L u=false) :
  Kept C (storedP (coreD C L R u (execP C L u) (uD u (execP C L u)) (entD C u (execP C L u))) L.length) L R u:=by
 have hw:wordsD C u (execP C L u).value=C.words:=by unfold wordsD;rw [d.store hst];rfl
 have ht:thereD C u=C.there:=by unfold thereD;rw [d.store hst];rfl
 have hsq:=h.seqs
 rw [d.ops] at hsq
 have hm2:(execP C L u).next=u.next:=by
  unfold missP at hmiss
  simp only [Bool.or_eq_false_iff,decide_eq_false_iff_not,Decidable.not_not] at hmiss
  exact hmiss.2
 have hk:stKnown (uD u (execP C L u))=true:=by unfold stKnown uD;simp only [hst,h0];rfl
 have hk0:stKnown u=false:=by unfold stKnown;rw [d.st];simp
 have hmemu:memB u=true:=by unfold memB;rw [hst,Bool.or_true]
 have hstop:stopB (uD u (execP C L u))=false:=by unfold stopB uD;simp only [d.cause,h0];rfl
 have hal:aloneB u.ins=false:=by
  rcases e:aloneB u.ins with _ | _
  ·rfl
  ·have:=alone_op.1 e;have:=stores_op.1 hst;omega
 have hlo:loadsB u.ins=false:=by
  rcases e:loadsB u.ins with _ | _
  ·rfl
  ·have:=loads_op.1 e;have:=stores_op.1 hst;omega
 have hlast:lastB (uD u (execP C L u))=false:=by unfold lastB;rw [hstop];exact(by rw [show aloneB (uD u (execP C L u)).ins=aloneB u.ins from rfl,hal];rfl)
 have hmany:(uD u (execP C L u)).commit.many=1∨(uD u (execP C L u)).commit.many=2∨(uD u (execP C L u)).commit.many=4:=by
  show(execP C L u).many=1∨(execP C L u).many=2∨(execP C L u).many=4
  have hx:execP C L u=doesP u.ins (regsP C u) C.mem:=by unfold execP;rw [if_neg (by rw [hlo];simp)]
  rw [hx] at h0 ⊢
  rw [(doesP_store _ _ hst h0).1]
  show bytesI _=1∨bytesI _=2∨bytesI _=4
  unfold bytesI
  (repeat' split)<;>omega
 obtain⟨u',hu'⟩:∃ u',u'=uD u (execP C L u):=⟨_,rfl⟩
 have i6:u'.seq=u.seq:=by rw [hu'];rfl
 have hsq':(L++u'::R).Pairwise (fun u v=>u.seq<v.seq):=by
  rw [List.pairwise_append,List.pairwise_cons] at hsq ⊢
  obtain⟨p1,⟨p2,p3⟩,p4⟩:=hsq
  refine⟨p1,⟨fun v hv=>by rw [i6];exact p2 v hv,p3⟩,fun a ha b hb=>?_⟩
  rcases List.mem_cons.1 hb with rfl | hb
  ·rw [i6];exact p4 a ha u (by simp)
  ·exact p4 a ha b (by simp [hb])
 have hmem':memB u'=true:=by rw [hu'];exact hmemu
 have haS:accOf C.words u'=accS u':=by unfold accOf;rw [if_pos (by rw [hu'];exact hk)]
 have hacc:(coreD C L R u (execP C L u) u' (entD C u (execP C L u))).access.set (findA (coreD C L R u (execP C L u) u' (entD C u (execP C L u))).access u'.seq).toNat
   { (coreD C L R u (execP C L u) u' (entD C u (execP C L u))).access.getD (findA (coreD C L R u (execP C L u) u' (entD C u (execP C L u))).access u'.seq).toNat default with known:=true,at_:=u'.commit.at_,many:=u'.commit.many,data:=u'.commit.data }=((L++u'::R).filter memB).map (accOf C.words):=by
  have hac:(coreD C L R u (execP C L u) u' (entD C u (execP C L u))).access=((L++u'::R).filter memB).map (gD C u (entD C u (execP C L u))):=rfl
  have hgu:gD C u (entD C u (execP C L u)) u'=⟨u.seq,true,false,0,0,0,false⟩:=by
   unfold gD entD
   rw [if_pos i6,if_neg (by rw [hlo];simp),hst,i6]
  obtain⟨q1,q2,q3⟩:=access_set (g:=gD C u (entD C u (execP C L u))) (L:=L) (R:=R) hmem' (gD_seq C u _) (fun v hv=>by rw [i6];exact(seqs_ne hsq).1 v hv) (accS u')
  rw [hac,q1,q2,hgu]
  have:({ (⟨u.seq,true,false,0,0,0,false⟩:Acc) with known:=true,at_:=u'.commit.at_,many:=u'.commit.many,data:=u'.commit.data }:Acc)=accS u':=by unfold accS;rw [i6]
  rw [this,q3,gD_list (seqs_ne hsq).1,gD_list (seqs_ne hsq).2,List.filter_append,List.filter_cons_of_pos hmem',List.map_append,List.map_cons,haS]
 have hwr:wrongP (((L++u'::R).filter memB).map (accOf C.words)) u'.seq=(((L++u'::R).filter memB).map (accOf C.words)).foldl (minStep (victA (accS u')) (·.seq)) (0,false):=by
  unfold wrongP
  generalize hl0:((L++u'::R).filter memB).map (accOf C.words)=l0
  have e:((L++u'::R).filter memB).map (accOf C.words)=(L.filter memB).map (accOf C.words)++accS u'::(R.filter memB).map (accOf C.words):=by
   rw [List.filter_append,List.filter_cons_of_pos hmem',List.map_append,List.map_cons,haS]
  rw [←hl0]
  conv=>lhs;arg 3;rw [e]
  rw [wrongGo_at _ (s:=accS u') (by unfold isStore accS;simp) (fun x hx=>by
   obtain⟨v,hv,rfl⟩:=List.mem_map.1 hx
   unfold isStore
   rw [accOf_seq,decide_eq_false (by rw [i6];exact(seqs_ne hsq).1 v (List.mem_filter.1 hv).1),Bool.and_false])]
  rfl
 have hmemR:∀ v∈L++u'::R,u'.seq<v.seq→v∈R:=by
  intro v hv hlt
  rcases List.mem_append.1 hv with hv | hv
  ·have:=(seqs_split hsq').1 v hv;omega
  ·rcases List.mem_cons.1 hv with rfl | hv
   ·omega
   ·exact hv
 obtain⟨w1,w2,_⟩:=min_spec (victA (accS u')) (·.seq) (((L++u'::R).filter memB).map (accOf C.words)) (0,false)
 rw [←hwr] at w1 w2
 obtain⟨f1,f2,f3⟩:=min_spec (victU u'.seq u'.commit.at_ u'.commit.many) (·.seq) (L++u'::R) (wrongP (((L++u'::R).filter memB).map (accOf C.words)) u'.seq)
 rw [←first_min] at f1 f2 f3
 generalize hf:(L++u'::R).foldl (firstStep u'.seq u'.commit.at_ u'.commit.many) (wrongP (((L++u'::R).filter memB).map (accOf C.words)) u'.seq)=f at f1 f2 f3
 generalize hw0:wrongP (((L++u'::R).filter memB).map (accOf C.words)) u'.seq=w0 at w1 w2 f1 f3 hf
 have F1:f.2=true→∃ v∈R,f.1=v.seq:=by
  intro ht'
  rcases f1 ht' with⟨h2,h3⟩ | ⟨v,hv,hP,h3⟩
  ·rcases w1 h2 with⟨h4,_⟩ | ⟨a,ha,hP,h4⟩
   ·cases h4
   ·obtain⟨v,hv,rfl⟩:=List.mem_map.1 ha
    refine⟨v,hmemR v (List.mem_filter.1 hv).1 ?_,by rw [h3,h4,accOf_seq]⟩
    unfold victA at hP
    simp only [Bool.and_eq_true,decide_eq_true_eq] at hP
    have:=hP.1.2
    rw [accOf_seq] at this
    exact this
  ·refine⟨v,hmemR v hv ?_,h3⟩
   unfold victU at hP
   simp only [Bool.and_eq_true,decide_eq_true_eq] at hP
   exact hP.1
 have F2:∀ v∈R,overB v.pc u'.commit.at_ u'.commit.many=true→f.2=true∧f.1≤v.seq:=fun v hv ho=>
  f2 v (by simp [hv]) (by unfold victU;rw [ho,decide_eq_true (by have:=(seqs_split hsq').2 v hv;exact this)];rfl)
 have F3:∀ v∈R,memB v=true→victA (accS u') (accOf C.words v)=true→f.2=true∧f.1≤v.seq:=fun v hv hm hP=>by
  have:=w2 (accOf C.words v) (List.mem_map.2 ⟨v,List.mem_filter.2 ⟨by simp [hv],hm⟩,rfl⟩) hP
  obtain⟨g1,g2⟩:=f3 this.1
  rw [accOf_seq] at this
  exact⟨g1,by omega⟩
 have see:∀ X Y,R=X++Y→(∀ v∈X,f.2=true→v.seq<f.1)→(∀ X1 v X2,X=X1++v::X2→seeAt (known (L++u'::X1)) C.mem v.seq v.pc=seeAt (known (L++u::X1)) C.mem v.seq v.pc) ∧
   (∀ X1 v X2,X=X1++v::X2→loadsB v.ins=true→v.state=2→loadX (known (L++u'::X1)) C.mem v (C.word v.a)=loadX (known (L++u::X1)) C.mem v (C.word v.a)):=by
  intro X Y hR hlt
  refine⟨fun X1 v X2 e=>?_,fun X1 v X2 e hl hs2=>?_⟩
  ·have hvR:v∈R:=by rw [hR,e];simp
   refine fetch_store hk0 (by rw [hu'];exact hk) (by rw [hu'];exact hmany) ?_
   rcases ho:overB v.pc u'.commit.at_ u'.commit.many with _ | _
   ·rfl
   ·obtain⟨g1,g2⟩:=F2 v hvR ho
    have:=hlt v (by rw [e];simp) g1
    omega
  ·have hvR:v∈R:=by rw [hR,e];simp
   have hOv:=h.ops (L++u::X1) v (X2++Y) (by rw [d.ops,hR,e];simp)
   have hcv:v.cause=0:=by
    rcases Decidable.em (v.cause=0) with hc | hc
    ·exact hc
    ·exfalso
     have hff:=hOv.fetch
     have hop:=loads_op.1 hl
     have hins:v.ins=insN:=by
      have e1:v.ins=(seeAt (known (L++u::X1)) C.mem v.seq v.pc).1:=congrArg Prod.fst hff
      have e2:v.cause=(seeAt (known (L++u::X1)) C.mem v.seq v.pc).2:=congrArg Prod.snd hff
      rw [e1]
      rw [e2] at hc
      unfold seeAt at hc ⊢
      split
      ·rename_i hsee
       rw [if_pos hsee] at hc
       unfold fetchP at hc ⊢
       split
       ·rename_i hld
        rw [if_pos hld] at hc
        cases hdd:decP (loadP (bytesOf (seeP (known (L++u::X1)) C.mem v.seq v.pc 4).1) 13 0).1 with
        |none=>rfl
        |some i=>rw [hdd] at hc;exact absurd rfl hc
       ·rfl
      ·rfl
     rw [hins] at hop
     have:insN.op=0:=rfl
     omega
   refine loadX_store hk0 (by rw [hu'];exact hk) hl h.room fun hok=>?_
   have hcs:v.commit.state=0:=by
    rw [hOv.com hcv hs2]
    unfold execP
    rw [if_pos hl]
    exact(loadX_state hl _ _ _).2 hok
   have hkv:stKnown v=false:=by
    unfold stKnown
    rcases e:storesB v.ins with _ | _
    ·rfl
    ·have:=stores_op.1 e;have:=loads_op.1 hl;omega
   have hav:accOf C.words v=⟨v.seq,false,true,u32 (C.word v.a+v.ins.imm),loadBytes v.ins.op,0,true⟩:=by
    unfold accOf
    rw [hkv,if_neg (by simp),if_pos ⟨hl,hs2,hcs⟩]
    rfl
   rw [←hav]
   rcases hmm:meetB (accS u') (accOf C.words v) with _ | _
   ·rfl
   ·have hP:victA (accS u') (accOf C.words v)=true:=by
     unfold victA
     rw [hmm,hav]
     have:(accS u').seq<v.seq:=(seqs_split hsq').2 v hvR
     simp [this]
    obtain⟨g1,g2⟩:=F3 v hvR (by unfold memB;rw [hl];rfl) hP
    have:=hlt v (by rw [e];simp) g1
    omega
 have hpch:PChain C.hart.pc (L++u'::R) C.pc:=by
  have:=h.pcs
  rw [d.ops] at this
  exact PChain.put (u:=u) (u':=u') (by rw [hu'];rfl) (by rw [hu'];rfl) (by rw [hu'];exact hstop.trans (stop_one d.cause d.st).symm) this
 obtain⟨hwl,htl⟩:=d.words h
 rw [hw] at hwl
 rw [ht] at htl
 have hgot:0<u.dest→C.there.getD u.dest.toNat false=true∧C.words.getD u.dest.toNat 0=(execP C L u).value:=fun hd=>by have:=d.store hst;omega
 have hcore:coreD C L R u (execP C L u) u' (entD C u (execP C L u))={ C with access:=((L++u'::R).filter memB).map (gD C u (entD C u (execP C L u))),ops:=L++u'::R,slots:=(L++u'::R).map slotOf }:=by
  unfold coreD
  rw [hw,ht]
 have hop:Core.op (coreD C L R u (execP C L u) u' (entD C u (execP C L u))) L.length=u':=Core.op_at rfl
 rw [←hu']
 unfold storedP
 rw [hop]
 simp only [hacc]
 have hopsD:(coreD C L R u (execP C L u) u' (entD C u (execP C L u))).ops=L++u'::R:=rfl
 rw [hopsD,hw0,hf]
 rw [hcore]
 show Kept C (if f.2=true then backP { C with ops:=L++u'::R,slots:=(L++u'::R).map slotOf,access:=((L++u'::R).filter memB).map (accOf C.words) } f.1 ((L++u'::R).getD (findU (L++u'::R) f.1).toNat uopZ).pc
  else { C with ops:=L++u'::R,slots:=(L++u'::R).map slotOf,access:=((L++u'::R).filter memB).map (accOf C.words) }) L R u
 have hu2:u'={ u with state:=2,commit:=execP C L u,next:=u'.next }:=by rw [hu'];rfl
 have hstop':stopB u'=false:=by rw [hu'];exact hstop
 have hn':u'.next=u.next:=by rw [hu'];rfl
 have hl':lastB u'=true→False:=fun hh=>by rw [hu',hlast] at hh;cases hh
 split
 ·rename_i hft
  obtain⟨v,hvR,hfv⟩:=F1 hft
  obtain⟨X,Y,hR⟩:=List.append_of_mem hvR
  have hsX:=hsq'
  rw [hR] at hsX
  have e1:L++u'::(X++v::Y)=(L++u'::X)++v::Y:=by simp
  rw [e1] at hsX
  have hlt:∀ x∈L++u'::X,x.seq<v.seq:=(seqs_split hsX).1
  have hgt:∀ x∈Y,v.seq<x.seq:=(seqs_split hsX).2
  obtain⟨s1,s2⟩:=see X (v::Y) hR (fun x hx _=>by rw [hfv];exact hlt x (by simp [hx]))
  have hpcv:((L++u'::R).getD (findU (L++u'::R) f.1).toNat uopZ).pc=v.pc:=by
   rw [hR,e1,hfv,got_at hsX]
  have hOv:=h.ops (L++u::X) v Y (by rw [d.ops,hR];simp)
  obtain⟨N0,hgN,_,hcN,_⟩:=h.names
  rw [d.ops,hR] at hcN
  have e2:L++u::(X++v::Y)=(L++u::X)++v::Y:=by simp
  rw [e2] at hcN
  obtain⟨K,_,hK,hNk,hc1,hK',hc2⟩:=chain_regs hcN hgN rfl
  have hc3:NChain K (v::Y) C.names:=⟨hNk,by rw [←hK'];exact hc2⟩
  have hpY:(v::Y).Pairwise (fun u v=>u.seq<v.seq):=(List.pairwise_append.1 hsX).2.1
  have hM:∀ N,NChain N (L++u::X++v::Y) C.names→NGood N→NChain N (L++u::X) K:=by
   intro N hN hg
   obtain⟨K2,hd1,hd2⟩:=NChain.append.1 hN
   rw [chain_same hc3 hd2 hK (hd1.good hg) hpY]
   exact hd1
  rw [hpcv]
  have hb:=back_eq (c:={ C with ops:=L++u'::R,slots:=(L++u'::R).map slotOf,access:=((L++u'::R).filter memB).map (accOf C.words) }) (A:=L++u'::X) (B:=v::Y) (K:=K) (g:=accOf C.words) (s:=f.1) v.pc
   (by show L++u'::R=_;rw [hR,e1]) (by show(L++u'::R).map slotOf=_;rw [hR,e1]) hsX (fun x hx=>by rw [hfv];exact hlt x hx) (fun x hx=>by
    rw [hfv]
    rcases List.mem_cons.1 hx with rfl | hx
    ·omega
    ·have:=hgt x hx;omega) (accOf_seq _) (by show((L++u'::R).filter memB).map _=_;rw [hR,e1]) hc3 hK
  rw [hb]
  have hI:=h.done (X:=X) (Y:=v::Y) (by rw [d.ops,hR]) d.st hu2 C.words C.there hwl htl (fun p _ _=>⟨rfl,rfl⟩) hgot (fun _ hd=>by have:=d.store hst;omega) K hM s1 s2 v.pc (C.backs+1) false
   (by
    have:=hpch
    rw [hR,e1] at this
    exact this.cut.1)
   hOv.pc (by rw [hn'];exact d.ok.next) (fun _=>by rw [hn',hm2]) (fun hh=>by rw [hn'];exact d.ok.nextS d.cause hh) (fun hh=>(hl' hh).elim) (fun hh=>by cases hh)
  exact⟨hI,⟨u',X,v::Y,hR,rfl,by rw [hu'];rfl,i6⟩,rfl,rfl,rfl,⟨rfl,rfl,rfl⟩,rfl,rfl,⟨by show C.backs≤C.backs+1;omega,Int.le_refl _⟩,rfl⟩
 ·rename_i hft
  obtain⟨s1,s2⟩:=see R [] (by simp) (fun x _ hh=>absurd hh hft)
  have hI:=h.done (X:=R) (Y:=[]) (by rw [List.append_nil];exact d.ops) d.st hu2 C.words C.there hwl htl (fun p _ _=>⟨rfl,rfl⟩) hgot (fun _ hd=>by have:=d.store hst;omega) C.names (fun N hN _=>by rw [List.append_nil] at hN;exact hN) s1 s2 C.pc C.backs C.still
   hpch h.pc (by rw [hn'];exact d.ok.next) (fun _=>by rw [hn',hm2]) (fun hh=>by rw [hn'];exact d.ok.nextS d.cause hh) (fun hh=>(hl' hh).elim) (fun _ _ hh=>hh)
  exact⟨hI,⟨u',R,[],by simp,rfl,by rw [hu'];rfl,i6⟩,rfl,rfl,rfl,⟨rfl,rfl,rfl⟩,rfl,rfl,⟨Int.le_refl _,by show C.backs≤C.backs+1;omega⟩,rfl⟩
theorem complete_kept {C:Core} (h:Inv C) {L R:List Uop} {u:Uop} (ho:C.ops=L++u::R) (h1:u.state=1):Kept C (completeP C L.length) L R u:=by
 have d:=doneAt h ho h1
 rw [complete_eq h ho h1]
 simp only
 have hgl:storesB u.ins=true∨aloneB u.ins=true→(execP C L u).state=0→missP C L u=false:=by
  intro hh h0
  have hsa:(storesB u.ins || aloneB u.ins)=true:=by rcases hh with e | e<;>simp [e]
  have hnl:¬ loadsB u.ins=true:=by
   intro hl
   have:=loads_op.1 hl
   rcases hh with e | e
   ·have:=stores_op.1 e;omega
   ·have:=alone_op.1 e;omega
  have hg:u.guessed=false:=by
   rcases e:u.guessed with _ | _
   ·rfl
   ·exact absurd (d.ok.gs e).2.2 hnl
  unfold missP
  rw [hg,exec_next hsa h0,d.ok.nextS d.cause hsa]
  simp
 split
 ·rename_i h0
  have hk:stKnown (uD u (execP C L u))=false:=by
   unfold stKnown uD
   simp [h0]
  have hstop:stopB (uD u (execP C L u))=true:=by
   unfold stopB uD
   simp [h0]
  exact back_kept h d (u':=uD u (execP C L u)) rfl hk u.pc true d.ok.pc (fun hh=>by rw [hstop] at hh;cases hh) d.ok.next (fun hh=>by rw [hstop] at hh;cases hh) (d.ok.nextS d.cause) (fun _=>rfl)
 ·rename_i h0
  have h0:(execP C L u).state=0:=Decidable.not_not.1 h0
  rcases hm:missP C L u with _ | _
  ·rcases hst:storesB u.ins with _ | _
   ·simp only [Bool.false_eq_true,if_false]
    exact stay_kept h d hst h0 hm
   ·simp only [Bool.false_eq_true,if_false,if_true]
    exact store_kept h d hst h0 hm
  ·have hst:storesB u.ins=false:=by
    rcases e:storesB u.ins with _ | _
    ·rfl
    ·rw [hgl (Or.inl e) h0] at hm;cases hm
   have hal:aloneB u.ins=false:=by
    rcases e:aloneB u.ins with _ | _
    ·rfl
    ·rw [hgl (Or.inr e) h0] at hm;cases hm
   rw [hst]
   simp only [Bool.false_eq_true,if_false,if_true]
   obtain⟨u',hu'⟩:∃ u',u'=({ uD u (execP C L u) with next:=(execP C L u).next }:Uop):=⟨_,rfl⟩
   rw [←hu']
   have hk:stKnown u'=false:=by rw [hu'];unfold stKnown uD;simp [hst]
   have hstop:stopB u'=false:=by rw [hu'];unfold stopB uD;simp [d.cause,h0]
   have hlast:lastB u'=false:=by unfold lastB;rw [hstop,hu'];exact(by rw [show aloneB (uD u (execP C L u)).ins=aloneB u.ins from rfl,hal];rfl)
   have hn:u'.next=(execP C L u).next:=by rw [hu']
   have hkk:=back_kept h d (u':=u') (by rw [hu'];rfl) hk (execP C L u).next false d.nx (fun _=>hn) (by rw [hn];exact d.nx) (fun _=>hn) (fun hh=>by rw [hst,hal] at hh;cases hh) (fun hh=>by rw [hlast] at hh;cases hh)
   exact hkk
end Go.Proofs.Ytapgojgcmlnbgac
