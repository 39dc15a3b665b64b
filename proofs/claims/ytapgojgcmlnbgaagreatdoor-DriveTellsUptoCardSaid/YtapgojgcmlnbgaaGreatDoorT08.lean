/- Parts of a proof. -/
import Derived.Test.YtapgojgcmlnbgaaGreatDoorTZ
import Derived.Test.YtapgojgcmlnbgaaGreatDoorT07
set_option linter.unusedSimpArgs false
set_option linter.unusedVariables false
set_option maxRecDepth 100000
set_option maxHeartbeats 16000000
namespace Go.Proofs.YtapgojgcmlnbgaaGreatDoor
open Go
theorem Ajy {pc at_ many:Int} (_hm:many=1∨many=2∨many=4) (h:Vf pc at_ many=false) {u:Uop} (h1:u.commit.at_=at_) (h2:u.commit.many=many) {q:Int} (q1:pc≤q) (q2:q<pc+4):hasB (G5 u) q=false:=by
 rcases hh:hasB (G5 u) q with _ | _
 ·rfl
 ·exfalso
  unfold hasB G5 G0 at hh
  rw [h1,h2] at hh
  unfold Vf at h
  simp at hh h
  omega
theorem Yc {L X:List Uop} {u u':Uop} (h:A4 u=false) (h':A4 u'=true) {m:List Int} {seq p many:Int} (hq:∀ q,p≤q→q<p+4→(many=1→q<p+1)→(many=2→q<p+2)→hasB (G5 u') q=false) :
  (Eb (known (L++u'::X)) m seq p many).1=(Eb (known (L++u::X)) m seq p many).1∧(Eb (known (L++u'::X)) m seq p many).2.1=(Eb (known (L++u::X)) m seq p many).2.1:=
 Pv rfl fun q q1 q2 q3 q4=>Aci h h' m seq q (hq q q1 q2 q3 q4)
theorem Aap {L X:List Uop} {u u' v:Uop} (h:A4 u=false) (h':A4 u'=true) {m:List Int} (hm:u'.commit.many=1∨u'.commit.many=2∨u'.commit.many=4) (ho:Vf v.pc u'.commit.at_ u'.commit.many=false) :
  Dr (known (L++u'::X)) m v.seq v.pc=Dr (known (L++u::X)) m v.seq v.pc:=by
 obtain⟨e1,e2⟩:=Yc (L:=L) (X:=X) h h' (m:=m) (seq:=v.seq) (p:=v.pc) (many:=4) fun q q1 q2 _ _=>Ajy hm ho rfl rfl q1 q2
 unfold Dr
 rw [e1,e2]
theorem Aa7 {L X:List Uop} {u u' v:Uop} {w:Int} (h:A4 u=false) (h':A4 u'=true) {m:List Int} (hl:Bp v.ins=true) (hlen:m.length≤4096)
  (hv:Gv m (u32 (w+v.ins.imm)) (loadBytes v.ins.op)=true→Qx (G5 u') ⟨v.seq,false,true,u32 (w+v.ins.imm),loadBytes v.ins.op,0,true⟩=false) :
  Ku (known (L++u'::X)) m v w=Ku (known (L++u::X)) m v w:=by
 rw [J5 hl,J5 hl]
 split
 ·rename_i hok
  have hmeet:=hv hok
  have hb:=J4 (D5.1 hl)
  have hok':=hok
  unfold Gv Cu at hok'
  simp only [Bool.and_eq_true,decide_eq_true_eq,Bool.or_eq_true] at hok'
  have hu:=Da (w+v.ins.imm)
  obtain⟨e1,_⟩:=Yc (L:=L) (X:=X) h h' (m:=m) (seq:=v.seq) (p:=u32 (w+v.ins.imm)) (many:=loadBytes v.ins.op) fun q q1 q2 q3 q4=>by
   rcases hh:hasB (G5 u') q with _ | _
   ·rfl
   ·exfalso
    refine Ajr hmeet hh ?_
    have hmi:G0 (loadBytes v.ins.op)=loadBytes v.ins.op:=by unfold G0;omega
    unfold hasB
    rw [hmi]
    simp
    omega
  rw [e1]
 ·rfl
theorem Adq {C:Core} (h:Inv C) {L R:List Uop} {u:Uop} (d:Fy C L R u) (hst:A0 u.ins=true) (h0:(Ac C L u).state=0) (hmiss:O7 C L u=false) :
  Kept C (E8 (B9 C L R u (Ac C L u) (uD u (Ac C L u)) (Cf C u (Ac C L u))) L.length) L R u:=by
 have hw:Eu C u (Ac C L u).value=C.words:=by unfold Eu;rw [d.store hst];rfl
 have ht:Iv C u=C.there:=by unfold Iv;rw [d.store hst];rfl
 have hsq:=h.seqs
 rw [d.ops] at hsq
 have hm2:(Ac C L u).next=u.next:=by
  unfold O7 at hmiss
  simp only [Bool.or_eq_false_iff,decide_eq_false_iff_not,Decidable.not_not] at hmiss
  exact hmiss.2
 have hk:A4 (uD u (Ac C L u))=true:=by unfold A4 uD;simp only [hst,h0];rfl
 have hk0:A4 u=false:=by unfold A4;rw [d.st];simp
 have hmemu:Be u=true:=by unfold Be;rw [hst,Bool.or_true]
 have hstop:Cv (uD u (Ac C L u))=false:=by unfold Cv uD;simp only [d.cause,h0];rfl
 have hal:Ba u.ins=false:=by
  rcases e:Ba u.ins with _ | _
  ·rfl
  ·have:=Lf.1 e;have:=Ff.1 hst;omega
 have hlo:Bp u.ins=false:=by
  rcases e:Bp u.ins with _ | _
  ·rfl
  ·have:=D5.1 e;have:=Ff.1 hst;omega
 have hlast:Er (uD u (Ac C L u))=false:=by unfold Er;rw [hstop];exact(by rw [show Ba (uD u (Ac C L u)).ins=Ba u.ins from rfl,hal];rfl)
 have hmany:(uD u (Ac C L u)).commit.many=1∨(uD u (Ac C L u)).commit.many=2∨(uD u (Ac C L u)).commit.many=4:=by
  show(Ac C L u).many=1∨(Ac C L u).many=2∨(Ac C L u).many=4
  have hx:Ac C L u=Cl u.ins (Ed C u) C.mem:=by unfold Ac;rw [if_neg (by rw [hlo];simp)]
  rw [hx] at h0 ⊢
  rw [(Nt _ _ hst h0).1]
  show Fl _=1∨Fl _=2∨Fl _=4
  unfold Fl
  (repeat' split)<;>omega
 obtain⟨u',hu'⟩:∃ u',u'=uD u (Ac C L u):=⟨_,rfl⟩
 have i6:u'.seq=u.seq:=by rw [hu'];rfl
 have hsq':(L++u'::R).Pairwise (fun u v=>u.seq<v.seq):=by
  rw [List.pairwise_append,List.pairwise_cons] at hsq ⊢
  obtain⟨p1,⟨p2,p3⟩,p4⟩:=hsq
  refine⟨p1,⟨fun v hv=>by rw [i6];exact p2 v hv,p3⟩,fun a ha b hb=>?_⟩
  rcases List.mem_cons.1 hb with rfl | hb
  ·rw [i6];exact p4 a ha u (by simp)
  ·exact p4 a ha b (by simp [hb])
 have hmem':Be u'=true:=by rw [hu'];exact hmemu
 have haS:Bf C.words u'=G5 u':=by unfold Bf;rw [if_pos (by rw [hu'];exact hk)]
 have hacc:(B9 C L R u (Ac C L u) u' (Cf C u (Ac C L u))).access.set (Jh (B9 C L R u (Ac C L u) u' (Cf C u (Ac C L u))).access u'.seq).toNat
   { (B9 C L R u (Ac C L u) u' (Cf C u (Ac C L u))).access.getD (Jh (B9 C L R u (Ac C L u) u' (Cf C u (Ac C L u))).access u'.seq).toNat default with known:=true,at_:=u'.commit.at_,many:=u'.commit.many,data:=u'.commit.data }=((L++u'::R).filter Be).map (Bf C.words):=by
  have hac:(B9 C L R u (Ac C L u) u' (Cf C u (Ac C L u))).access=((L++u'::R).filter Be).map (gD C u (Cf C u (Ac C L u))):=rfl
  have hgu:gD C u (Cf C u (Ac C L u)) u'=⟨u.seq,true,false,0,0,0,false⟩:=by
   unfold gD Cf
   rw [if_pos i6,if_neg (by rw [hlo];simp),hst,i6]
  obtain⟨q1,q2,q3⟩:=T2 (g:=gD C u (Cf C u (Ac C L u))) (L:=L) (R:=R) hmem' (Ut C u _) (fun v hv=>by rw [i6];exact(Gs hsq).1 v hv) (G5 u')
  rw [hac,q1,q2,hgu]
  have:({ (⟨u.seq,true,false,0,0,0,false⟩:Acc) with known:=true,at_:=u'.commit.at_,many:=u'.commit.many,data:=u'.commit.data }:Acc)=G5 u':=by unfold G5;rw [i6]
  rw [this,q3,Oh (Gs hsq).1,Oh (Gs hsq).2,List.filter_append,List.filter_cons_of_pos hmem',List.map_append,List.map_cons,haS]
 have hwr:Ix (((L++u'::R).filter Be).map (Bf C.words)) u'.seq=(((L++u'::R).filter Be).map (Bf C.words)).foldl (Fo (Td (G5 u')) (·.seq)) (0,false):=by
  unfold Ix
  generalize hl0:((L++u'::R).filter Be).map (Bf C.words)=l0
  have e:((L++u'::R).filter Be).map (Bf C.words)=(L.filter Be).map (Bf C.words)++G5 u'::(R.filter Be).map (Bf C.words):=by
   rw [List.filter_append,List.filter_cons_of_pos hmem',List.map_append,List.map_cons,haS]
  rw [←hl0]
  conv=>lhs;arg 3;rw [e]
  rw [V8 _ (s:=G5 u') (by unfold I3 G5;simp) (fun x hx=>by
   obtain⟨v,hv,rfl⟩:=List.mem_map.1 hx
   unfold I3
   rw [Ew,qG (by rw [i6];exact(Gs hsq).1 v (List.mem_filter.1 hv).1),Bool.and_false])]
  rfl
 have hmemR:∀ v∈L++u'::R,u'.seq<v.seq→v∈R:=by
  intro v hv hlt
  rcases List.mem_append.1 hv with hv | hv
  ·have:=(D1 hsq').1 v hv;omega
  ·rcases List.mem_cons.1 hv with rfl | hv
   ·omega
   ·exact hv
 obtain⟨w1,w2,_⟩:=Nx (Td (G5 u')) (·.seq) (((L++u'::R).filter Be).map (Bf C.words)) (0,false)
 rw [←hwr] at w1 w2
 obtain⟨f1,f2,f3⟩:=Nx (Ab5 u'.seq u'.commit.at_ u'.commit.many) (·.seq) (L++u'::R) (Ix (((L++u'::R).filter Be).map (Bf C.words)) u'.seq)
 rw [←Xj] at f1 f2 f3
 generalize hf:(L++u'::R).foldl (Dj u'.seq u'.commit.at_ u'.commit.many) (Ix (((L++u'::R).filter Be).map (Bf C.words)) u'.seq)=f at f1 f2 f3
 generalize hw0:Ix (((L++u'::R).filter Be).map (Bf C.words)) u'.seq=w0 at w1 w2 f1 f3 hf
 have F1:f.2=true→∃ v∈R,f.1=v.seq:=by
  intro ht'
  rcases f1 ht' with⟨h2,h3⟩ | ⟨v,hv,hP,h3⟩
  ·rcases w1 h2 with⟨h4,_⟩ | ⟨a,ha,hP,h4⟩
   ·cases h4
   ·obtain⟨v,hv,rfl⟩:=List.mem_map.1 ha
    refine⟨v,hmemR v (List.mem_filter.1 hv).1 ?_,by rw [h3,h4,Ew]⟩
    unfold Td at hP
    simp only [Bool.and_eq_true,decide_eq_true_eq] at hP
    have:=hP.1.2
    rw [Ew] at this
    exact this
  ·refine⟨v,hmemR v hv ?_,h3⟩
   unfold Ab5 at hP
   simp only [Bool.and_eq_true,decide_eq_true_eq] at hP
   exact hP.1
 have F2:∀ v∈R,Vf v.pc u'.commit.at_ u'.commit.many=true→f.2=true∧f.1≤v.seq:=fun v hv ho=>
  f2 v (by simp [hv]) (by unfold Ab5;rw [ho,qF (by have:=(D1 hsq').2 v hv;exact this)];rfl)
 have F3:∀ v∈R,Be v=true→Td (G5 u') (Bf C.words v)=true→f.2=true∧f.1≤v.seq:=fun v hv hm hP=>by
  have:=w2 (Bf C.words v) (List.mem_map.2 ⟨v,List.mem_filter.2 ⟨by simp [hv],hm⟩,rfl⟩) hP
  obtain⟨g1,g2⟩:=f3 this.1
  rw [Ew] at this
  exact⟨g1,by omega⟩
 have see:∀ X Y,R=X++Y→(∀ v∈X,f.2=true→v.seq<f.1)→(∀ X1 v X2,X=X1++v::X2→Dr (known (L++u'::X1)) C.mem v.seq v.pc=Dr (known (L++u::X1)) C.mem v.seq v.pc) ∧
   (∀ X1 v X2,X=X1++v::X2→Bp v.ins=true→v.state=2→Ku (known (L++u'::X1)) C.mem v (C.word v.a)=Ku (known (L++u::X1)) C.mem v (C.word v.a)):=by
  intro X Y hR hlt
  refine⟨fun X1 v X2 e=>?_,fun X1 v X2 e hl hs2=>?_⟩
  ·have hvR:v∈R:=by rw [hR,e];simp
   refine Aap hk0 (by rw [hu'];exact hk) (by rw [hu'];exact hmany) ?_
   rcases ho:Vf v.pc u'.commit.at_ u'.commit.many with _ | _
   ·rfl
   ·obtain⟨g1,g2⟩:=F2 v hvR ho
    have:=hlt v (by rw [e];simp) g1
    omega
  ·have hvR:v∈R:=by rw [hR,e];simp
   have hOv:=h.ops (L++u::X1) v (X2++Y) (by rw [d.ops,hR,e];simp)
   have hcv:v.cause=0:=by
    rcases Decidable.em (v.cause=0) with hc | hc
    ·exact hc
    ·exfalso
     have hff:=hOv.fetch
     have hop:=D5.1 hl
     have hins:v.ins=Fz:=by
      have e1:v.ins=(Dr (known (L++u::X1)) C.mem v.seq v.pc).1:=congrArg Prod.fst hff
      have e2:v.cause=(Dr (known (L++u::X1)) C.mem v.seq v.pc).2:=congrArg Prod.snd hff
      rw [e1]
      rw [e2] at hc
      unfold Dr at hc ⊢
      split
      ·rename_i hsee
       rw [if_pos hsee] at hc
       unfold Dn at hc ⊢
       split
       ·rename_i hld
        rw [if_pos hld] at hc
        cases hdd:Ns (Dg (bytesOf (Eb (known (L++u::X1)) C.mem v.seq v.pc 4).1) 13 0).1 with
        |none=>rfl
        |some i=>rw [hdd] at hc;exact absurd rfl hc
       ·rfl
      ·rfl
     rw [hins] at hop
     have:Fz.op=0:=rfl
     omega
   refine Aa7 hk0 (by rw [hu'];exact hk) hl h.room fun hok=>?_
   have hcs:v.commit.state=0:=by
    rw [hOv.com hcv hs2]
    unfold Ac
    rw [if_pos hl]
    exact(Nv hl _ _ _).2 hok
   have hkv:A4 v=false:=by
    unfold A4
    rcases e:A0 v.ins with _ | _
    ·rfl
    ·have:=Ff.1 e;have:=D5.1 hl;omega
   have hav:Bf C.words v=⟨v.seq,false,true,u32 (C.word v.a+v.ins.imm),loadBytes v.ins.op,0,true⟩:=by
    unfold Bf
    rw [hkv,if_neg (by simp),if_pos ⟨hl,hs2,hcs⟩]
    rfl
   rw [←hav]
   rcases hmm:Qx (G5 u') (Bf C.words v) with _ | _
   ·rfl
   ·have hP:Td (G5 u') (Bf C.words v)=true:=by
     unfold Td
     rw [hmm,hav]
     have:(G5 u').seq<v.seq:=(D1 hsq').2 v hvR
     simp [this]
    obtain⟨g1,g2⟩:=F3 v hvR (by unfold Be;rw [hl];rfl) hP
    have:=hlt v (by rw [e];simp) g1
    omega
 have hpch:Eg C.hart.pc (L++u'::R) C.pc:=by
  have:=h.pcs
  rw [d.ops] at this
  exact Eg.put (u:=u) (u':=u') (by rw [hu'];rfl) (by rw [hu'];rfl) (by rw [hu'];exact hstop.trans (Abx d.cause d.st).symm) this
 obtain⟨hwl,htl⟩:=d.words h
 rw [hw] at hwl
 rw [ht] at htl
 have hgot:0<u.dest→C.there.getD u.dest.toNat false=true∧C.words.getD u.dest.toNat 0=(Ac C L u).value:=fun hd=>by have:=d.store hst;omega
 have hcore:B9 C L R u (Ac C L u) u' (Cf C u (Ac C L u))={ C with access:=((L++u'::R).filter Be).map (gD C u (Cf C u (Ac C L u))),ops:=L++u'::R,slots:=(L++u'::R).map B5 }:=by
  unfold B9
  rw [hw,ht]
 have hop:Core.op (B9 C L R u (Ac C L u) u' (Cf C u (Ac C L u))) L.length=u':=Core.op_at rfl
 rw [←hu']
 unfold E8
 rw [hop]
 simp only [hacc]
 have hopsD:(B9 C L R u (Ac C L u) u' (Cf C u (Ac C L u))).ops=L++u'::R:=rfl
 rw [hopsD,hw0,hf]
 rw [hcore]
 show Kept C (if f.2=true then F5 { C with ops:=L++u'::R,slots:=(L++u'::R).map B5,access:=((L++u'::R).filter Be).map (Bf C.words) } f.1 ((L++u'::R).getD (I6 (L++u'::R) f.1).toNat Bz).pc
  else { C with ops:=L++u'::R,slots:=(L++u'::R).map B5,access:=((L++u'::R).filter Be).map (Bf C.words) }) L R u
 have hu2:u'={ u with state:=2,commit:=Ac C L u,next:=u'.next }:=by rw [hu'];rfl
 have hstop':Cv u'=false:=by rw [hu'];exact hstop
 have hn':u'.next=u.next:=by rw [hu'];rfl
 have hl':Er u'=true→False:=fun hh=>by rw [hu',hlast] at hh;cases hh
 split
 ·rename_i hft
  obtain⟨v,hvR,hfv⟩:=F1 hft
  obtain⟨X,Y,hR⟩:=List.append_of_mem hvR
  have hsX:=hsq'
  rw [hR] at hsX
  have e1:L++u'::(X++v::Y)=(L++u'::X)++v::Y:=by simp
  rw [e1] at hsX
  have hlt:∀ x∈L++u'::X,x.seq<v.seq:=(D1 hsX).1
  have hgt:∀ x∈Y,v.seq<x.seq:=(D1 hsX).2
  obtain⟨s1,s2⟩:=see X (v::Y) hR (fun x hx _=>by rw [hfv];exact hlt x (by simp [hx]))
  have hpcv:((L++u'::R).getD (I6 (L++u'::R) f.1).toNat Bz).pc=v.pc:=by
   rw [hR,e1,hfv,Ahq hsX]
  have hOv:=h.ops (L++u::X) v Y (by rw [d.ops,hR];simp)
  obtain⟨N0,hgN,_,hcN,_⟩:=h.names
  rw [d.ops,hR] at hcN
  have e2:L++u::(X++v::Y)=(L++u::X)++v::Y:=by simp
  rw [e2] at hcN
  obtain⟨K,_,hK,hNk,hc1,hK',hc2⟩:=Ga hcN hgN rfl
  have hc3:Bq K (v::Y) C.names:=⟨hNk,by rw [←hK'];exact hc2⟩
  have hpY:(v::Y).Pairwise (fun u v=>u.seq<v.seq):=(List.pairwise_append.1 hsX).2.1
  have hM:∀ N,Bq N (L++u::X++v::Y) C.names→Do N→Bq N (L++u::X) K:=by
   intro N hN hg
   obtain⟨K2,hd1,hd2⟩:=Bq.append.1 hN
   rw [T8 hc3 hd2 hK (hd1.good hg) hpY]
   exact hd1
  rw [hpcv]
  have hb:=Aed (c:={ C with ops:=L++u'::R,slots:=(L++u'::R).map B5,access:=((L++u'::R).filter Be).map (Bf C.words) }) (A:=L++u'::X) (B:=v::Y) (K:=K) (g:=Bf C.words) (s:=f.1) v.pc
   (by show L++u'::R=_;rw [hR,e1]) (by show(L++u'::R).map B5=_;rw [hR,e1]) hsX (fun x hx=>by rw [hfv];exact hlt x hx) (fun x hx=>by
    rw [hfv]
    rcases List.mem_cons.1 hx with rfl | hx
    ·omega
    ·have:=hgt x hx;omega) (Ew _) (by show((L++u'::R).filter Be).map _=_;rw [hR,e1]) hc3 hK
  rw [hb]
  have hI:=h.done (X:=X) (Y:=v::Y) (by rw [d.ops,hR]) d.st hu2 C.words C.there hwl htl (fun p _ _=>⟨rfl,rfl⟩) hgot (fun _ hd=>by have:=d.store hst;omega) K hM s1 s2 v.pc (C.backs+1) false
   (by
    have:=hpch
    rw [hR,e1] at this
    exact this.cut.1)
   hOv.pc (by rw [hn'];exact d.ok.next) (fun _=>by rw [hn',hm2]) (fun hh=>by rw [hn'];exact d.ok.nextS d.cause hh) (fun hh=>(hl' hh).elim) (fun hh=>by cases hh)
  exact⟨hI,⟨u',X,v::Y,hR,rfl,by rw [hu'];rfl,i6⟩,rfl,rfl,rfl,⟨rfl,rfl,rfl⟩,rfl,rfl,⟨by show C.backs≤C.backs+1;omega,Int.le_refl _⟩,rfl⟩
 ·rename_i hft
  obtain⟨s1,s2⟩:=see R [] (by simp) (fun x _ hh=>absurd hh hft)
  have hI:=h.done (X:=R) (Y:=[]) (by rw [List.append_nil];exact d.ops) d.st hu2 C.words C.there hwl htl (fun p _ _=>⟨rfl,rfl⟩) hgot (fun _ hd=>by have:=d.store hst;omega) C.names (fun N hN _=>by rw [List.append_nil] at hN;exact hN) s1 s2 C.pc C.backs C.still
   hpch h.pc (by rw [hn'];exact d.ok.next) (fun _=>by rw [hn',hm2]) (fun hh=>by rw [hn'];exact d.ok.nextS d.cause hh) (fun hh=>(hl' hh).elim) (fun _ _ hh=>hh)
  exact⟨hI,⟨u',R,[],by simp,rfl,by rw [hu'];rfl,i6⟩,rfl,rfl,rfl,⟨rfl,rfl,rfl⟩,rfl,rfl,⟨Int.le_refl _,by show C.backs≤C.backs+1;omega⟩,rfl⟩
theorem Oy {C:Core} (h:Inv C) {L R:List Uop} {u:Uop} (ho:C.ops=L++u::R) (h1:u.state=1):Kept C (B6 C L.length) L R u:=by
 have d:=Akm h ho h1
 rw [Nm h ho h1]
 simp only
 have hgl:A0 u.ins=true∨Ba u.ins=true→(Ac C L u).state=0→O7 C L u=false:=by
  intro hh h0
  have hsa:(A0 u.ins || Ba u.ins)=true:=by rcases hh with e | e<;>simp [e]
  have hnl:¬ Bp u.ins=true:=by
   intro hl
   have:=D5.1 hl
   rcases hh with e | e
   ·have:=Ff.1 e;omega
   ·have:=Lf.1 e;omega
  have hg:u.guessed=false:=by
   rcases e:u.guessed with _ | _
   ·rfl
   ·exact absurd (d.ok.gs e).2.2 hnl
  unfold O7
  rw [hg,Xf hsa h0,d.ok.nextS d.cause hsa]
  simp
 split
 ·rename_i h0
  have hk:A4 (uD u (Ac C L u))=false:=by
   unfold A4 uD
   simp [h0]
  have hstop:Cv (uD u (Ac C L u))=true:=by
   unfold Cv uD
   simp [h0]
  exact W6 h d (u':=uD u (Ac C L u)) rfl hk u.pc true d.ok.pc (fun hh=>by rw [hstop] at hh;cases hh) d.ok.next (fun hh=>by rw [hstop] at hh;cases hh) (d.ok.nextS d.cause) (fun _=>rfl)
 ·rename_i h0
  have h0:(Ac C L u).state=0:=Decidable.not_not.1 h0
  rcases hm:O7 C L u with _ | _
  ·rcases hst:A0 u.ins with _ | _
   ·simp only [Bool.false_eq_true,if_false]
    exact Ags h d hst h0 hm
   ·simp only [Bool.false_eq_true,if_false,if_true]
    exact Adq h d hst h0 hm
  ·have hst:A0 u.ins=false:=by
    rcases e:A0 u.ins with _ | _
    ·rfl
    ·rw [hgl (Or.inl e) h0] at hm;cases hm
   have hal:Ba u.ins=false:=by
    rcases e:Ba u.ins with _ | _
    ·rfl
    ·rw [hgl (Or.inr e) h0] at hm;cases hm
   rw [hst]
   simp only [Bool.false_eq_true,if_false,if_true]
   obtain⟨u',hu'⟩:∃ u',u'=({ uD u (Ac C L u) with next:=(Ac C L u).next }:Uop):=⟨_,rfl⟩
   rw [←hu']
   have hk:A4 u'=false:=by rw [hu'];unfold A4 uD;simp [hst]
   have hstop:Cv u'=false:=by rw [hu'];unfold Cv uD;simp [d.cause,h0]
   have hlast:Er u'=false:=by unfold Er;rw [hstop,hu'];exact(by rw [show Ba (uD u (Ac C L u)).ins=Ba u.ins from rfl,hal];rfl)
   have hn:u'.next=(Ac C L u).next:=by rw [hu']
   have hkk:=W6 h d (u':=u') (by rw [hu'];rfl) hk (Ac C L u).next false d.nx (fun _=>hn) (by rw [hn];exact d.nx) (fun _=>hn) (fun hh=>by rw [hst,hal] at hh;cases hh) (fun hh=>by rw [hlast] at hh;cases hh)
   exact hkk
theorem E9.cnt_of {cs:Array Value} (h:E9 cs) (pc:Int):(Nk cs pc).Wf∧Zu cs (Qd pc) (Nk cs pc):=by
 obtain⟨c,hw,hc⟩:=h.cnt (Qd pc) (Qe pc)
 have:Nk cs pc=c:=by
  unfold Nk S0
  rw [hc.c0,hc.c1]
 rw [this]
 exact⟨hw,hc⟩
theorem E9.vl_of {cs:Array Value} (h:E9 cs) (pc:Int):(P1 cs pc).Wf∧Yh cs (vlK pc) (P1 cs pc):=by
 obtain⟨v,hw,hv⟩:=h.vl (vlK pc) (Mx pc)
 have:P1 cs pc=v:=by
  unfold P1 S0
  rw [hv.c0,hv.c1,hv.c2,hv.c3]
 rw [this]
 exact⟨hw,hv⟩
theorem Ae8 (m:List Int) (seq p:Int):Df [] m seq p=m.getD p.toNat 0:=rfl
theorem Pi {b0 b1 b2 b3:Int} (h0:0≤b0∧b0≤255) (h1:0≤b1∧b1≤255) (h2:0≤b2∧b2≤255) (h3:0≤b3∧b3≤255):bytesOf (b0+256*b1+65536*b2+16777216*b3)=[b0,b1,b2,b3]:=by
 unfold bytesOf
 simp only [List.cons.injEq,and_true]
 omega
theorem Abr {m:List Int} (hm:Bytes m) (seq:Int) {op p:Int} (ho:11≤op∧op≤15) (hp:0≤p) :
  Gv m p (Dh op)=(Dg m op p).2∧((Dg m op p).2=true→(Dg (bytesOf (Eb [] m seq p (Dh op)).1) op 0).1=(Dg m op p).1):=by
 have hs:=(J4 ho).2
 have e1:Gv m p (Dh op)=Cu m.length p (Dh op):=by
  unfold Gv
  have:(decide (Dh op=1) || decide (Dh op=2) || decide (Dh op=4))=true:=by simp;omega
  rw [this,Bool.true_and]
 have e2:(Dg m op p).2=Cu m.length p (Dh op):=by
  unfold Dg
  rw [qF ho.1,qF ho.2]
  simp only [Bool.true_and]
  split
  ·rename_i h;exact h.symm
  ·rename_i h;simp at h;exact h.symm
 refine⟨e1.trans e2.symm,fun hl=>?_⟩
 rw [e2] at hl
 have b0:=hm.getD p.toNat
 have b1:=hm.getD (p.toNat+1)
 have b2:=hm.getD (p.toNat+2)
 have b3:=hm.getD (p.toNat+3)
 have t1:(p+1).toNat=p.toNat+1:=by omega
 have t2:(p+2).toNat=p.toNat+2:=by omega
 have t3:(p+3).toNat=p.toNat+3:=by omega
 have hw:(Eb [] m seq p (Dh op)).1=Pw [] m seq p (Dh op):=by
  unfold Eb
  rw [e1,hl]
  rfl
 have hr:(Dg m op p).1=Lm m op p.toNat:=by
  unfold Dg
  rw [qF ho.1,qF ho.2]
  simp only [Bool.true_and]
  rw [hl]
  rfl
 have hq:∀ w,(Dg (bytesOf w) op 0).1=Lm (bytesOf w) op 0:=fun w=>by
  have:=R7 ho w
  unfold Dg at this ⊢
  split at this
  ·rename_i h
   rw [if_pos h]
   rfl
  ·cases this
 rw [hw,hr,hq]
 have z0:=Pi b0 (b1:=0) (b2:=0) (b3:=0) (by omega) (by omega) (by omega)
 have z1:=Pi b0 b1 (b2:=0) (b3:=0) (by omega) (by omega)
 have z3:=Pi b0 b1 b2 b3
 unfold Pw Lm
 simp only [Ae8,t1,t2,t3]
 generalize m.getD p.toNat 0=x0 at *
 generalize m.getD (p.toNat+1) 0=x1 at *
 generalize m.getD (p.toNat+2) 0=x2 at *
 generalize m.getD (p.toNat+3) 0=x3 at *
 obtain rfl | rfl | rfl | rfl | rfl:op=11∨op=12∨op=13∨op=14∨op=15:=by omega
 ·rw [if_pos (show Dh 11=1 from rfl)]
  simp only [Int.mul_zero,Int.add_zero] at z0
  rw [z0]
  rfl
 ·rw [if_neg (show ¬ Dh 12=1 by decide),if_pos (show Dh 12=2 from rfl)]
  simp only [Int.mul_zero,Int.add_zero] at z1
  rw [z1]
  rfl
 ·rw [if_neg (show ¬ Dh 13=1 by decide),if_neg (show ¬ Dh 13=2 by decide),z3]
  rfl
 ·rw [if_pos (show Dh 14=1 from rfl)]
  simp only [Int.mul_zero,Int.add_zero] at z0
  rw [z0]
  rfl
 ·rw [if_neg (show ¬ Dh 15=1 by decide),if_pos (show Dh 15=2 from rfl)]
  simp only [Int.mul_zero,Int.add_zero] at z1
  rw [z1]
  rfl
theorem Yb {m:List Int} (hm:Bytes m) (seq:Int) {pc:Int} (hp:0≤pc):Dr [] m seq pc=Dn m pc:=by
 obtain⟨e1,e2⟩:=Abr hm seq (op:=13) (p:=pc) (by omega) hp
 have e1:Gv m pc 4=(Dg m 13 pc).2:=e1
 unfold Dr
 rw [Oo,e1]
 split
 ·rename_i hl
  have e2:=e2 hl
  have e2:(Dg (bytesOf (Eb [] m seq pc 4).1) 13 0).1=(Dg m 13 pc).1:=e2
  unfold Dn
  rw [R7 (by omega),if_pos rfl,if_pos hl,e2]
 ·rename_i hl
  unfold Dn
  rw [if_neg hl]
theorem set_self (l:List Int) (k:Nat):l.set k (l.getD k 0)=l:=by
 by_cases h:k<l.length
 ·have:l.getD k 0=l[k]:=by simp [List.getD,qI h]
  rw [this,List.set_getElem_self]
 ·rw [List.set_eq_of_length_le (by omega)]
theorem Ahr {C:Core} (h:Inv C) {R:List Uop} {u:Uop} (ho:C.ops=u::R) (h2:u.state=2):u.commit=K3 C.hart C.mem∧u.pc=C.hart.pc:=by
 have hO:=h.ops [] u R ho
 obtain⟨N,hgN,_,hcN,hvN⟩:=h.names
 have hpc:=h.pcs
 rw [ho] at hcN hpc
 have hpc:u.pc=C.hart.pc:=hpc.1
 have hNk:NOk N u:=hcN.1
 have hf:=hO.fetch
 have hk:known []=[]:=rfl
 rw [hk,Yb h.bytes _ hO.pc.1,hpc] at hf
 refine⟨?_,hpc⟩
 unfold K3
 rw [←hf]
 split
 ·rename_i hc
  have hc:u.cause=0:=hc
  have hi:=Ho (Inv.insOk hO hc)
  obtain⟨s1,s2⟩:=hNk.src hc
  have ha:C.word u.a=C.hart.regs.getD u.ins.rs1.toNat 0:=by rw [s1];exact(hvN _ (by omega)).2
  have hb:C.word u.b=C.hart.regs.getD u.ins.rs2.toNat 0:=by rw [s2];exact(hvN _ (by omega)).2
  have hst:C.hart.state=0:=h.runs
  have hca:C.hart.cause=0:=by
   have:=h.may
   unfold Ip at this
   simp at this
   omega
  have hregs:Ed C u=C.hart:=by
   unfold Ed
   rw [ha,set_self,hb,set_self,hpc]
   have:∀ H:Aq,H.state=0→H.cause=0→(⟨H.regs,H.pc,0,0⟩:Aq)=H:=fun H h1 h2=>by
    obtain⟨a,b,c,d⟩:=H
    simp only at h1 h2
    rw [h1,h2]
   exact this _ hst hca
  rw [hO.com hc h2]
  unfold Ac
  split
  ·rename_i hl
   have hlo:=D5.1 hl
   rw [J5 hl,(J4 hlo).1,ha]
   obtain⟨e1,e2⟩:=Abr h.bytes u.seq hlo (Da (C.hart.regs.getD u.ins.rs1.toNat 0+u.ins.imm)).1
   rw [e1]
   unfold Cl
   simp only
   rw [if_pos hlo]
   have hreg:C.hart.reg u.ins.rs1=C.hart.regs.getD u.ins.rs1.toNat 0:=rfl
   rw [hreg,hpc]
   split
   ·rename_i hok
    unfold Tr
    rw [hk,e2 hok]
   ·rfl
  ·rw [hregs]
 ·rename_i hc
  have hc:u.cause≠0:=hc
  rw [(hO.fault hc).2.1,hpc]
theorem Aja {i:Ins} {h:Aq} {m:List Int} (hs:(Cl i h m).state=0):(Cl i h m).rd=if Bg i=true then i.rd else 0:=by
 have g1:16≤i.op∧i.op≤18→Bg i=false:=fun h=>by unfold Bg;simp [h.1,h.2]
 have g2:46≤i.op→Bg i=false:=fun h=>by unfold Bg;simp;omega
 unfold Cl at hs ⊢
 dsimp only at hs ⊢
 by_cases c1:11≤i.op∧i.op≤15
 ·rw [if_pos c1] at hs ⊢
  by_cases c2:(Dg m i.op (u32 (h.reg i.rs1+i.imm))).2=true
  ·rw [if_pos c2]
  ·rw [if_neg c2] at hs;exact absurd hs (by show ¬ ((2:Int)=0);decide)
 rw [if_neg c1] at hs ⊢
 by_cases c3:16≤i.op∧i.op≤18
 ·rw [if_pos c3] at hs ⊢
  rw [g1 c3]
  split<;>rfl
 rw [if_neg c3] at hs ⊢
 by_cases c4:i.op=48
 ·rw [if_pos c4] at hs;exact absurd hs (by show ¬ ((2:Int)=0);decide)
 rw [if_neg c4] at hs ⊢
 by_cases c5:i.op=47
 ·rw [if_pos c5] at hs ⊢
  rw [if_neg (h:=instDecidableEqBool (Bg i) true) (by rw [g2 (by omega)];decide)]
  (repeat' split)<;>rfl
 rw [if_neg c5] at hs ⊢
 by_cases c6:i.op=46
 ·rw [if_pos c6] at hs ⊢
  rw [g2 (by omega)]
  rfl
 rw [if_neg c6]
theorem Afp {i:Ins} {h:Aq} {m:List Int} (hi:A0 i=false):(Cl i h m).many=0:=by
 have c3:¬ (16≤i.op∧i.op≤18):=fun h=>by rw [Ff.2 h] at hi;cases hi
 unfold Cl
 dsimp only
 rw [if_neg c3]
 (repeat' split)<;>rfl
theorem Acu {i:Ins} {h h':Aq} {m m':List Int} (hl:Bp i=false) (ha:Ba i=false) (h1:h'.reg i.rs1=h.reg i.rs1) (h2:h'.reg i.rs2=h.reg i.rs2) (hp:h'.pc=h.pc) (hm:m'.length=m.length) :
  Cl i h' m'=Cl i h m:=by
 have c1:¬ (11≤i.op∧i.op≤15):=fun h=>by rw [D5.2 h] at hl;cases hl
 have c5:¬ i.op=47:=fun h=>by rw [Lf.2 (Or.inl h)] at ha;cases ha
 have ht:∀ c,By h'.pc c=By h.pc c:=fun c=>by rw [hp]
 unfold Cl
 dsimp only
 rw [if_neg c1,if_neg c1,if_neg c5,if_neg c5,h1,h2,hp,hm]
def Agu (t:Array Value) (u:Uop):Array Value:=
 if u.ins.op=4∨(5≤u.ins.op∧u.ins.op≤10) then Gm t (Nk t u.pc) u.pc (decide (u.commit.next≠u32 (u.pc+4))) u.commit.next
 else if Bp u.ins=true then Ek t (P1 t u.pc) u.pc u.commit.value
 else t
theorem Ol (c:Core) (u:Uop):K7 c u={ c with table:=Agu c.table u }:=by
 unfold K7 Agu
 split
 ·rfl
 ·split<;>rfl
theorem Aer {t:Array Value} (h:E9 t) {u:Uop} (hp:0≤u.pc∧u.pc≤4294967295) (hc:u.commit.Wf):E9 (Agu t u):=by
 unfold Agu
 split
 ·exact h.setCnt (Qe _) (Xx (h.cnt_of u.pc).1 _ hc.next.1 hc.next.2)
 ·split
  ·exact h.setVl (Mx _) (Om (h.vl_of u.pc).1 hp.1 hp.2 hc.value.1 hc.value.2)
  ·exact h
theorem Ve {N:Ax} (h:Do N) {u:Uop} (hu:NOk N u) (hd:0<u.dest):(0≤u.old∧u.old<N.phys)∧u.old ∉ (Dk N u).all:=by
 obtain⟨_,⟨r1,r2⟩,hf,ho⟩:=hu.dst hd
 have hl:u.ins.rd.toNat<N.regs.length:=by rw [h.len];omega
 have hm:=h.may
 unfold Ax.may Ax.all at hm
 rw [hf] at hm
 obtain⟨m1,m2,m3⟩:=Va hl hm
 rw [ho]
 refine⟨m2,?_⟩
 unfold Dk Ax.all
 rw [if_pos hd]
 exact m3
theorem Ah9 {N:Ax} {u:Uop} (hu:NOk N u):∀ p∈(Dk N u).all,p∈N.all:=by
 intro p hp
 unfold Dk at hp
 split at hp
 ·rename_i hd
  obtain⟨_,_,hf,_⟩:=hu.dst hd
  unfold Ax.all at hp ⊢
  rcases List.mem_append.1 hp with hp | hp
  ·rcases List.mem_or_eq_of_mem_set hp with hp | rfl
   ·exact List.mem_append_left _ hp
   ·exact List.mem_append_right _ (by rw [hf];simp)
  ·exact List.mem_append_right _ (List.mem_of_mem_tail hp)
 ·exact hp
theorem Bq.sub {M:Ax}:∀ {L:List Uop} {N:Ax},Bq N L M→∀ p∈M.all,p∈N.all
 |[],_,h=>by cases h;exact fun p hp=>hp
 |_::_,_,⟨h,h1⟩=>fun p hp=>Ah9 h p (h1.sub p hp)
theorem Vd (N:Ax) (u:Uop):(Dk N u).phys=N.phys:=by unfold Dk;split<;>rfl
def M1 (N:Ax) (u:Uop):Ax:=if 0<u.dest then addFree (Dk N u) u.old else N
theorem Afy {N M:Ax} {u:Uop} {R:List Uop} (h:Bq N (u::R) M) (hg:Do N):(if 0<u.dest then (Lk M u.old).getD Ax.zero else M)=(if 0<u.dest then addFree M u.old else M):=by
 split
 ·rename_i hd
  obtain⟨hu,h1⟩:=h
  obtain⟨o1,o2⟩:=Ve hg hu hd
  have hM:=h1.good (hg.next hu)
  have hot:Gy M u.old=true:=by
   unfold Gy
   rw [hM.may]
   simp only [Bool.true_and,Bool.and_eq_true,decide_eq_true_eq,Bool.not_eq_true']
   have hph:M.phys=N.phys:=by rw [h1.phys,Vd]
   exact⟨⟨o1.1,by rw [hph];exact o1.2⟩,qG fun hin=>o2 (h1.sub _ hin)⟩
  unfold Lk
  rw [if_pos hot]
  rfl
 ·rfl
theorem Acj {N M:Ax} {u:Uop} {R:List Uop} (h:Bq N (u::R) M):Bq (M1 N u) R (if 0<u.dest then addFree M u.old else M):=by
 obtain⟨hu,h1⟩:=h
 unfold M1
 split
 ·exact h1.addFree _
 ·rename_i hd
  unfold Dk at h1
  rw [if_neg hd] at h1
  exact h1
theorem Af2 {N:Ax} {u:Uop} (hg:Do N) (hu:NOk N u):Do (M1 N u):=by
 unfold M1
 split
 ·rename_i hd
  obtain⟨o1,o2⟩:=Ve hg hu hd
  have hn:=hg.next hu
  refine⟨hn.len,?_,hn.zero⟩
  have:=hn.may
  unfold Ax.may Ax.all at this ⊢
  exact Ah6 this (by show 0≤u.old∧u.old<(Dk N u).phys;rw [Vd];exact o1) o2
 ·exact hg
theorem Ahp {N:Ax} {u:Uop} (hu:NOk N u) (hl:N.all.length=N.phys.toNat):(M1 N u).all.length=(M1 N u).phys.toNat:=by
 unfold M1
 split
 ·rename_i hd
  obtain⟨_,_,hf,_⟩:=hu.dst hd
  unfold addFree Dk Ax.all
  rw [if_pos hd]
  show(_++(N.free.tail++[u.old])).length=N.phys.toNat
  rw [←hl]
  unfold Ax.all
  rw [hf]
  simp
 ·exact hl
theorem Af4 {N:Ax} (u:Uop) (hg:Do N) (hu:NOk N u) (r:Nat):(M1 N u).regs.getD r 0=if 0<u.dest∧u.ins.rd.toNat=r then u.dest else N.regs.getD r 0:=by
 unfold M1
 split
 ·rename_i hd
  obtain⟨_,⟨r1,r2⟩,hf,_⟩:=hu.dst hd
  unfold addFree Dk
  rw [if_pos hd]
  show(N.regs.set u.ins.rd.toNat u.dest).getD r 0=_
  rw [Fa]
  by_cases e:u.ins.rd.toNat=r
  ·rw [if_pos ⟨e,by rw [hg.len];omega⟩,if_pos ⟨hd,e⟩]
  ·rw [if_neg (fun h=>e h.1),if_neg (fun h=>e h.2)]
 ·rename_i hd
  rw [if_neg (fun h=>hd h.1)]
theorem En {C:Core} {R:List Uop} {u:Uop} (ho:C.ops=u::R) :
  Bn C={ C with
   ops:=R,hart:=Cw u.commit C.hart,mem:=C4 u.commit C.mem,commits:=C.commits++[u.commit],
   names:=if 0<u.dest then (Lk C.names u.old).getD Ax.zero else C.names,table:=Agu C.table u,
   access:=C.access.filter (fun a=>!decide (a.seq=u.seq)),still:=if Ba u.ins=true then false else C.still }:=by
 have hop:C.op 0=u:=by unfold Core.op;rw [ho];rfl
 unfold Bn
 dsimp only
 rw [Ol,hop,ho]
 rfl
theorem Ac7 {u:Uop} (h:A4 u=true) (L:List Uop):known (u::L)=G5 u::known L:=by
 unfold known
 rw [List.filter_cons_of_pos h]
 rfl
theorem Wn {u:Uop} (h:A4 u=false) (L:List Uop):known (u::L)=known L:=by
 unfold known
 rw [List.filter_cons_of_neg (by rw [h];simp)]
theorem Ae9 {u:Uop} {L:List Uop} {m:List Int} {seq q:Int} (hp:(u::L).Pairwise (fun u v=>u.seq<v.seq)) (hs:u.seq<seq) (hc:u.commit.Wf) (hf:A4 u=true→u.commit.at_+u.commit.many≤m.length) (hl:m.length≤4096)
  (hno:A4 u=false→u.commit.many=0) (hq:0≤q):Df (known L) (C4 u.commit m) seq q=Df (known (u::L)) m seq q:=by
 rcases hk:A4 u with _ | _
 ·rw [Wn hk]
  have:C4 u.commit m=m:=by
   unfold C4 Wv
   rw [hno hk]
   rfl
  rw [this]
 ·have hp':=Ac8 hp
  rw [Ac7 hk] at hp' ⊢
  have h1:=hc.many
  have h2:=hc.at_
  exact Yo (a:=G5 u) hp' rfl rfl hs h1 h2.1 (hf hk) hl hq
structure Ag8 (C:Core) (u:Uop) (R:List Uop):Prop where
 com:u.commit=K3 C.hart C.mem
 pc:u.pc=C.hart.pc
 wf:u.commit.Wf
 fits:u.commit.Fits C.mem.length
 hart:Cw u.commit C.hart=goH C.hart C.mem
 mem:C4 u.commit C.mem=goM C.hart C.mem
theorem Ac5 {C:Core} (h:Inv C) {R:List Uop} {u:Uop} (ho:C.ops=u::R) (h2:u.state=2):Ag8 C u R:=by
 obtain⟨e1,e2⟩:=Ahr h ho h2
 refine⟨e1,e2,?_,?_,?_,?_⟩
 ·rw [e1];exact Qf h.hart h.bytes
 ·rw [e1];exact Rt _ _
 ·rw [e1];rfl
 ·rw [e1];rfl
theorem Akr {l:List Int} {i:Int} {r:Nat} {x:Int} (hl:l.length=32) (h0:0≤i) (h1:i≤31):(l.set i.toNat x).getD r 0=if i.toNat=r then x else l.getD r 0:=by
 rw [Fa]
 by_cases e:i.toNat=r
 ·rw [if_pos ⟨e,by omega⟩,if_pos e]
 ·rw [if_neg (fun h=>e h.1),if_neg e]
theorem Aax {C:Core} (h:Inv C) {R:List Uop} {u:Uop} (ho:C.ops=u::R) (h2:u.state=2) (h0:(goH C.hart C.mem).state=0) :
  Inv { Bn C with slots:=R.map B5 }:=by
 have H:=Ac5 h ho h2
 have hO:=h.ops [] u R ho
 obtain⟨N,hgN,hlN,hcN,hvN⟩:=h.names
 rw [ho] at hcN
 have hNk:NOk N u:=hcN.1
 have hst0:u.commit.state=0:=by
  have:=H.hart
  rw [←this] at h0
  exact h0
 have hc0:u.cause=0:=by
  rcases Decidable.em (u.cause=0) with hc | hc
  ·exact hc
  ·have:=(hO.fault hc).2.1
   rw [this] at hst0
   exact absurd hst0 (by show ¬ ((2:Int)=0);decide)
 have hi:=Ho (Inv.insOk hO hc0)
 have hstop:Cv u=false:=by
  unfold Cv
  rw [hc0,hst0]
  simp
 have hpcs:=h.pcs
 rw [ho] at hpcs
 obtain⟨hp1,hp2⟩:=hpcs
 rw [hstop] at hp2
 rw [if_neg (by simp)] at hp2
 have hseqs:=h.seqs
 rw [ho] at hseqs
 have hcw:=H.wf
 have hdoes:u.commit=Cl u.ins C.hart C.mem:=by
  have hf:=hO.fetch
  have hk:known []=[]:=rfl
  rw [hk,Yb h.bytes _ hO.pc.1,H.pc] at hf
  rw [H.com]
  unfold K3
  rw [←hf]
  rw [if_pos (show(u.ins,u.cause).2=0 from hc0)]
 have hrd:u.commit.rd=if Bg u.ins=true then u.ins.rd else 0:=by
  rw [hdoes]
  rw [hdoes] at hst0
  exact Aja hst0
 have hmany:A4 u=false→u.commit.many=0:=by
  intro hk
  rcases hs:A0 u.ins with _ | _
  ·rw [hdoes];exact Afp hs
  ·unfold A4 at hk
   rw [hs,qF h2,qF hst0] at hk
   cases hk
 have hfit:A4 u=true→u.commit.at_+u.commit.many≤C.mem.length:=by
  intro hk
  rcases H.fits with hf | hf
  ·exfalso
   unfold A4 at hk
   simp only [Bool.and_eq_true] at hk
   have hs:=hk.1.1
   have:=Nt C.hart C.mem hs (by rw [←hdoes];exact hst0)
   rw [←hdoes] at this
   have e:=congrArg Com.many this.1
   have e:u.commit.many=Fl u.ins.op:=e
   rw [hf] at e
   unfold Fl at e
   split at e
   ·cases e
   ·split at e<;>cases e
  ·exact hf
 have hmlen:(C4 u.commit C.mem).length=C.mem.length:=I0 _ _
 rw [En ho,Afy (N:=N) (R:=R) hcN hgN]
 have hreg:∀ r,r<32→(Cw u.commit C.hart).regs.getD r 0=if 0<u.dest∧u.ins.rd.toNat=r then u.commit.value else C.hart.regs.getD r 0:=by
  intro r hr
  unfold Cw
  dsimp only
  rw [hrd]
  by_cases hd:0<u.dest
  ·obtain⟨⟨g1,_⟩,⟨r1,r2⟩,_,_⟩:=hNk.dst hd
   rw [if_pos g1,if_pos (show 0<u.ins.rd by omega),Akr h.hart.len (by omega) r2]
   by_cases e:u.ins.rd.toNat=r
   ·rw [if_pos e,if_pos ⟨hd,e⟩]
   ·rw [if_neg e,if_neg (fun h=>e h.2)]
  ·have hg:Bg u.ins=false:=by
    rcases hg:Bg u.ins with _ | _
    ·rfl
    ·exact absurd ⟨hg,hc0⟩ (hNk.nodst (by omega)).2
   rw [hg,if_neg (h:=instDecidableEqBool false true) (by decide),if_neg (by omega),if_neg (fun h=>hd h.1)]
 refine⟨h.cfg,N8 hcw h.hart,T4 hcw h.may,?_,Qa h.bytes,?_,Aer h.tab hO.pc hcw,h.words,h.there,rfl,(List.pairwise_cons.1 hseqs).2,?_,?_,?_,?_,h.seq0,h.pc,?_⟩
 ·show(Cw u.commit C.hart).state=0
  rw [H.hart];exact h0
 ·show(C4 u.commit C.mem).length≤4096
  rw [hmlen];exact h.room
 ·
  show C.access.filter (fun a=>!decide (a.seq=u.seq))=(R.filter Be).map (Bf C.words)
  rw [h.access,ho,List.filter_map,List.filter_filter]
  congr 1
  have e1:∀ v∈R,(((fun a:Acc=>!decide (a.seq=u.seq))∘Bf C.words) v&&Be v)=Be v:=fun v hv=>by
   have:=(List.pairwise_cons.1 hseqs).1 v hv
   simp only [Function.comp,Ew]
   rw [qG (by omega)]
   simp
  rw [List.filter_cons_of_neg (by simp [Ew]),List.filter_congr e1]
 ·refine⟨M1 N u,Af2 hgN hNk,Ahp hNk hlN,Acj hcN,fun r hr=>?_⟩
  show C.has ((M1 N u).regs.getD r 0)=true∧C.word ((M1 N u).regs.getD r 0)=(Cw u.commit C.hart).regs.getD r 0
  rw [Af4 u hgN hNk,hreg r hr]
  by_cases e:0<u.dest∧u.ins.rd.toNat=r
  ·rw [if_pos e,if_pos e]
   exact hO.d2 e.1 h2
  ·rw [if_neg e,if_neg e]
   exact hvN r hr
 ·show Eg u.commit.next R C.pc
  rw [←hO.nx h2 hstop]
  exact hp2
 ·have:=h.len
  rw [ho] at this
  show R.length≤C.window
  simp at this
  omega
 ·intro L v R' e
  have e:R=L++v::R':=e
  have hOv:=h.ops (u::L) v R' (by rw [ho,e];rfl)
  have hlt:u.seq<v.seq:=(List.pairwise_cons.1 hseqs).1 v (by rw [e];simp)
  have hpL:(u::L).Pairwise (fun u v=>u.seq<v.seq):=by
   rw [e] at hseqs
   exact hseqs.sublist (List.Sublist.cons_cons u (List.sublist_append_left L (v::R')))
  have hbyte:∀ q,0≤q→Df (known L) (C4 u.commit C.mem) v.seq q=Df (known (u::L)) C.mem v.seq q:=fun q hq=>Ae9 hpL hlt hcw hfit h.room hmany hq
  have hsee:∀ p many,0≤p→(Eb (known L) (C4 u.commit C.mem) v.seq p many).1=(Eb (known (u::L)) C.mem v.seq p many).1∧(Eb (known L) (C4 u.commit C.mem) v.seq p many).2.1=(Eb (known (u::L)) C.mem v.seq p many).2.1:=
   fun p many hp=>Pv hmlen fun q h1 _ _ _=>hbyte q (by omega)
  refine hOv.congr hOv.seq.2 (fun e=>by cases e) (fun e=>e) (fun hl hs=>?_) ?_ (fun _ _=>⟨fun h=>h,fun h=>h⟩) (fun _=>⟨rfl,rfl⟩) (fun hcv h2v=>?_)
  ·show(if Ba u.ins=true then false else C.still)=true
   rcases ha:Ba u.ins with _ | _
   ·exact hs
   ·have:=(hO.last (by unfold Er;rw [ha];rfl)).1
    rw [this] at e
    cases L<;>cases e
  ·show Dr (known L) (C4 u.commit C.mem) v.seq v.pc=_
   unfold Dr
   obtain⟨s1,s2⟩:=hsee v.pc 4 hOv.pc.1
   rw [s1,s2]
  ·have hlone:Ba v.ins=false:=by
    rcases ha:Ba v.ins with _ | _
    ·rfl
    ·have:=hOv.lone ha (by omega)
     cases this
   have hiv:=Ho (Inv.insOk hOv hcv)
   unfold Ac
   rcases hl:Bp v.ins with _ | _
   ·show Cl v.ins _ _=Cl v.ins _ _
    have hl32:(Cw u.commit C.hart).regs.length=32:=(N8 hcw h.hart).len
    have hset:∀ (l:List Int) (x y:Int) (i j r:Int),l.length=32→0≤i→i≤31→0≤j→j≤31→(r=i∨r=j)→((l.set i.toNat x).set j.toNat y).getD r.toNat 0=if r=j then y else x:=by
     intro l x y i j r hl hi0 hi1 hj0 hj1 hr
     rw [Fa,Fa]
     by_cases e:r=j
     ·rw [if_pos e,if_pos ⟨by rw [e],by simp;omega⟩]
     ·rcases hr with rfl | rfl
      ·rw [if_neg e,if_neg (fun h=>e (by omega)),if_pos ⟨rfl,by omega⟩]
      ·exact absurd rfl e
    refine Acu hl hlone ?_ ?_ rfl hmlen
    ·show(((Cw u.commit C.hart).regs.set v.ins.rs1.toNat (C.word v.a)).set v.ins.rs2.toNat (C.word v.b)).getD v.ins.rs1.toNat 0=((C.hart.regs.set v.ins.rs1.toNat (C.word v.a)).set v.ins.rs2.toNat (C.word v.b)).getD v.ins.rs1.toNat 0
     rw [hset _ _ _ _ _ _ hl32 (by omega) (by omega) (by omega) (by omega) (Or.inl rfl),hset _ _ _ _ _ _ h.hart.len (by omega) (by omega) (by omega) (by omega) (Or.inl rfl)]
    ·show(((Cw u.commit C.hart).regs.set v.ins.rs1.toNat (C.word v.a)).set v.ins.rs2.toNat (C.word v.b)).getD v.ins.rs2.toNat 0=((C.hart.regs.set v.ins.rs1.toNat (C.word v.a)).set v.ins.rs2.toNat (C.word v.b)).getD v.ins.rs2.toNat 0
     rw [hset _ _ _ _ _ _ hl32 (by omega) (by omega) (by omega) (by omega) (Or.inr rfl),hset _ _ _ _ _ _ h.hart.len (by omega) (by omega) (by omega) (by omega) (Or.inr rfl)]
   ·rw [if_pos rfl,if_pos rfl,J5 hl,J5 hl]
    obtain⟨s1,s2⟩:=hsee (u32 (C.word v.a+v.ins.imm)) (loadBytes v.ins.op) (Da _).1
    rw [Oo,Oo] at s2
    show(if Gv (C4 u.commit C.mem) (u32 (C.word v.a+v.ins.imm)) (loadBytes v.ins.op)=true then Tr v.ins v.pc (Eb (known L) (C4 u.commit C.mem) v.seq (u32 (C.word v.a+v.ins.imm)) (loadBytes v.ins.op)).1 else _)=_
    rw [s1,s2]
theorem T0.congr2 {C C':Core} {L L' R R':List Uop} {v:Uop} (h:T0 C L v R) (hq:v.seq<C'.seq)
  (hL:L=[]→L'=[]) (hst:Er v=true→R'=[]∧C'.still=true)
  (hf:Dr (known L') C'.mem v.seq v.pc=Dr (known L) C.mem v.seq v.pc)
  (hs:v.cause=0→v.state≠0→(C.has v.a=true→C'.has v.a=true)∧(C.has v.b=true→C'.has v.b=true))
  (hd:0<v.dest→C'.has v.dest=C.has v.dest∧C'.word v.dest=C.word v.dest)
  (hx:v.cause=0→v.state=2→Ac C' L' v=Ac C L v):T0 C' L' v R':=
 ⟨⟨h.seq.1,hq⟩,h.st,h.fault,h.cause,by rw [hf];exact h.fetch,h.pc,h.next,h.nextS,
  fun hc hn=>⟨(hs hc hn).1 (h.src hc hn).1,(hs hc hn).2 (h.src hc hn).2⟩,h.gs,
  fun h1 h2 h3=>h.d1 h1 h2 (by rw [←(hd h1).1];exact h3),fun h1 h2=>by rw [(hd h1).1,(hd h1).2];exact h.d2 h1 h2,
  fun h1 h2=>by rw [hx h1 h2];exact h.com h1 h2,h.nx,fun h1 h2=>hL (h.lone h1 h2),hst⟩
def Vn (C:Core) (u:Uop) (s:List Int) (pc:Int) (still:Bool):Core:=
 { C with
  slots:=(C.ops++[u]).map B5
  ops:=C.ops++[u]
  seq:=C.seq+1
  taken:=C.taken+1
  names:=Dk C.names u
  there:=if 0<u.dest then C.there.set u.dest.toNat false else C.there
  access:=((C.ops++[u]).filter Be).map (Bf C.words)
  script:=s
  pc:=pc
  still:=still }
theorem Vw {α:Type} {A L R:List α} {u v:α} (h:A++[u]=L++v::R):(∃ R0,R=R0++[u]∧A=L++v::R0)∨(R=[]∧v=u∧L=A):=by
 rcases List.eq_nil_or_concat R with rfl | ⟨R0,w,rfl⟩
 ·right
  have:=List.append_inj' h rfl
  exact⟨rfl,by injection this.2 with h _;exact h.symm,this.1.symm⟩
 ·left
  refine⟨R0,?_⟩
  have e:L++v::(R0++[w])=(L++v::R0)++[w]:=by simp
  rw [List.concat_eq_append,e] at h
  have:=List.append_inj' h rfl
  have e2:u=w:=by injection this.2
  exact⟨by rw [e2,List.concat_eq_append],this.1⟩
theorem Inv.free {C:Core} (h:Inv C) (hs:C.still=false):∀ v∈C.ops,Er v=false:=by
 intro v hv
 obtain⟨L,R,e⟩:=List.append_of_mem hv
 rcases hl:Er v with _ | _
 ·rfl
 ·have:=((h.ops L v R e).last hl).2
  rw [hs] at this
  cases this
theorem Inv.pushed {C:Core} (h:Inv C) (hs:C.still=false) (hlen:C.ops.length<C.window) {u:Uop} (s:List Int) {pc:Int} (still:Bool) (hN:NOk C.names u) (hseq:u.seq=C.seq) (hpc:u.pc=C.pc)
  (hpcr:0≤pc∧pc≤4294967295) (hq:Cv u=false→u.next=pc) (hsrc:u.cause=0→(0≤u.ins.rs1∧u.ins.rs1≤31)∧0≤u.ins.rs2∧u.ins.rs2≤31) (hz:u.cause≠0→u.a=0∧u.b=0)
  (hu:T0 (Vn C u s pc still) C.ops u []):Inv (Vn C u s pc still):=by
 obtain⟨N,hgN,hlN,hcN,hvN⟩:=h.names
 have hfree:=h.free hs
 have hc2:=hcN.snoc hN
 have hM:=hcN.good hgN
 have hdst:0<u.dest→u.dest∈C.names.free∧u.dest<96:=fun hd=>by
  have:u.dest∈C.names.free:=by rw [(hN.dst hd).2.2.1];simp
  exact⟨this,(hM.free_pos this).2⟩
 have hap:(C.ops++[u]).Pairwise Apart:=by
  refine hc2.apart hgN (fun v hv hcz=>?_) (fun v hv hcn=>?_)
  ·rcases List.mem_append.1 hv with hv | hv
   ·obtain⟨L,R,e⟩:=List.append_of_mem hv
    have:=Ho (Inv.insOk (h.ops L v R e) hcz)
    omega
   ·rw [List.mem_singleton.1 hv] at hcz ⊢
    exact hsrc hcz
  ·rcases List.mem_append.1 hv with hv | hv
   ·obtain⟨L,R,e⟩:=List.append_of_mem hv
    obtain⟨_,_,e1,e2,_⟩:=(h.ops L v R e).fault hcn
    exact⟨e1,e2⟩
   ·rw [List.mem_singleton.1 hv] at hcn ⊢
    exact hz hcn
 have hap:∀ v∈C.ops,Apart v u:=fun v hv=>(List.pairwise_append.1 hap).2.2 v hv u (by simp)
 have hhas:∀ p:Int,0≤p→(0<u.dest→p≠u.dest)→(Vn C u s pc still).has p=C.has p:=by
  intro p hp hne
  show(if 0<u.dest then C.there.set u.dest.toNat false else C.there).getD p.toNat false=C.there.getD p.toNat false
  split
  ·rename_i hd
   exact Y0 false (by omega) hp (hne hd)
  ·rfl
 refine⟨h.cfg,h.hart,h.may,h.runs,h.bytes,h.room,h.tab,h.words,?_,rfl,?_,rfl,?_,?_,?_,?_,hpcr,?_⟩
 ·show(if 0<u.dest then C.there.set u.dest.toNat false else C.there).length=96
  split
  ·simp [h.there]
  ·exact h.there
 ·refine List.pairwise_append.2 ⟨h.seqs,by simp,fun v hv w hw=>?_⟩
  rw [List.mem_singleton.1 hw,hseq]
  obtain⟨L,R,e⟩:=List.append_of_mem hv
  exact(h.ops L v R e).seq.2
 ·refine⟨N,hgN,hlN,hc2,fun r hr=>?_⟩
  obtain⟨v1,v2⟩:=hvN r hr
  refine⟨?_,v2⟩
  rw [hhas _ (hgN.reg_range hr).1 (fun hd e=>hgN.disjoint (hgN.reg_mem hr) (e▸hcN.free_sub _ (hdst hd).1))]
  exact v1
 ·show Eg C.hart.pc (C.ops++[u]) pc
  refine Eg.snoc (by rw [hpc];exact h.pcs) (fun x hx=>?_) pc hq
  have:=hfree x hx
  unfold Er at this
  rw [Bool.or_eq_false_iff] at this
  exact this.2
 ·show(C.ops++[u]).length≤C.window
  simp
  omega
 ·show 0≤C.seq+1
  have:=h.seq0
  omega
 ·intro L v R e
  have e:C.ops++[u]=L++v::R:=e
  rcases Vw e with⟨R0,rfl,e0⟩ | ⟨rfl,rfl,rfl⟩
  ·have hOv:=h.ops L v R0 e0
   have hv:v∈C.ops:=by rw [e0];simp
   obtain⟨q1,q2,q3,_⟩:=Kd (by rw [←e0];exact hcN) hgN hOv
   have ha:=hap v hv
   refine hOv.congr2 (by show v.seq<C.seq+1;have:=hOv.seq.2;omega) id (fun hl=>by rw [hfree v hv] at hl;cases hl) rfl (fun _ _=>⟨fun hh=>?_,fun hh=>?_⟩) (fun hd=>⟨?_,rfl⟩) (fun _ _=>?_)
   ·rw [hhas _ q1.1 ha.a];exact hh
   ·rw [hhas _ q2.1 ha.b];exact hh
   ·rw [hhas _ q3 ha.d]
   ·exact I4 rfl rfl rfl rfl rfl
  ·exact hu
theorem Inv.seen {C:Core} (h:Inv C):Je C=Dr (known C.ops) C.mem C.seq C.pc:=by
 obtain⟨s1,s2⟩:=Vu (words:=C.words) (A:=C.ops) (B:=[]) (seq:=C.seq) C.mem C.pc 4 (fun v hv=>by cases hv)
 rw [List.append_nil,←h.access] at s1 s2
 unfold Je Dr
 rw [s1,s2]
theorem Ky (K:List Acc) (m:List Int) (seq pc:Int):(Dr K m seq pc).2=0∧IsP (Dr K m seq pc).1=true∨((Dr K m seq pc).2=1∨(Dr K m seq pc).2=2)∧(Dr K m seq pc).1=Fz:=by
 unfold Dr
 split
 ·have hc:=Qo (bytesOf (Eb K m seq pc 4).1) 0
  by_cases h0:(Dn (bytesOf (Eb K m seq pc 4).1) 0).2=0
  ·exact Or.inl ⟨h0,(Oe h0).1⟩
  ·right
   refine⟨by omega,?_⟩
   unfold Dn at h0 ⊢
   split at h0
   ·rename_i hl
    rw [if_pos hl]
    cases hd:Ns (Dg (bytesOf (Eb K m seq pc 4).1) 13 0).1 with
    |none=>rfl
    |some i=>rw [hd] at h0;exact absurd rfl h0
   ·rename_i hl
    rw [if_neg hl]
 ·exact Or.inr ⟨Or.inl rfl,rfl⟩
theorem Inv.pushOk {C:Core} (h:Inv C):I8 C.slots C.window C.seq=if C.window≤C.ops.length then none else some (C.slots++[⟨C.seq,false⟩]):=by
 have hl:C.slots.length=C.ops.length:=by rw [h.slots];simp
 have ha:C.slots.any (fun s=>decide (C.seq≤s.seq))=false:=by
  rw [List.any_eq_false]
  intro s hs
  rw [h.slots] at hs
  obtain⟨v,hv,rfl⟩:=List.mem_map.1 hs
  obtain⟨L,R,e⟩:=List.append_of_mem hv
  have:=(h.ops L v R e).seq.2
  show ¬ decide (C.seq≤v.seq)=true
  simp
  omega
 unfold I8
 rw [ha,hl]
 simp only [Bool.false_eq_true,or_false]
theorem Afx {C:Core} (h:Inv C) (i:Ins) (pc:Int):0≤(Dd C i pc).1∧(Dd C i pc).1≤4294967295:=by
 obtain⟨ht,_⟩:=h.tab.cnt_of pc
 unfold Dd
 dsimp only
 split
 ·exact Da _
 split
 ·dsimp only
  split
  ·exact Da _
  ·exact⟨ht.t0,ht.t1⟩
 split
 ·dsimp only
  split
  ·exact Da _
  ·exact Da _
 ·exact Da _
theorem Aav {C:Core} {i:Ins} (hi:(A0 i || Ba i)=true) (pc:Int):(Dd C i pc).1=u32 (pc+4):=by
 have:(16≤i.op∧i.op≤18)∨i.op=47∨i.op=48:=by
  rw [Bool.or_eq_true] at hi
  rcases hi with hi | hi
  ·exact Or.inl (Ff.1 hi)
  ·exact Or.inr (Lf.1 hi)
 unfold Dd
 dsimp only
 rw [if_neg (by omega),if_neg (by omega),if_neg (by omega)]
def Zn (C:Core) (f:Ins×Int):Uop:={ Bz with seq:=C.seq,pc:=C.pc,cause:=f.2,ins:=f.1,state:=2,commit:=By C.pc f.2 }
def takeC (C:Core) (i:Ins):Ax×Int×Int:=if Bg i=true then (M4 C.names i.rd).getD (Ax.zero,0,0) else (C.names,0,0)
def G9 (C:Core) (i:Ins):Uop:=
 { Bz with seq:=C.seq,pc:=C.pc,ins:=i,a:=C.names.regs.getD i.rs1.toNat 0,b:=C.names.regs.getD i.rs2.toNat 0,dest:=(takeC C i).2.1,old:=(takeC C i).2.2,next:=(Dd C i C.pc).1 }
theorem Rf {C:Core} (h:Inv C) {i:Ins} (hi:IsP i=true) (hf:C.names.free≠[]):NOk C.names (G9 C i)∧(takeC C i).1=Dk C.names (G9 C i)∧(0<(G9 C i).dest↔Bg i=true):=by
 obtain⟨N,hgN,_,hcN,_⟩:=h.names
 have hM:=hcN.good hgN
 have ho:=Ho hi
 rcases hg:Bg i with _ | _
 ·have e:takeC C i=(C.names,0,0):=by unfold takeC;rw [hg];rfl
  have ed:(G9 C i).dest=0:=by show(takeC C i).2.1=0;rw [e]
  refine⟨⟨fun _=>⟨rfl,rfl⟩,fun hd=>by rw [ed] at hd;omega,fun _=>⟨ed,fun hh=>?_⟩⟩,?_,⟨fun hd=>by rw [ed] at hd;omega,fun hh=>by cases hh⟩⟩
  ·have:Bg i=true:=hh.1
   rw [hg] at this
   cases this
  ·unfold Dk
   rw [ed,e]
   rfl
 ·cases hfr:C.names.free with
  |nil=>exact absurd hfr hf
  |cons p f=>
   have hrd:1≤i.rd∧i.rd≤31:=by
    have h1:=hg
    unfold Bg at h1
    simp only [Bool.and_eq_true,decide_eq_true_eq] at h1
    omega
   have e:takeC C i=(⟨C.names.phys,C.names.regs.set i.rd.toNat p,f⟩,p,C.names.regs.getD i.rd.toNat 0):=by
    unfold takeC M4
    rw [if_pos hg,hfr]
    dsimp only
    rw [if_pos ⟨hM.may,hrd⟩]
    rfl
   have ed:(G9 C i).dest=p:=by show(takeC C i).2.1=p;rw [e]
   have eo:(G9 C i).old=C.names.regs.getD i.rd.toNat 0:=by show(takeC C i).2.2=_;rw [e]
   have hp:=hM.free_pos (p:=p) (by rw [hfr];simp)
   refine⟨⟨fun _=>⟨rfl,rfl⟩,fun _=>⟨⟨hg,rfl⟩,hrd,by rw [hfr,ed];rfl,eo⟩,fun hd=>by rw [ed] at hd;omega⟩,?_,⟨fun _=>rfl,fun _=>by rw [ed];exact hp.1⟩⟩
   unfold Dk
   rw [ed,if_pos hp.1,e,hfr]
   rfl
theorem Ajs {u:Uop} (h:u.ins=Fz):Be u=false:=by unfold Be;rw [h];decide
theorem Od {C:Core} (h:Inv C):(Bv C=(false,C)∧(C.still=true∨C.names.free=[]∨C.window≤C.ops.length)) ∨
  (C.still=false∧C.names.free≠[]∧C.ops.length<C.window ∧
   ((((Dr (known C.ops) C.mem C.seq C.pc).2=1∨(Dr (known C.ops) C.mem C.seq C.pc).2=2)∧(Dr (known C.ops) C.mem C.seq C.pc).1=Fz∧Bv C=(false,Vn C (Zn C (Dr (known C.ops) C.mem C.seq C.pc)) C.script C.pc true)) ∨
    ∃ i,Dr (known C.ops) C.mem C.seq C.pc=(i,0)∧IsP i=true∧Bv C=(!Ba i,Vn C (G9 C i) (Dd C i C.pc).2 (Dd C i C.pc).1 (Ba i)))):=by
 rcases Decidable.em (C.still=true∨C.names.free=[]) with hc | hc
 ·left
  refine⟨?_,by rcases hc with hc | hc;exact Or.inl hc;exact Or.inr (Or.inl hc)⟩
  unfold Bv
  rw [if_pos hc]
 have hs:C.still=false:=by
  rcases e:C.still with _ | _
  ·rfl
  ·exact absurd (Or.inl e) hc
 have hfr:C.names.free≠[]:=fun e=>hc (Or.inr e)
 by_cases hw:C.window≤C.ops.length
 ·left
  refine⟨?_,Or.inr (Or.inr hw)⟩
  unfold Bv
  rw [if_neg hc,h.pushOk,if_pos hw]
 right
 refine⟨hs,hfr,by omega,?_⟩
 have hex:Bv C=(let f:=Dr (known C.ops) C.mem C.seq C.pc
   let slots:=C.slots++[(⟨C.seq,false⟩:Slt)]
   let c1:={ C with slots:=slots,seq:=C.seq+1,taken:=C.taken+1 }
   if f.2≠0 then
    (false,Ep { c1 with ops:=C.ops++[{ Bz with seq:=C.seq,pc:=C.pc,cause:=f.2,ins:=f.1,commit:=By C.pc f.2 }],still:=true } C.ops.length)
   else
    let i:=f.1
    let t:=takeC C i
    let u:={ Bz with seq:=C.seq,pc:=C.pc,ins:=i,a:=C.names.regs.getD i.rs1.toNat 0,b:=C.names.regs.getD i.rs2.toNat 0,dest:=t.2.1,old:=t.2.2 }
    let c2:={ c1 with
     names:=t.1
     there:=if Bg i=true then C.there.set t.2.1.toNat false else C.there
     access:=if (Bp i || A0 i)=true then C.access++[(⟨C.seq,A0 i,false,0,0,0,false⟩:Acc)] else C.access }
    let fo:=Dd C i C.pc
    (!Ba i,{ c2 with ops:=C.ops++[{ u with next:=fo.1 }],script:=fo.2,pc:=fo.1,still:=Ba i })):=by
  rw [←h.seen]
  conv=>lhs;unfold Bv
  rw [if_neg hc,h.pushOk,if_neg hw]
  rfl
 rw [hex]
 dsimp only
 have hslots:∀ b,(C.ops.map B5)++[(⟨C.seq,b⟩:Slt)]=C.slots++[⟨C.seq,b⟩]:=fun b=>by rw [h.slots]
 rcases Ky (known C.ops) C.mem C.seq C.pc with⟨h0,his⟩ | ⟨h0,hin⟩
 ·right
  generalize hf:Dr (known C.ops) C.mem C.seq C.pc=f at h0 his ⊢
  obtain⟨i,c⟩:=f
  simp only at h0 his
  subst h0
  refine⟨i,rfl,his,?_⟩
  rw [if_neg (fun hh=>hh rfl)]
  obtain⟨t1,t2,t3⟩:=Rf h his hfr
  congr 1
  unfold Vn
  have e1:(C.ops++[G9 C i]).map B5=C.slots++[⟨C.seq,false⟩]:=by
   rw [List.map_append,h.slots]
   rfl
  have e2:(if 0<(G9 C i).dest then C.there.set (G9 C i).dest.toNat false else C.there)=(if Bg i=true then C.there.set (takeC C i).2.1.toNat false else C.there):=by
   by_cases hg:Bg i=true
   ·rw [if_pos hg,if_pos (t3.2 hg)]
    rfl
   ·rw [if_neg hg,if_neg (fun hd=>hg (t3.1 hd))]
  have e3:((C.ops++[G9 C i]).filter Be).map (Bf C.words)=(if (Bp i || A0 i)=true then C.access++[(⟨C.seq,A0 i,false,0,0,0,false⟩:Acc)] else C.access):=by
   rw [List.filter_append,List.map_append,←h.access]
   by_cases hm:(Bp i || A0 i)=true
   ·have hm':Be (G9 C i)=true:=hm
    rw [if_pos hm,List.filter_cons_of_pos hm']
    have hk:A4 (G9 C i)=false:=by unfold A4;simp [G9,Bz]
    have:Bf C.words (G9 C i)=⟨C.seq,A0 i,false,0,0,0,false⟩:=by
     unfold Bf
     rw [hk,if_neg (h:=instDecidableEqBool false true) (by decide),if_neg (fun hh=>by have h2:(0:Int)=2:=hh.2.1;cases h2)]
     rfl
    rw [List.filter_nil,List.map_cons,List.map_nil,this]
   ·have hm':Be (G9 C i)=false:=by
     rcases e:Be (G9 C i) with _ | _
     ·rfl
     ·exact absurd e hm
    rw [if_neg hm,List.filter_cons_of_neg (by rw [hm'];simp)]
    simp
  rw [e1,e2,e3,←t2]
  rfl
 ·left
  refine⟨h0,hin,?_⟩
  rw [if_pos (by omega)]
  congr 1
  generalize hf:Dr (known C.ops) C.mem C.seq C.pc=f at h0 hin ⊢
  obtain⟨i,c⟩:=f
  simp only at h0 hin
  subst hin
  unfold Ep
  have hop:Core.op { C with slots:=C.slots++[(⟨C.seq,false⟩:Slt)],seq:=C.seq+1,taken:=C.taken+1,ops:=C.ops++[{ Bz with seq:=C.seq,pc:=C.pc,cause:=c,ins:=Fz,commit:=By C.pc c }],still:=true } C.ops.length={ Bz with seq:=C.seq,pc:=C.pc,cause:=c,ins:=Fz,commit:=By C.pc c }:=Core.op_at (R:=[]) rfl
  dsimp only
  rw [hop]
  have hd:Ii (C.slots++[(⟨C.seq,false⟩:Slt)]) C.seq=some (C.slots++[⟨C.seq,true⟩]):=Uk (fun s hs=>by
   rw [h.slots] at hs
   obtain⟨v,hv,rfl⟩:=List.mem_map.1 hs
   obtain⟨L,R,e⟩:=List.append_of_mem hv
   have:=(h.ops L v R e).seq.2
   show v.seq≠C.seq
   omega)
  dsimp only
  rw [hd,Gj]
  unfold Vn
  have e1:(C.ops++[Zn C (Fz,c)]).map B5=C.slots++[⟨C.seq,true⟩]:=by
   rw [List.map_append,h.slots]
   rfl
  have e3:((C.ops++[Zn C (Fz,c)]).filter Be).map (Bf C.words)=C.access:=by
   rw [List.filter_append,List.map_append,←h.access,List.filter_cons_of_neg (by rw [Ajs (u:=Zn C (Fz,c)) rfl];simp)]
   simp
  rw [e1,e3]
  rfl
theorem Afv {C:Core} (h:Inv C):Inv (Bv C).2:=by
 rcases Od h with⟨e,_⟩ | ⟨hs,hfr,hw,⟨h0,hin,e⟩ | ⟨i,hf,his,e⟩⟩
 ·rw [e];exact h
 ·rw [e]
  generalize hf:Dr (known C.ops) C.mem C.seq C.pc=f at h0 hin ⊢
  obtain⟨i,c⟩:=f
  simp only at h0 hin
  subst hin
  have hc0:c≠0:=by omega
  refine h.pushed hs hw C.script true ⟨fun hh=>absurd hh hc0,fun hd=>(by cases hd),fun _=>⟨rfl,fun hh=>absurd hh.2 hc0⟩⟩ rfl rfl h.pc (fun hst=>?_) (fun hh=>absurd hh hc0) (fun _=>⟨rfl,rfl⟩) ?_
  ·have:Cv (Zn C (Fz,c))=true:=by
    unfold Cv
    rw [qF (show(Zn C (Fz,c)).cause≠0 from hc0)]
    rfl
   rw [this] at hst
   cases hst
  ·refine⟨⟨h.seq0,by show C.seq<C.seq+1;omega⟩,Or.inr (Or.inr rfl),fun _=>⟨rfl,rfl,rfl,rfl,rfl⟩,Or.inr h0,hf.symm,h.pc,by show(0:Int)≤0∧(0:Int)≤4294967295;omega,fun hh=>absurd hh hc0,fun hh=>absurd hh hc0,fun hh=>(by cases hh),fun hd=>(by cases hd),fun hd=>(by cases hd),fun hh=>absurd hh hc0,fun _ hst=>?_,fun ha=>?_,fun _=>⟨rfl,rfl⟩⟩
   ·have:Cv (Zn C (Fz,c))=true:=by
     unfold Cv
     rw [qF (show(Zn C (Fz,c)).cause≠0 from hc0)]
     rfl
    rw [this] at hst
    cases hst
   ·exact absurd ha (by decide:¬ Ba Fz=true)
 ·rw [e]
  obtain⟨t1,t2,t3⟩:=Rf h his hfr
  have ho:=Ho his
  have hb:=Afx h i C.pc
  refine h.pushed hs hw _ (Ba i) t1 rfl rfl hb (fun _=>rfl) (fun _=>⟨by show 0≤i.rs1∧i.rs1≤31;omega,by show 0≤i.rs2∧i.rs2≤31;omega⟩) (fun hh=>absurd rfl hh) ?_
  refine⟨⟨h.seq0,by show C.seq<C.seq+1;omega⟩,Or.inl rfl,fun hh=>absurd rfl hh,Or.inl rfl,hf.symm,h.pc,hb,fun _ hh=>Aav hh _,fun _ hh=>absurd rfl hh,fun hh=>(by cases hh),fun hd _ hh=>?_,fun _ hh=>?_,fun _ hh=>?_,fun hh=>?_,fun _ hh=>absurd rfl hh,fun hl=>⟨rfl,?_⟩⟩
  ·exfalso
   have hd':0<(G9 C i).dest:=hd
   have:(C.there.set (G9 C i).dest.toNat false).getD (G9 C i).dest.toNat false=true:=by
    have hh:(if 0<(G9 C i).dest then C.there.set (G9 C i).dest.toNat false else C.there).getD (G9 C i).dest.toNat false=true:=hh
    rw [if_pos hd'] at hh
    exact hh
   obtain⟨N,hgN,_,hcN,_⟩:=h.names
   have hM:=hcN.good hgN
   have hfr:(G9 C i).dest∈C.names.free:=by rw [(t1.dst hd').2.2.1];simp
   rw [Uy false (by omega) (by rw [h.there];exact(hM.free_pos hfr).2)] at this
   cases this
  ·have hh:(0:Int)=2:=hh
   cases hh
  ·have hh:(0:Int)=2:=hh
   cases hh
  ·have hh:(0:Int)=2:=hh
   cases hh
  ·show Ba i=true
   have hl:(Ba i || Cv (G9 C i))=true:=hl
   have hst:Cv (G9 C i)=false:=rfl
   rw [hst,Bool.or_false] at hl
   exact hl
def F4 (C:Core):Prop:=C.still=true→∃ L u,C.ops=L++[u]∧Er u=true
theorem Aa3 {u u':Uop} (hi:u'.ins=u.ins) (hc:u'.cause=u.cause) (h0:u.state≠2) (h:Er u=true):Er u'=true:=by
 unfold Er Cv at h ⊢
 rw [qG h0] at h
 rw [hi,hc]
 simp only [Bool.false_and,Bool.or_false] at h
 rcases ha:Ba u.ins with _ | _
 ·rw [ha,Bool.false_or] at h
  rw [h]
  rfl
 ·rfl
theorem Abu {L R:List Uop} {u u':Uop} (hi:u'.ins=u.ins) (hc:u'.cause=u.cause) (h0:u.state≠2) (h:∃ L' w,L++u::R=L'++[w]∧Er w=true):∃ L' w,L++u'::R=L'++[w]∧Er w=true:=by
 obtain⟨L',w,e,hl⟩:=h
 rcases Vw e.symm with⟨R0,rfl,_⟩ | ⟨rfl,rfl,_⟩
 ·exact⟨L++u'::R0,w,by simp,hl⟩
 ·exact⟨L,u',rfl,Aa3 hi hc h0 hl⟩
theorem Pb (c:Core) (k:Nat):(E8 c k).still=true→c.still=true∧(E8 c k).ops=c.ops:=by
 unfold E8
 dsimp only
 split
 ·intro h
  have h:false=true:=h
  cases h
 ·intro h
  exact⟨h,rfl⟩
theorem Nn {C:Core} (h:Inv C) (hs:F4 C) {L R:List Uop} {u:Uop} (ho:C.ops=L++u::R) (h1:u.state=1):F4 (B6 C L.length):=by
 have hsq:=h.seqs
 rw [ho] at hsq
 obtain⟨hlt,hgt⟩:=D1 hsq
 rw [Nm h ho h1]
 dsimp only
 have h2:(B9 C L R u (Ac C L u) (uD u (Ac C L u)) (Cf C u (Ac C L u))).still=true→∃ L' w,L++uD u (Ac C L u)::R=L'++[w]∧Er w=true:=fun hh=>
  Abu (u:=u) rfl rfl (by omega) (by rw [←ho];exact hs hh)
 split
 ·rename_i h0
  intro _
  refine⟨L,uD u (Ac C L u),?_,?_⟩
  ·show(L++uD u (Ac C L u)::R).filter (fun v=>!decide (u.seq+1≤v.seq))=L++[uD u (Ac C L u)]
   have e:L++uD u (Ac C L u)::R=(L++[uD u (Ac C L u)])++R:=by simp
   rw [e]
   refine filter_lt (fun v hv=>?_) (fun v hv=>by have:=hgt v hv;omega)
   rcases List.mem_append.1 hv with hv | hv
   ·have:=hlt v hv;omega
   ·rw [List.mem_singleton.1 hv];show u.seq<u.seq+1;omega
  ·unfold Er Cv uD
   simp [h0]
 ·rcases hm:O7 C L u with _ | _
  ·simp only [Bool.false_eq_true,if_false]
   split
   ·intro hh
    obtain⟨g1,g2⟩:=Pb _ _ hh
    rw [g2]
    exact h2 g1
   ·exact h2
  ·simp only [if_true]
   split
   ·intro hh
    have:=(Pb _ _ hh).1
    have:false=true:=this
    cases this
   ·intro hh
    have hh:false=true:=hh
    cases hh
theorem Aao {C:Core} (h:Inv C) (hs:F4 C):F4 (Bv C).2:=by
 rcases Od h with⟨e,_⟩ | ⟨_,hfr,hw,⟨h0,hin,e⟩ | ⟨i,hf,his,e⟩⟩
 ·rw [e];exact hs
 ·rw [e]
  intro _
  refine⟨C.ops,_,rfl,?_⟩
  unfold Er Cv
  rw [qF (show(Zn C (Dr (known C.ops) C.mem C.seq C.pc)).cause≠0 by show(Dr (known C.ops) C.mem C.seq C.pc).2≠0;omega)]
  simp
 ·rw [e]
  intro hh
  have hh:Ba i=true:=hh
  refine⟨C.ops,_,rfl,?_⟩
  unfold Er
  rw [show Ba (G9 C i).ins=Ba i from rfl,hh]
  rfl
theorem Uv {C:Core} (hs:F4 C) {R:List Uop} {u:Uop} (ho:C.ops=u::R) (hst:Cv u=false):F4 (Bn C):=by
 intro hh
 rw [En ho] at hh ⊢
 have hh:(if Ba u.ins=true then false else C.still)=true:=hh
 rcases ha:Ba u.ins with _ | _
 ·rw [ha] at hh
  obtain⟨L,w,e,hl⟩:=hs hh
  rw [ho] at e
  show ∃ L' w,R=L'++[w]∧Er w=true
  cases L with
  |nil=>
   have e:u::R=[w]:=e
   injection e with e1 e2
   rw [←e1] at hl
   unfold Er at hl
   rw [ha,hst] at hl
   cases hl
  |cons x L=>
   rw [List.cons_append] at e
   injection e with e1 e2
   exact⟨L,w,e2,hl⟩
 ·rw [ha] at hh
  cases hh
structure Ak6 (C C':Core) (k:Nat) (now:Int):Prop where
 same:C'={ C with ops:=C'.ops,script:=C'.script,words:=C'.words,there:=C'.there }
 ops:C'.ops=C.ops∨((C.op k).state=0∧∃ r g,r≤now+9∧C'.ops=C.ops.set k { C.op k with state:=1,ready:=r,guessed:=g })
theorem Kl (C:Core) (k:Nat) (now head:Int):Ak6 C (Cb C k now head).2 k now:=by
 unfold Cb
 dsimp only
 split
 ·exact⟨rfl,Or.inl rfl⟩
 rename_i hn
 have h0:(C.op k).state=0:=by rcases Decidable.em ((C.op k).state=0) with e | e;exact e;exact absurd (Or.inl e) hn
 split
 ·exact⟨rfl,Or.inr ⟨h0,now+3,(C.op k).guessed,by omega,rfl⟩⟩
 split
 ·split
  ·refine⟨?_,Or.inr ⟨h0,now+1+Hj C.script%9,true,by omega,rfl⟩⟩
   unfold Di
   split<;>rfl
  ·exact⟨rfl,Or.inr ⟨h0,now+1+Hj C.script%9,(C.op k).guessed,by omega,rfl⟩⟩
 ·exact⟨rfl,Or.inr ⟨h0,now+1,(C.op k).guessed,by omega,rfl⟩⟩
theorem Z4 {C:Core} (hs:F4 C) {L R:List Uop} {u:Uop} (ho:C.ops=L++u::R) (now head:Int):F4 (Cb C L.length now head).2:=by
 obtain⟨hsame,hops⟩:=Kl C L.length now head
 intro hh
 have hst:(Cb C L.length now head).2.still=C.still:=by rw [hsame]
 rw [hst] at hh
 rcases hops with e | ⟨h0,r,g,_,e⟩
 ·rw [e];exact hs hh
 ·have hu:C.op L.length=u:=Core.op_at ho
  rw [hu] at h0 e
  rw [e,ho,Gj]
  exact Abu (u:=u) rfl rfl (by omega) (by rw [←ho];exact hs hh)
theorem Acd {C:Core} (h:Inv C) {R:List Uop} {u:Uop} (ho:C.ops=u::R) (h0:u.state=0) (now:Int) :
  (Cb C 0 now (C.op 0).seq).1=true∧∃ u',(Cb C 0 now (C.op 0).seq).2.ops=u'::R∧u'.state=1∧u'.ready≤now+9:=by
 have hu:C.op 0=u:=Core.op_at (L:=[]) ho
 obtain⟨N,hgN,_,hcN,hvN⟩:=h.names
 have hO:=h.ops [] u R ho
 rw [ho] at hcN
 have hc:u.cause=0:=by
  rcases Decidable.em (u.cause=0) with e | e
  ·exact e
  ·have:=(hO.fault e).1;omega
 have hi:=Ho (Inv.insOk hO hc)
 obtain⟨s1,s2⟩:=hcN.1.src hc
 have ha:C.has u.a=true:=by rw [s1];exact(hvN _ (by omega)).1
 have hb:C.has u.b=true:=by rw [s2];exact(hvN _ (by omega)).1
 have hno:¬ (u.state≠0∨C.has u.a=false∨C.has u.b=false∨(Ba u.ins=true∧u.seq≠u.seq)):=by
  rw [ha,hb]
  rintro(hh | hh | hh | ⟨_,hh⟩)
  ·exact hh h0
  ·cases hh
  ·cases hh
  ·exact hh rfl
 have h1:(Cb C 0 now (C.op 0).seq).1=true:=by
  unfold Cb
  rw [hu]
  dsimp only
  rw [if_neg hno]
  (repeat' split)<;>rfl
 refine⟨h1,?_⟩
 unfold Cb
 rw [hu]
 dsimp only
 rw [if_neg hno,ho]
 split
 ·exact⟨_,rfl,rfl,by show now+3≤_;omega⟩
 split
 ·split
  ·exact⟨_,rfl,rfl,by show now+1+_%9≤_;omega⟩
  ·exact⟨_,rfl,rfl,by show now+1+_%9≤_;omega⟩
 ·exact⟨_,rfl,rfl,by show now+1≤_;omega⟩
structure Mid (C C':Core):Prop where
 hart:C'.hart=C.hart
 mem:C'.mem=C.mem
 commits:C'.commits=C.commits
 wide:C'.wide=C.wide
 cycles:C'.cycles=C.cycles
 taken:C.taken≤C'.taken
 backs:C.backs≤C'.backs
theorem Mid.refl (C:Core):Mid C C:=⟨rfl,rfl,rfl,rfl,rfl,Int.le_refl _,Int.le_refl _⟩
theorem Mid.trans {A B C:Core} (h:Mid A B) (k:Mid B C):Mid A C:=
 ⟨k.hart.trans h.hart,k.mem.trans h.mem,k.commits.trans h.commits,k.wide.trans h.wide,k.cycles.trans h.cycles,Int.le_trans h.taken k.taken,Int.le_trans h.backs k.backs⟩
structure Good (C:Core):Prop where
 inv:Inv C
 still:F4 C
def Aev (T:Int) (C:Core):Prop:=∀ u∈C.ops,u.state=1→u.ready≤T
structure Part (C C':Core) (T:Int) (L:List Uop):Prop where
 good:Good C'
 mid:Mid C C'
 soon:Aev T C→Aev T C'
 ops:∃ R',C'.ops=L++R'
theorem Part.refl {C:Core} (h:Good C) (T:Int) {L R:List Uop} (ho:C.ops=L++R):Part C C T L:=⟨h,Mid.refl C,id,R,ho⟩
theorem Gd (now T:Int):∀ (n:Nat) (C:Core) (L R:List Uop),Good C→C.ops=L++R→Part C (finishAll n L.length now C) T L
 |0,C,L,R,h,ho=>Part.refl h T ho
 |n+1,C,L,[],h,ho=>by
  show Part C (if L.length<C.ops.length then _ else C) T L
  rw [if_neg (by rw [ho];simp)]
  exact Part.refl h T ho
 |n+1,C,L,u::R,h,ho=>by
  show Part C (if L.length<C.ops.length then finishAll n (L.length+1) now (if (C.op L.length).state=1∧(C.op L.length).ready≤now then B6 C L.length else C) else C) T L
  rw [if_pos (by rw [ho];simp)]
  have hu:C.op L.length=u:=Core.op_at ho
  rw [hu]
  have hlen:L.length+1=(L++[u]).length:=by simp
  split
  ·rename_i hc
   have K:=Oy h.inv ho hc.1
   obtain⟨u',X,Y,hR,hops,hst,_⟩:=K.ops
   have hlen':L.length+1=(L++[u']).length:=by simp
   have hgood:Good (B6 C L.length):=⟨K.inv,Nn h.inv h.still ho hc.1⟩
   have P:=Gd now T n (B6 C L.length) (L++[u']) X hgood (by rw [hops];simp)
   rw [hlen']
   refine⟨P.good,Mid.trans ⟨K.hart,K.mem,K.commits,K.cfg.1,K.cycles,by rw [K.taken];exact Int.le_refl _,K.backs.1⟩ P.mid,fun hs=>P.soon fun v hv hv1=>?_,?_⟩
   ·rw [hops] at hv
    rcases List.mem_append.1 hv with hv | hv
    ·exact hs v (by rw [ho];simp [hv]) hv1
    ·rcases List.mem_cons.1 hv with rfl | hv
     ·omega
     ·exact hs v (by rw [ho,hR];simp [hv]) hv1
   ·obtain⟨R',e⟩:=P.ops
    exact⟨u'::R',by rw [e];simp⟩
  ·have P:=Gd now T n C (L++[u]) R h (by rw [ho];simp)
   rw [hlen]
   refine⟨P.good,P.mid,P.soon,?_⟩
   obtain⟨R',e⟩:=P.ops
   exact⟨u::R',by rw [e];simp⟩
theorem Aar (now T:Int) (n:Nat) {C:Core} {u:Uop} {R:List Uop} (h:Good C) (ho:C.ops=u::R) :
  ∃ u' R',(finishAll (n+1) 0 now C).ops=u'::R'∧(u'.state=2∨(u'=u∧¬ (u.state=1∧u.ready≤now))):=by
 show ∃ u' R',(if 0<C.ops.length then finishAll n 1 now (if (C.op 0).state=1∧(C.op 0).ready≤now then B6 C 0 else C) else C).ops=u'::R'∧_
 rw [if_pos (by rw [ho];simp)]
 have hu:C.op 0=u:=Core.op_at (L:=[]) ho
 rw [hu]
 split
 ·rename_i hc
  have K:=Oy h.inv (L:=[]) ho hc.1
  obtain⟨u',X,Y,hR,hops,hst,_⟩:=K.ops
  have hgood:Good (B6 C 0):=⟨K.inv,Nn h.inv h.still (L:=[]) ho hc.1⟩
  obtain⟨R',e⟩:=(Gd now T n (B6 C 0) [u'] X hgood (by rw [show B6 C 0=B6 C [].length from rfl,hops];rfl)).ops
  exact⟨u',R',e,Or.inl hst⟩
 ·rename_i hc
  obtain⟨R',e⟩:=(Gd now T n C [u] R h (by rw [ho];rfl)).ops
  exact⟨u,R',e,Or.inr ⟨rfl,hc⟩⟩
theorem Aas (now:Int) (n k:Nat) {C:Core} (ho:C.ops=[]):finishAll n k now C=C:=by
 cases n with
 |zero=>rfl
 |succ n=>
  show(if k<C.ops.length then _ else C)=C
  rw [if_neg (by rw [ho];simp)]
theorem Pg {C:Core} (h:Good C) {L R:List Uop} {u:Uop} (ho:C.ops=L++u::R) (now:Int):Good (Cb C L.length now (C.op 0).seq).2:=
 ⟨Ae3 h.inv ho now,Z4 h.still ho now _⟩
theorem Ae4 (C:Core) (k:Nat) (now head:Int):Mid C (Cb C k now head).2:=by
 obtain⟨hs,_⟩:=Kl C k now head
 rw [hs]
 exact⟨rfl,rfl,rfl,rfl,rfl,Int.le_refl _,Int.le_refl _⟩
theorem Lz (now:Int):∀ (n:Nat) (some_:Int) (C:Core) (L R:List Uop),Good C→C.ops=L++R→Part C (beginAll n L.length some_ now C) (now+9) L
 |0,_,C,L,R,h,ho=>Part.refl h _ ho
 |n+1,some_,C,L,[],h,ho=>by
  show Part C (if L.length<C.ops.length∧some_<C.wide then _ else C) _ L
  rw [if_neg (by rw [ho];simp)]
  exact Part.refl h _ ho
 |n+1,some_,C,L,u::R,h,ho=>by
  show Part C (if L.length<C.ops.length∧some_<C.wide then beginAll n (L.length+1) (if (Cb C L.length now (C.op 0).seq).1=true then some_+1 else some_) now (Cb C L.length now (C.op 0).seq).2 else C) _ L
  split
  ·have hu:C.op L.length=u:=Core.op_at ho
   obtain⟨_,hops⟩:=Kl C L.length now (C.op 0).seq
   have hg:=Pg h ho now
   have hm:=Ae4 C L.length now (C.op 0).seq
   generalize (Cb C L.length now (C.op 0).seq).1=b
   generalize hC':(Cb C L.length now (C.op 0).seq).2=C' at hops hg hm ⊢
   obtain⟨u',e,hst⟩:∃ u',C'.ops=L++u'::R∧(u'=u∨(u'.state=1∧u'.ready≤now+9)):=by
    rcases hops with e | ⟨_,r,g,hr,e⟩
    ·exact⟨u,by rw [e,ho],Or.inl rfl⟩
    ·exact⟨_,by rw [e,ho,Gj],Or.inr ⟨rfl,hr⟩⟩
   have hlen:L.length+1=(L++[u']).length:=by simp
   have P:=Lz now n (if b=true then some_+1 else some_) C' (L++[u']) R hg (by rw [e];simp)
   rw [hlen]
   refine⟨P.good,hm.trans P.mid,fun hs=>P.soon fun v hv hv1=>?_,?_⟩
   ·rw [e] at hv
    rcases List.mem_append.1 hv with hv | hv
    ·exact hs v (by rw [ho];simp [hv]) hv1
    ·rcases List.mem_cons.1 hv with rfl | hv
     ·rcases hst with rfl | hst
      ·exact hs _ (by rw [ho];simp) hv1
      ·exact hst.2
     ·exact hs v (by rw [ho];simp [hv]) hv1
   ·obtain⟨R',e⟩:=P.ops
    exact⟨u'::R',by rw [e];simp⟩
  ·exact Part.refl h _ ho
theorem Tg (now:Int) (n:Nat) {C:Core} {u:Uop} {R:List Uop} (h:Good C) (ho:C.ops=u::R) :
  ∃ u' R',(beginAll (n+1) 0 0 now C).ops=u'::R'∧(if u.state=0 then u'.state=1∧u'.ready≤now+9 else u'=u):=by
 show ∃ u' R',(if 0<C.ops.length∧0<C.wide then beginAll n 1 (if (Cb C 0 now (C.op 0).seq).1=true then 0+1 else 0) now (Cb C 0 now (C.op 0).seq).2 else C).ops=u'::R'∧_
 rw [if_pos ⟨by rw [ho];simp,by have:=h.inv.cfg.2.1;omega⟩]
 have hu:C.op 0=u:=Core.op_at (L:=[]) ho
 have hg:=Pg h (L:=[]) ho now
 have hg:Good (Cb C 0 now (C.op 0).seq).2:=hg
 obtain⟨u',e,hst⟩:∃ u',(Cb C 0 now (C.op 0).seq).2.ops=u'::R∧(if u.state=0 then u'.state=1∧u'.ready≤now+9 else u'=u):=by
  by_cases h0:u.state=0
  ·obtain⟨_,u',e,h1,h2⟩:=Acd h.inv ho h0 now
   exact⟨u',e,by rw [if_pos h0];exact⟨h1,h2⟩⟩
  ·refine⟨u,?_,by rw [if_neg h0]⟩
   rcases(Kl C 0 now (C.op 0).seq).ops with e | ⟨e0,_⟩
   ·rw [e,ho]
   ·rw [hu] at e0
    exact absurd e0 h0
 obtain⟨R',e'⟩:=(Lz now n (if (Cb C 0 now (C.op 0).seq).1=true then 0+1 else 0) _ [u'] R hg (by rw [e];rfl)).ops
 exact⟨u',R',e',hst⟩
theorem Acf (now:Int) (n k:Nat) (s:Int) {C:Core} (ho:C.ops=[]):beginAll n k s now C=C:=by
 cases n with
 |zero=>rfl
 |succ n=>
  show(if k<C.ops.length∧s<C.wide then _ else C)=C
  rw [if_neg (by rw [ho];simp)]
theorem J2 {C:Core} (h:Good C) (T:Int):Part C (Bv C).2 T C.ops:=by
 have hg:Good (Bv C).2:=⟨Afv h.inv,Aao h.inv h.still⟩
 rcases Od h.inv with⟨e,_⟩ | ⟨_,hfr,hw,⟨h0,hin,e⟩ | ⟨i,hf,his,e⟩⟩
 ·rw [e];exact Part.refl h T (R:=[]) (by simp)
 ·rw [e] at hg ⊢
  refine⟨hg,⟨rfl,rfl,rfl,rfl,rfl,by show C.taken≤C.taken+1;omega,Int.le_refl _⟩,fun hs v hv h1=>?_,[_],rfl⟩
  rcases List.mem_append.1 hv with hv | hv
  ·exact hs v hv h1
  ·rw [List.mem_singleton.1 hv] at h1
   have h1:(2:Int)=1:=h1
   cases h1
 ·rw [e] at hg ⊢
  refine⟨hg,⟨rfl,rfl,rfl,rfl,rfl,by show C.taken≤C.taken+1;omega,Int.le_refl _⟩,fun hs v hv h1=>?_,[_],rfl⟩
  rcases List.mem_append.1 hv with hv | hv
  ·exact hs v hv h1
  ·rw [List.mem_singleton.1 hv] at h1
   have h1:(0:Int)=1:=h1
   cases h1
theorem K5 (T:Int):∀ (n:Nat) (C:Core),Good C→Part C (fetchAll n C) T C.ops
 |0,C,h=>Part.refl h T (R:=[]) (by simp)
 |n+1,C,h=>by
  have P:=J2 h T
  show Part C (if (Bv C).1=true then fetchAll n (Bv C).2 else (Bv C).2) T C.ops
  split
  ·have Q:=K5 T n (Bv C).2 P.good
   obtain⟨R1,e1⟩:=P.ops
   obtain⟨R2,e2⟩:=Q.ops
   exact⟨Q.good,P.mid.trans Q.mid,fun hs=>Q.soon (P.soon hs),R1++R2,by rw [e2,e1];simp⟩
  ·exact P
theorem Aam {C:Core} (h:Good C) (ho:C.ops=[]):∃ u,(Bv C).2.ops=[u]∧(u.state=0∨u.state=2):=by
 rcases Od h.inv with⟨_,hc⟩ | ⟨_,hfr,hw,⟨h0,hin,e⟩ | ⟨i,hf,his,e⟩⟩
 ·exfalso
  rcases hc with hc | hc | hc
  ·obtain⟨L,u,e,_⟩:=h.still hc
   rw [ho] at e
   cases L<;>cases e
  ·obtain⟨N,hgN,hlN,hcN,_⟩:=h.inv.names
   rw [ho] at hcN
   have hcN:N=C.names:=hcN
   have hp:=hgN.phys
   have hl:=hgN.len
   unfold Ax.all at hlN
   rw [qO,hl,hcN,hc] at hlN
   rw [hcN] at hp
   simp at hlN
   omega
  ·have:=h.inv.cfg.1.1
   rw [ho] at hc
   simp at hc
   omega
 ·rw [e]
  exact⟨_,by show C.ops++[_]=_;rw [ho];rfl,Or.inr rfl⟩
 ·rw [e]
  exact⟨_,by show C.ops++[_]=_;rw [ho];rfl,Or.inl rfl⟩
theorem Un (n:Nat) {C:Core} (h:Good C) (ho:C.ops=[]):∃ u R,(fetchAll (n+1) C).ops=u::R∧(u.state=0∨u.state=2):=by
 obtain⟨u,e,hst⟩:=Aam h ho
 show ∃ u R,(if (Bv C).1=true then fetchAll n (Bv C).2 else (Bv C).2).ops=u::R∧_
 split
 ·obtain⟨R,e2⟩:=(K5 0 n (Bv C).2 (J2 h 0).good).ops
  rw [e] at e2
  exact⟨u,R,e2,hst⟩
 ·exact⟨u,[],e,hst⟩
structure Ran (k:Nat) (C C':Core):Prop where
 run:(Cz k C.hart C.mem).2=(C'.hart,C'.mem)
 commits:C'.commits=C.commits++(Cz k C.hart C.mem).1
 len:(Cz k C.hart C.mem).1.length=k
 wide:C'.wide=C.wide
 cycles:C'.cycles=C.cycles
 taken:C'.taken=C.taken
 backs:C'.backs=C.backs
theorem Ran.refl (C:Core):Ran 0 C C:=⟨rfl,by simp [Cz],rfl,rfl,rfl,rfl,rfl⟩
theorem Ran.trans {a b:Nat} {A B C:Core} (h:Ran a A B) (k:Ran b B C):Ran (a+b) A C:=by
 have e:=Abq a b A.hart A.mem
 have h1:(Cz a A.hart A.mem).2.1=B.hart:=by rw [h.run]
 have h2:(Cz a A.hart A.mem).2.2=B.mem:=by rw [h.run]
 rw [h1,h2] at e
 refine⟨by rw [e];exact k.run,by rw [e,k.commits,h.commits,List.append_assoc],by rw [e,qO,h.len,k.len],k.wide.trans h.wide,k.cycles.trans h.cycles,k.taken.trans h.taken,k.backs.trans h.backs⟩
theorem Ran.mid {k:Nat} {A B C:Core} (h:Ran k A B) (m:Mid B C):(Cz k A.hart A.mem).2=(C.hart,C.mem)∧C.commits=A.commits++(Cz k A.hart A.mem).1:=by
 rw [m.hart,m.mem,m.commits]
 exact⟨h.run,h.commits⟩
def own (C:Core):Core:={ C with slots:=C.ops.map B5 }
theorem Uu {C:Core} (h:Inv (own C)) {u:Uop} {R:List Uop} (ho:C.ops=u::R) (h2:u.state=2):Ran 1 C (Bn C)∧(Bn C).ops=R∧(Bn C).slots=C.slots:=by
 have H:Ag8 C u R:=by
  have H:=Ac5 h (R:=R) (u:=u) ho h2
  exact⟨H.com,H.pc,H.wf,H.fits,H.hart,H.mem⟩
 have hr:C.hart.state=0:=h.runs
 rw [En ho]
 refine⟨⟨?_,?_,?_,rfl,rfl,rfl,rfl⟩,rfl,rfl⟩
 ·rw [Gr hr]
  show(goH C.hart C.mem,goM C.hart C.mem)=(Cw u.commit C.hart,C4 u.commit C.mem)
  rw [H.hart,H.mem]
 ·rw [Gr hr,H.com]
  rfl
 ·rw [Gr hr]
  rfl
theorem Xo:∀ (n:Nat) (C:Core),Inv (own C)→F4 C→(∃ L R,C.ops=L++R∧L.length=n∧∀ u∈L,u.state=2) →
  ∃ k,k≤n∧(0<n→0<k)∧Ran k C (goneP n C)∧(goneP n C).slots=C.slots∧((goneP n C).hart.state≠0∨(Inv (own (goneP n C))∧F4 (goneP n C)∧(goneP n C).ops=C.ops.drop n))
 |0,C,h,hs,_=>⟨0,qC _,fun hh=>hh,Ran.refl C,rfl,Or.inr ⟨h,hs,rfl⟩⟩
 |n+1,C,h,hs,⟨[],R,ho,hl,hd⟩=>by cases hl
 |n+1,C,h,hs,⟨u::L,R,ho,hl,hd⟩=>by
  have h2:=hd u (by simp)
  obtain⟨hr,hops,hsl⟩:=Uu h (u:=u) (R:=L++R) ho h2
  have hO:=h.ops [] u (L++R) ho
  show ∃ k,k≤n+1∧(0<n+1→0<k)∧Ran k C (if (Bn C).hart.state≠0 then Bn C else goneP n (Bn C))∧_∧_
  by_cases h0:(Bn C).hart.state=0
  ·have e:goneP (n+1) C=goneP n (Bn C):=by
    show(if (Bn C).hart.state≠0 then Bn C else goneP n (Bn C))=_
    rw [if_neg (fun hh=>hh h0)]
   rw [e,if_neg (fun hh=>hh h0)]
   have hgo:(Bn C).hart=goH C.hart C.mem:=by
    have:=hr.run
    rw [Gr (show C.hart.state=0 from h.runs)] at this
    have:=congrArg Prod.fst this
    exact this.symm
   have hi1:Inv (own (Bn C)):=by
    have:=Aax h (u:=u) (R:=L++R) ho h2 (by show(goH C.hart C.mem).state=0;rw [←hgo];exact h0)
    rw [En (C:=own C) (u:=u) (R:=L++R) ho] at this
    rw [En ho]
    exact this
   have hstop:Cv u=false:=by
    have hcs:u.commit.state=0:=by
     have:(Bn C).hart=Cw u.commit C.hart:=by rw [En ho]
     rw [this] at h0
     exact h0
    unfold Cv
    rw [hcs]
    rcases Decidable.em (u.cause=0) with hc | hc
    ·rw [hc];simp
    ·have:=(hO.fault hc).2.1
     rw [this] at hcs
     cases hcs
   have hs1:=Uv hs ho hstop
   obtain⟨k,k1,k2,k3,k4,k5⟩:=Xo n (Bn C) hi1 hs1 ⟨L,R,hops,by simpa using hl,fun v hv=>hd v (by simp [hv])⟩
   refine⟨1+k,by omega,fun _=>by omega,hr.trans k3,k4.trans hsl,?_⟩
   rcases k5 with k5 | ⟨k5,k6,k7⟩
   ·exact Or.inl k5
   ·refine Or.inr ⟨k5,k6,?_⟩
    rw [k7,hops,ho]
    rfl
  ·have e:goneP (n+1) C=Bn C:=by
    show(if (Bn C).hart.state≠0 then Bn C else goneP n (Bn C))=_
    rw [if_pos h0]
   rw [e,if_pos h0]
   exact⟨1,by omega,fun _=>by omega,hr,hsl,Or.inl h0⟩
theorem Sa:∀ (ops:List Uop) (most:Int),∃ L R,ops=L++R∧L.length=Dy (ops.map B5) most∧∀ u∈L,u.state=2
 |[],_=>⟨[],[],rfl,rfl,fun u hu=>by cases hu⟩
 |u::ops,most=>by
  show ∃ L R,u::ops=L++R∧L.length=(if 0<most∧(B5 u).done=true then 1+Dy (ops.map B5) (most - 1) else 0)∧_
  split
  ·rename_i hc
   obtain⟨L,R,e,hl,hd⟩:=Sa ops (most - 1)
   refine⟨u::L,R,by rw [e];rfl,by simp [hl];omega,fun v hv=>?_⟩
   rcases List.mem_cons.1 hv with rfl | hv
   ·exact of_decide_eq_true hc.2
   ·exact hd v hv
  ·exact⟨[],u::ops,rfl,rfl,fun u hu=>by cases hu⟩
theorem Pk {C:Core} (h:Good C):∃ k:Nat,(k:Int)≤C.wide∧Ran k C (Bw C)∧((Bw C).hart.state≠0∨Good (Bw C)) ∧
  (k=0→(Bw C).ops=C.ops∧∀ u R,C.ops=u::R→u.state≠2)∧(∀ u∈(Bw C).ops,(Bw C).hart.state=0→u∈C.ops):=by
 have hK:Dy C.slots C.wide=Dy (C.ops.map B5) C.wide:=by rw [h.inv.slots]
 have hown:own { C with slots:=C.slots.drop (Dy C.slots C.wide) }=C:=by
  unfold own
  show { C with slots:=C.ops.map B5 }=C
  rw [←h.inv.slots]
 obtain⟨k,k1,k2,k3,k4,k5⟩:=Xo (Dy C.slots C.wide) { C with slots:=C.slots.drop (Dy C.slots C.wide) } (by rw [hown];exact h.inv) h.still (by rw [hK];exact Sa C.ops C.wide)
 have hw:=h.inv.cfg.2
 have hm:=On C.slots C.wide (by omega)
 refine⟨k,by omega,⟨k3.run,k3.commits,k3.len,k3.wide,k3.cycles,k3.taken,k3.backs⟩,?_,fun h0=>?_,fun u hu h0=>?_⟩
 ·rcases k5 with k5 | ⟨k5,k6,k7⟩
  ·exact Or.inl k5
  ·right
   have e:own (Bw C)=Bw C:=by
    have hs:(Bw C).slots=C.slots.drop (Dy C.slots C.wide):=k4
    have ho:(Bw C).ops=C.ops.drop (Dy C.slots C.wide):=k7
    unfold own
    have:(Bw C).ops.map B5=(Bw C).slots:=by rw [hs,ho,List.map_drop,←h.inv.slots]
    rw [this]
   refine⟨?_,k6⟩
   rw [←e]
   exact k5
 ·have hz:Dy C.slots C.wide=0:=by
   rcases Nat.eq_zero_or_pos (Dy C.slots C.wide) with e | e
   ·exact e
   ·have:=k2 e;omega
  refine⟨?_,fun u R ho h2=>?_⟩
  ·unfold Bw
   rw [hz]
   rfl
  ·rw [hK,ho] at hz
   have:(if 0<C.wide∧(B5 u).done=true then 1+Dy (R.map B5) (C.wide - 1) else 0)=0:=hz
   rw [if_pos ⟨by omega,qF h2⟩] at this
   omega
 ·rcases k5 with k5 | ⟨_,_,k7⟩
  ·exact absurd h0 k5
  ·have ho:(Bw C).ops=C.ops.drop (Dy C.slots C.wide):=k7
   rw [ho] at hu
   exact List.mem_of_mem_drop hu
def Akh (T D:Int):List Uop→Prop
 |[]=>T+11≤D
 |u::_=>(u.state=2∧T≤D)∨(u.state=1∧T+1≤D∧u.ready+1≤D)∨(u.state=0∧T+10≤D)
theorem Ahj {T:Int} {C:Core} (h:Inv C) (hs:Aev (T+9) C):Akh (T+1) (T+12) C.ops:=by
 cases ho:C.ops with
 |nil=>show T+1+11≤T+12;omega
 |cons u R=>
  rcases(h.ops [] u R ho).st with e | e | e
  ·exact Or.inr (Or.inr ⟨e,by omega⟩)
  ·refine Or.inr (Or.inl ⟨e,by omega,?_⟩)
   have:=hs u (by rw [ho];simp) e
   omega
  ·exact Or.inl ⟨e,by omega⟩
structure Lw (C:Core) (D:Int):Prop where
 good:Good C
 soon:Aev (C.cycles+8) C
 due:Akh C.cycles D C.ops
theorem Aeg {T D:Int} {l:List Uop} (h:Akh T D l):T≤D:=by
 cases l with
 |nil=>have h:T+11≤D:=h;omega
 |cons u R=>
  have h:(u.state=2∧T≤D)∨(u.state=1∧T+1≤D∧u.ready+1≤D)∨(u.state=0∧T+10≤D):=h
  omega
theorem Vm {n:Nat} (h:0<n):∃ m,n=m+1:=⟨n - 1,by omega⟩
structure Ag7 (C C':Core) (k:Nat):Prop where
 run:(Cz k C.hart C.mem).2=(C'.hart,C'.mem)
 commits:C'.commits=C.commits++(Cz k C.hart C.mem).1
 len:(Cz k C.hart C.mem).1.length=k
 few:(k:Int)≤C.wide
 wide:C'.wide=C.wide
 cycles:C'.cycles=C.cycles+1
 taken:C.taken≤C'.taken
 backs:C.backs≤C'.backs
theorem Sj {C:Core} (h:Good C):Good { C with cycles:=C.cycles+1 }:=by
 obtain⟨h,hs⟩:=h
 refine⟨⟨h.cfg,h.hart,h.may,h.runs,h.bytes,h.room,h.tab,h.words,h.there,h.slots,h.seqs,h.access,h.names,h.pcs,h.len,h.seq0,h.pc,fun L v R e=>?_⟩,hs⟩
 have:=h.ops L v R e
 exact⟨this.seq,this.st,this.fault,this.cause,this.fetch,this.pc,this.next,this.nextS,this.src,this.gs,this.d1,this.d2,this.com,this.nx,this.lone,this.last⟩
theorem Ud {C:Core} {D:Int} (h:Lw C D):∃ k,Ag7 C (Cd C) k∧((0<k∧(Cd C).hart.state≠0)∨(0<k∧Lw (Cd C) (C.cycles+12))∨(k=0∧Lw (Cd C) D)):=by
 obtain⟨k,kw,kr,kg,k0,kin⟩:=Pk (Sj h.good)
 have e:Cd C=(let c1:=Bw { C with cycles:=C.cycles+1 }
   if c1.hart.state≠0 then c1
   else
    let c2:=finishAll c1.ops.length 0 C.cycles c1
    let c3:=beginAll c2.ops.length 0 0 C.cycles c2
    fetchAll c3.wide.toNat c3):=rfl
 rw [e]
 dsimp only
 generalize hc1:Bw { C with cycles:=C.cycles+1 }=c1 at kr kg k0 kin ⊢
 have hcyc1:c1.cycles=C.cycles+1:=kr.cycles
 by_cases h0:c1.hart.state=0
 ·rw [if_neg (fun hh=>hh h0)]
  have g1:Good c1:=by
   rcases kg with kg | kg
   ·exact absurd h0 kg
   ·exact kg
  have hs1:Aev (C.cycles+8) c1:=fun u hu h1=>h.soon u (kin u hu h0) h1
  have P2:=Gd C.cycles (C.cycles+8) c1.ops.length c1 [] c1.ops g1 rfl
  have P2:Part c1 (finishAll c1.ops.length 0 C.cycles c1) (C.cycles+8) []:=P2
  generalize hc2:finishAll c1.ops.length 0 C.cycles c1=c2 at P2 ⊢
  have P3:=Lz C.cycles c2.ops.length 0 c2 [] c2.ops P2.good rfl
  have P3:Part c2 (beginAll c2.ops.length 0 0 C.cycles c2) (C.cycles+9) []:=P3
  generalize hc3:beginAll c2.ops.length 0 0 C.cycles c2=c3 at P3 ⊢
  have P4:=K5 (C.cycles+9) c3.wide.toNat c3 P3.good
  have hs2:=P2.soon hs1
  have hs4:=P4.soon (P3.soon fun u hu h1=>by have:=hs2 u hu h1;omega)
  have hm:=P2.mid.trans (P3.mid.trans P4.mid)
  obtain⟨r1,r2⟩:=kr.mid hm
  have hcyc:(fetchAll c3.wide.toNat c3).cycles=C.cycles+1:=by rw [hm.cycles,hcyc1]
  have hCy:Ag7 C (fetchAll c3.wide.toNat c3) k:=⟨r1,r2,kr.len,kw,by rw [hm.wide];exact kr.wide,hcyc,by have:=hm.taken;rw [kr.taken] at this;exact this,by have:=hm.backs;rw [kr.backs] at this;exact this⟩
  refine⟨k,hCy,Or.inr ?_⟩
  have hs5:Aev ((fetchAll c3.wide.toNat c3).cycles+8) (fetchAll c3.wide.toNat c3):=by rw [hcyc];intro u hu h1;have:=hs4 u hu h1;omega
  rcases Nat.eq_zero_or_pos k with hk | hk
  ·right
   refine⟨hk,P4.good,hs5,?_⟩
   rw [hcyc]
   obtain⟨q1,q2⟩:=k0 hk
   have q1:c1.ops=C.ops:=q1
   have hdue:=h.due
   obtain⟨R4,e4⟩:=P4.ops
   cases ho:C.ops with
   |nil=>
    rw [ho] at hdue q1
    have hdue:C.cycles+11≤D:=hdue
    have e2:c2=c1:=by rw [←hc2];exact Aas _ _ _ q1
    have e3:c3=c2:=by rw [←hc3];exact Acf _ _ _ _ (by rw [e2];exact q1)
    have ho3:c3.ops=[]:=by rw [e3,e2];exact q1
    have hw3:=P3.good.inv.cfg.2
    obtain⟨n,hn⟩:=Vm (n:=c3.wide.toNat) (by omega)
    obtain⟨u,R,eu,hst⟩:=Un n P3.good ho3
    rw [hn,eu]
    rcases hst with hst | hst
    ·exact Or.inr (Or.inr ⟨hst,by omega⟩)
    ·exact Or.inl ⟨hst,by omega⟩
   |cons u R=>
    rw [ho] at hdue q1
    have hdue:(u.state=2∧C.cycles≤D)∨(u.state=1∧C.cycles+1≤D∧u.ready+1≤D)∨(u.state=0∧C.cycles+10≤D):=hdue
    have hn2:=q2 u R ho
    have hst:=(h.good.inv.ops [] u R ho).st
    obtain⟨n1,hn1⟩:=Vm (n:=c1.ops.length) (by rw [q1];simp)
    obtain⟨u2,R2,e2,s2⟩:=Aar C.cycles 0 n1 g1 q1
    rw [←hn1,hc2] at e2
    obtain⟨n3,hn3⟩:=Vm (n:=c2.ops.length) (by rw [e2];simp)
    obtain⟨u3,R3,e3,s3⟩:=Tg C.cycles n3 P2.good e2
    rw [←hn3,hc3] at e3
    rw [e4,e3]
    show(u3.state=2∧_)∨(u3.state=1∧_∧_)∨(u3.state=0∧_)
    rcases s2 with s2 | ⟨rfl,s2⟩
    ·rw [if_neg (by omega)] at s3
     subst s3
     exact Or.inl ⟨s2,by omega⟩
    ·rcases hst with hst | hst | hst
     ·rw [if_pos hst] at s3
      exact Or.inr (Or.inl ⟨s3.1,by omega,by omega⟩)
     ·rw [if_neg (by omega)] at s3
      subst s3
      refine Or.inr (Or.inl ⟨hst,?_,by omega⟩)
      have:¬ (u3.ready≤C.cycles):=fun hh=>s2 ⟨hst,hh⟩
      omega
     ·exact absurd hst hn2
  ·left
   refine⟨hk,P4.good,hs5,?_⟩
   rw [hcyc]
   exact Ahj P4.good.inv hs4
 ·rw [if_pos h0]
  have hk:0<k:=by
   rcases Nat.eq_zero_or_pos k with hk | hk
   ·exfalso
    have:=kr.run
    rw [hk] at this
    have:C.hart=c1.hart:=congrArg Prod.fst this
    rw [←this] at h0
    exact h0 h.good.inv.runs
   ·exact hk
  exact⟨k,⟨kr.run,kr.commits,kr.len,kw,kr.wide,hcyc1,by rw [kr.taken];exact Int.le_refl _,by rw [kr.backs];exact Int.le_refl _⟩,Or.inl ⟨hk,h0⟩⟩
theorem Ait:∀ k,k<16→Wx[k*2]? = some (.int .i64 0)∧Wx[k*2+1]? = some (.int .u32 0)
 |0,_ | 1,_ | 2,_ | 3,_ | 4,_ | 5,_ | 6,_ | 7,_ | 8,_ | 9,_ | 10,_ | 11,_ | 12,_ | 13,_ | 14,_ | 15,_=>⟨rfl,rfl⟩
 |n+16,h=>by omega
theorem Aj8:∀ k,k<8→Wx[32+k*4]? = some (.int .u32 0)∧Wx[32+k*4+1]? = some (.int .u32 0)∧Wx[32+k*4+2]? = some (.int .u32 0)∧Wx[32+k*4+3]? = some (.int .i64 0)
 |0,_ | 1,_ | 2,_ | 3,_ | 4,_ | 5,_ | 6,_ | 7,_=>⟨rfl,rfl,rfl,rfl⟩
 |n+8,h=>by omega
theorem Aj7:E9 Wx:=by
 refine⟨rfl,fun k hk=>⟨⟨0,0⟩,?_,?_⟩,fun k hk=>⟨⟨0,0,0,0⟩,?_,?_⟩⟩
 ·constructor<;>decide
 ·obtain⟨h1,h2⟩:=Ait k hk
  exact⟨h1,h2⟩
 ·constructor<;>decide
 ·obtain⟨h1,h2,h3,h4⟩:=Aj8 k hk
  exact⟨h1,h2,h3,h4⟩
theorem Agl (r:Nat) (hr:r<32):Ia.getD r 0=(r:Int):=by
 unfold Ia
 simp [List.getD,List.getElem?_range hr]
theorem Adx (r:Nat) (hr:r<32):(List.replicate 32 true++List.replicate 64 false).getD r false=true:=by
 simp only [List.getD]
 rw [qQ (by rw [List.length_replicate];exact hr),List.getElem?_replicate,if_pos hr]
 rfl
theorem Amq (phys:Int) (h1:33≤phys) (h2:phys≤96):Do ((Ws phys).getD Ax.zero)∧((Ws phys).getD Ax.zero).all.length=((Ws phys).getD Ax.zero).phys.toNat∧((Ws phys).getD Ax.zero).regs=Ia:=by
 have e:(Ws phys).getD Ax.zero=⟨phys,Ia,H7 (phys - 32).toNat⟩:=by
  unfold Ws
  rw [if_pos ⟨h1,h2⟩]
  rfl
 rw [e]
 have hm:=Ajq (phys - 32).toNat (by omega) (by omega)
 refine⟨⟨by simp [Ia],?_,rfl⟩,?_,rfl⟩
 ·unfold Ax.may Ax.all
  rw [show((32+(phys - 32).toNat:Nat):Int)=phys by omega] at hm
  exact hm
 ·show(Ia++H7 (phys - 32).toNat).length=phys.toNat
  rw [Adc]
  simp
  omega
structure Ad8 (window phys wide:Int) (h:Aq) (m:List Int):Prop where
 window:1≤window∧window≤32
 phys:33≤phys∧phys≤96
 wide:1≤wide∧wide≤4
 hart:h.Wf
 may:Ip h=true
 bytes:Bytes m
 room:m.length≤4096
theorem O0 {window phys wide:Int} {h:Aq} {m:List Int} (a:Ad8 window phys wide h m) (hs:h.state=0) (script:List Int):Lw (Kp window phys wide h m script) 11:=by
 obtain⟨n1,n2,n3⟩:=Amq phys a.phys.1 a.phys.2
 refine⟨⟨⟨⟨a.window,a.wide.1,a.wide.2⟩,a.hart,a.may,hs,a.bytes,a.room,Aj7,⟨?_,fun x hx=>?_⟩,?_,rfl,List.Pairwise.nil,rfl,⟨_,n1,n2,rfl,fun r hr=>?_⟩,rfl,?_,Int.le_refl _,⟨a.hart.pc0,a.hart.pc1⟩,fun L v R e=>?_⟩,fun hh=>by cases hh⟩,fun u hu=>(by cases hu),by show(0:Int)+11≤11;omega⟩
 ·show(h.regs++List.replicate 64 0).length=96
  rw [qO,a.hart.len]
  simp
 ·rcases List.mem_append.1 hx with hx | hx
  ·exact a.hart.word x hx
  ·rw [List.eq_of_mem_replicate hx];omega
 ·show(List.replicate 32 true++List.replicate 64 false).length=96
  simp
 ·rw [n3,Agl r hr]
  refine⟨Adx r hr,?_⟩
  show(h.regs++List.replicate 64 0).getD ((r:Int)).toNat 0=h.regs.getD r 0
  rw [Int.toNat_natCast]
  simp only [List.getD]
  rw [qQ (by rw [a.hart.len];exact hr)]
 ·show(0:Int)≤window
  have:=a.window
  omega
 ·have e:[]=L++v::R:=e
  cases L<;>cases e
structure Ab9 (C C':Core) (n:Nat) (k:Nat):Prop where
 run:(Cz k C.hart C.mem).2=(C'.hart,C'.mem)
 commits:C'.commits=C.commits++(Cz k C.hart C.mem).1
 len:(Cz k C.hart C.mem).1.length=k
 few:(k:Int)≤(C'.cycles - C.cycles)*C.wide
 wide:C'.wide=C.wide
 cycles:C.cycles≤C'.cycles∧C'.cycles≤C.cycles+n
 all:C'.cycles<C.cycles+n→C'.hart.state≠0
 taken:C.taken≤C'.taken
 backs:C.backs≤C'.backs
theorem Ab9.refl {n:Nat} (C:Core) (h:C.hart.state≠0∨n=0):Ab9 C C n 0:=
 ⟨rfl,by simp [Cz],rfl,by simp,rfl,⟨Int.le_refl _,by omega⟩,fun hh=>by rcases h with h | h;exact h;omega,Int.le_refl _,Int.le_refl _⟩
theorem Np:∀ (n:Nat) (C:Core) (D:Int),Lw C D→D≤12*(C.commits.length:Int)+11→∃ k,Ab9 C (Dc n C) n k∧(Dc n C).cycles≤12*((Dc n C).commits.length:Int)+11
 |0,C,D,h,hd=>⟨0,Ab9.refl C (Or.inr rfl),by have:=Aeg h.due;show C.cycles≤12*(C.commits.length:Int)+11;omega⟩
 |n+1,C,D,h,hd=>by
  have hr:=h.good.inv.runs
  have e:Dc (n+1) C=Dc n (Cd C):=by
   show(if C.hart.state=0 then Dc n (Cd C) else C)=_
   rw [if_pos hr]
  rw [e]
  obtain⟨k,hk,hcase⟩:=Ud h
  have hT:=Aeg h.due
  have hlen:((Cd C).commits.length:Int)=C.commits.length+k:=by rw [hk.commits,qO,hk.len];omega
  have hw:1≤C.wide:=h.good.inv.cfg.2.1
  have step:∀ k2,Ab9 (Cd C) (Dc n (Cd C)) n k2→Ab9 C (Dc n (Cd C)) (n+1) (k+k2):=by
   intro k2 w
   have ea:=Abq k k2 C.hart C.mem
   have h1:(Cz k C.hart C.mem).2.1=(Cd C).hart:=by rw [hk.run]
   have h2:(Cz k C.hart C.mem).2.2=(Cd C).mem:=by rw [hk.run]
   rw [h1,h2] at ea
   have hc:=hk.cycles
   have wc:=w.cycles
   refine⟨by rw [ea];exact w.run,by rw [ea,w.commits,hk.commits,List.append_assoc],by rw [ea,qO,hk.len,w.len],?_,w.wide.trans hk.wide,⟨by omega,by omega⟩,fun hh=>w.all (by omega),Int.le_trans hk.taken w.taken,Int.le_trans hk.backs w.backs⟩
   have f1:=hk.few
   have f2:=w.few
   rw [hk.wide] at f2
   have:((Dc n (Cd C)).cycles - C.cycles)*C.wide=((Dc n (Cd C)).cycles - (Cd C).cycles)*C.wide+C.wide:=by
    rw [show(Dc n (Cd C)).cycles - C.cycles=((Dc n (Cd C)).cycles - (Cd C).cycles)+1 by omega,Int.add_mul,Int.one_mul]
   rw [this]
   omega
  rcases hcase with⟨hk0,hst⟩ | ⟨hk0,hb⟩ | ⟨hk0,hb⟩
  ·have e2:Dc n (Cd C)=Cd C:=by
    cases n with
    |zero=>rfl
    |succ n=>
     show(if (Cd C).hart.state=0 then Dc n (Cd (Cd C)) else Cd C)=_
     rw [if_neg hst]
   refine⟨k,?_,?_⟩
   ·have:=step 0 (by rw [e2];exact Ab9.refl _ (Or.inl hst))
    simpa using this
   ·rw [e2,hk.cycles,hlen]
    omega
  ·obtain⟨k2,w,q⟩:=Np n (Cd C) _ hb (by rw [hlen];omega)
   exact⟨k+k2,step k2 w,q⟩
  ·obtain⟨k2,w,q⟩:=Np n (Cd C) _ hb (by rw [hlen];omega)
   exact⟨k+k2,step k2 w,q⟩
structure Shown (C:Core) (wide:Int) (h:Aq) (m:List Int) (n:Nat):Prop where
 run:Cz C.commits.length h m=(C.commits,C.hart,C.mem)
 few:(C.commits.length:Int)≤C.cycles*wide
 many:C.cycles / 60≤C.commits.length
 cycles:0≤C.cycles∧C.cycles≤n
 all:C.cycles<n→C.hart.state≠0
 taken:0≤C.taken
 backs:0≤C.backs
theorem Agm {window phys wide:Int} {h:Aq} {m:List Int} (a:Ad8 window phys wide h m) (script:List Int) (n:Nat):Shown (Jm window phys wide h m script n) wide h m n:=by
 unfold Jm
 by_cases hs:h.state=0
 ·obtain⟨k,w,q⟩:=Np n _ 11 (O0 a hs script) (by show(11:Int)≤12*((0:Nat):Int)+11;omega)
  have hc:(Dc n (Kp window phys wide h m script)).commits=(Cz k h m).1:=by
   have:=w.commits
   exact this
  have hl:(Dc n (Kp window phys wide h m script)).commits.length=k:=by rw [hc];exact w.len
  have h0:(Kp window phys wide h m script).cycles=0:=rfl
  have hcy:=w.cycles
  have hf:=w.few
  have hall:=w.all
  rw [h0] at hcy hf hall
  rw [hl] at q
  refine⟨?_,?_,?_,by omega,fun hh=>hall (by omega),w.taken,w.backs⟩
  ·rw [hl,hc]
   have:=w.run
   have this:(Cz k h m).2=_:=this
   rw [←this]
  ·rw [hl]
   have:((Dc n (Kp window phys wide h m script)).cycles - 0)*wide=(Dc n (Kp window phys wide h m script)).cycles*wide:=by rw [Int.sub_zero]
   rw [←this]
   exact hf
  ·rw [hl]
   omega
 ·have e:Dc n (Kp window phys wide h m script)=Kp window phys wide h m script:=by
   cases n with
   |zero=>rfl
   |succ n=>
    show(if h.state=0 then _ else Kp window phys wide h m script)=_
    rw [if_neg hs]
  rw [e]
  refine⟨rfl,?_,?_,⟨Int.le_refl _,by show(0:Int)≤n;omega⟩,fun _=>hs,Int.le_refl _,Int.le_refl _⟩
  ·show((0:Nat):Int)≤0*wide
   simp
  ·show(0:Int) / 60≤((0:Nat):Int)
   decide
end Go.Proofs.YtapgojgcmlnbgaaGreatDoor
