/- Parts of a proof. -/
import Derived.Test.YtapgojgcmlnbgaaGreatDoorK07
set_option linter.unusedSimpArgs false
set_option linter.unusedVariables false
set_option maxRecDepth 100000
set_option maxHeartbeats 16000000
namespace Go.Proofs.YtapgojgcmlnbgaaGreatDoor
open Go
def Er (C:Core) (u:Uop) (v:Int):List Int:=if 0<u.dest then C.words.set u.dest.toNat v else C.words
def It (C:Core) (u:Uop):List Bool:=if 0<u.dest then C.there.set u.dest.toNat true else C.there
def Ce (C:Core) (u:Uop) (l:Com):Acc:=
 if Bo u.ins=true∧l.state=0 then ⟨u.seq,false,true,u32 (C.word u.a+u.ins.imm),loadBytes u.ins.op,0,true⟩ else ⟨u.seq,A0 u.ins,false,0,0,0,false⟩
def gD (C:Core) (u:Uop) (a:Acc) (v:Uop):Acc:=if v.seq=u.seq then { a with seq:=v.seq } else Be C.words v
theorem Tq (C:Core) (u:Uop) (a:Acc) (v:Uop):(gD C u a v).seq=v.seq:=by
 unfold gD
 split
 ·rfl
 ·exact Et _ _
theorem Pz (C:Core) (u:Uop) (l:Com):(Ce C u l).seq=u.seq:=by
 unfold Ce
 split<;>rfl
def uD (u:Uop) (l:Com):Uop:={ u with state:=2,commit:=l }
def B6 (C:Core) (L R:List Uop) (u:Uop) (l:Com) (u':Uop) (a:Acc):Core:=
 { C with access:=((L++u'::R).filter Bc).map (gD C u a),words:=Er C u l.value,there:=It C u,ops:=L++u'::R,slots:=(L++u'::R).map Bz }
theorem Gn {L R:List Uop} {u:Uop} (h:(L++u::R).Pairwise (fun u v=>u.seq<v.seq)):(∀ v∈L,v.seq≠u.seq)∧∀ v∈R,v.seq≠u.seq:=
 ⟨fun v hv e=>by have:=(Dz h).1 v hv;omega,fun v hv e=>by have:=(Dz h).2 v hv;omega⟩
theorem Nx {C:Core} {u:Uop} {a:Acc} {A:List Uop} (h:∀ v∈A,v.seq≠u.seq):(A.filter Bc).map (gD C u a)=(A.filter Bc).map (Be C.words):=
 List.map_congr_left fun v hv=>by
  unfold gD
  rw [if_neg (h v (List.mem_filter.1 hv).1)]
theorem Agn {C:Core} {L R:List Uop} {u u':Uop} {a:Acc} (hq:(L++u::R).Pairwise (fun u v=>u.seq<v.seq)) (hm:Bc u=true) (hm':Bc u'=Bc u) (hs:u'.seq=u.seq) (ha:a.seq=u.seq) :
  ((L++u'::R).filter Bc).map (gD C u a)=(L.filter Bc).map (Be C.words)++a::(R.filter Bc).map (Be C.words):=by
 rw [List.filter_append,List.filter_cons_of_pos (by rw [hm'];exact hm),List.map_append,List.map_cons,Nx (Gn hq).1,Nx (Gn hq).2]
 congr 2
 unfold gD
 rw [if_pos hs,hs,←ha]
theorem Aik {C:Core} {L R:List Uop} {u u':Uop} {a:Acc} (hq:(L++u::R).Pairwise (fun u v=>u.seq<v.seq)) (hm:Bc u=false) (hm':Bc u'=Bc u) :
  ((L++u'::R).filter Bc).map (gD C u a)=((L++u::R).filter Bc).map (Be C.words):=by
 rw [List.filter_append,List.filter_append,List.filter_cons_of_neg (by rw [hm',hm];simp),List.filter_cons_of_neg (by rw [hm];simp),List.map_append,List.map_append,Nx (Gn hq).1,Nx (Gn hq).2]
theorem Ur {L R:List Uop} {u u':Uop} (hq:(L++u::R).Pairwise (fun u v=>u.seq<v.seq)) (h1:u.state=1) (h2:u'.state=2) (hs:u'.seq=u.seq) :
  Ih ((L++u::R).map Bz) u.seq=some ((L++u'::R).map Bz):=by
 rw [List.map_append,List.map_cons,List.map_append,List.map_cons]
 have e1:Bz u=⟨u.seq,false⟩:=by unfold Bz;rw [h1];rfl
 have e2:Bz u'=⟨u.seq,true⟩:=by unfold Bz;rw [h2,hs];rfl
 rw [e1,e2]
 exact Ti fun s hs=>by
  obtain⟨v,hv,rfl⟩:=List.mem_map.1 hs
  exact(Gn hq).1 v hv
theorem Zs {C:Core} (h:Inv C) {L R:List Uop} {u:Uop} (ho:C.ops=L++u::R) (h1:u.state=1) :
  (if Bo u.ins=true then Mq C u else (Ck u.ins (Ed C u) C.mem,C.access))=(Ab C L u,((L++uD u (Ab C L u)::R).filter Bc).map (gD C u (Ce C u (Ab C L u)))):=by
 obtain⟨N,hgN,_,hcN,_⟩:=h.names
 have hO:=h.ops L u R ho
 have hsq:=h.seqs
 have hac:=h.access
 rw [ho] at hcN hsq hac
 have hcz:u.cause=0:=by
  rcases Decidable.em (u.cause=0) with hc | hc
  ·exact hc
  ·have:=(hO.fault hc).1;omega
 have hi:=H6 (Inv.insOk hO hcz)
 obtain⟨K,_,hK,hNk,_⟩:=F7 hcN hgN rfl
 have hr1:=Ahr (C:=C) (by exact h.hart.len) hNk hcz (by omega) (by omega)
 have hm':Bc (uD u (Ab C L u))=Bc u:=rfl
 have hbase:Be C.words u=⟨u.seq,A0 u.ins,false,0,0,0,false⟩:=by
  unfold Be A1
  rw [h1]
  simp
 have hsee:=fun(p many:Int)=>Uq (words:=C.words) (A:=L) (B:=u::R) (seq:=u.seq) C.mem p many (fun v hv=>by
  rcases List.mem_cons.1 hv with rfl | hv
  ·omega
  ·have:=(Dz hsq).2 v hv;omega)
 by_cases hl:Bo u.ins=true
 ·have hmem:Bc u=true:=by unfold Bc;rw [hl];rfl
  have hst:A0 u.ins=false:=by
   rcases e:A0 u.ins with _ | _
   ·rfl
   ·have:=Fh.1 e;have:=D3.1 hl;omega
  obtain⟨q1,q2,q3⟩:=Sz (g:=Be C.words) (R:=R) hmem (Et _) (Gn hsq).1 (Ce C u (Ab C L u))
  have hex:Ab C L u=Kl (known L) C.mem u (C.word u.a):=by unfold Ab;rw [if_pos hl]
  have hss:=hsee (u32 (C.word u.a+u.ins.imm)) (loadBytes u.ins.op)
  rw [if_pos hl,Agn hsq hmem hm' rfl (Pz _ _ _)]
  unfold Mq
  simp only [hr1]
  rw [hac,hss.1,hss.2]
  have hx:=hex
  unfold Kl at hx
  simp only at hx
  split
  ·rename_i hok
   rw [if_pos hok] at hx
   rw [←hx,q1,q2]
   have hst0:(Ab C L u).state=0:=by
    rw [hex]
    exact(Nf hl _ _ _).2 (by rw [←N7 (known L) C.mem u.seq];exact hok)
   have:({ Be C.words u with known:=true,at_:=u32 (C.word u.a+u.ins.imm),many:=loadBytes u.ins.op,done:=true }:Acc)=Ce C u (Ab C L u):=by
    rw [hbase]
    unfold Ce
    rw [if_pos ⟨hl,hst0⟩,hst]
   rw [this,q3]
  ·rename_i hok
   rw [if_neg hok] at hx
   rw [←hx]
   have hst0:¬ (Ab C L u).state=0:=by
    rw [hex,Nf hl,←N7 (known L) C.mem u.seq]
    exact hok
   have:Ce C u (Ab C L u)=Be C.words u:=by
    unfold Ce
    rw [if_neg (fun hh=>hst0 hh.2),hbase]
   rw [this,List.filter_append,List.filter_cons_of_pos hmem,List.map_append,List.map_cons]
 ·rw [if_neg hl]
  have hex:Ab C L u=Ck u.ins (Ed C u) C.mem:=by unfold Ab;rw [if_neg hl]
  rw [←hex]
  congr 1
  rw [hac]
  rcases hmem:Bc u with _ | _
  ·rw [Aik hsq hmem hm']
  ·rw [Agn hsq hmem hm' rfl (Pz _ _ _)]
   have:Ce C u (Ab C L u)=Be C.words u:=by
    unfold Ce
    rw [if_neg (fun hh=>hl hh.1),hbase]
   rw [this,List.filter_append,List.filter_cons_of_pos hmem,List.map_append,List.map_cons]
def Ou (C:Core) (L:List Uop) (u:Uop):Bool:=(u.guessed&&decide (C.word u.dest≠(Ab C L u).value)) || decide ((Ab C L u).next≠u.next)
theorem M5 {C:Core} (h:Inv C) {L R:List Uop} {u:Uop} (ho:C.ops=L++u::R) (h1:u.state=1) :
  B3 C L.length =
   (let l:=Ab C L u
    let c2:=B6 C L R u l (uD u l) (Ce C u l)
    if l.state≠0 then { Fz c2 (u.seq+1) u.pc with still:=true }
    else
     let c3:=if Ou C L u=true then Fz (B6 C L R u l { uD u l with next:=l.next } (Ce C u l)) (u.seq+1) l.next else c2
     if A0 u.ins=true then E9 c3 L.length else c3):=by
 have hsq:=h.seqs
 rw [ho] at hsq
 have hu:C.op L.length=u:=Core.op_at ho
 have hlc:=Zs h ho h1
 unfold B3
 rw [hu]
 simp only [hlc]
 have hf:Ep { Dk { C with access:=((L++uD u (Ab C L u)::R).filter Bc).map (gD C u (Ce C u (Ab C L u))) } u.dest (Ab C L u).value with ops:=C.ops.set L.length { u with commit:=Ab C L u } } L.length=B6 C L R u (Ab C L u) (uD u (Ab C L u)) (Ce C u (Ab C L u)):=by
  unfold Ep
  rw [Wq]
  have e1:C.ops.set L.length { u with commit:=Ab C L u }=L++{ u with commit:=Ab C L u }::R:=by rw [ho];exact Ge
  simp only [e1]
  have e2:Core.op { C with access:=((L++uD u (Ab C L u)::R).filter Bc).map (gD C u (Ce C u (Ab C L u))),words:=if 0<u.dest then C.words.set u.dest.toNat (Ab C L u).value else C.words,there:=if 0<u.dest then C.there.set u.dest.toNat true else C.there,ops:=L++{ u with commit:=Ab C L u }::R } L.length={ u with commit:=Ab C L u }:=Core.op_at rfl
  rw [e2,Ge]
  have e3:(Ih C.slots u.seq).getD []=(L++uD u (Ab C L u)::R).map Bz:=by
   rw [h.slots,ho,Ur hsq h1 (u':=uD u (Ab C L u)) rfl rfl]
   rfl
  simp only [e3]
  rfl
 rw [hf]
 have hop:Core.op (B6 C L R u (Ab C L u) (uD u (Ab C L u)) (Ce C u (Ab C L u))) L.length=uD u (Ab C L u):=Core.op_at rfl
 have hset:(B6 C L R u (Ab C L u) (uD u (Ab C L u)) (Ce C u (Ab C L u))).ops.set L.length { uD u (Ab C L u) with next:=(Ab C L u).next }=L++{ uD u (Ab C L u) with next:=(Ab C L u).next }::R:=Ge
 rw [hop,hset]
 have hcc:({ B6 C L R u (Ab C L u) (uD u (Ab C L u)) (Ce C u (Ab C L u)) with ops:=L++{ uD u (Ab C L u) with next:=(Ab C L u).next }::R }:Core)=B6 C L R u (Ab C L u) { uD u (Ab C L u) with next:=(Ab C L u).next } (Ce C u (Ab C L u)):=by
  unfold B6
  have e1:(L++{ uD u (Ab C L u) with next:=(Ab C L u).next }::R).map Bz=(L++uD u (Ab C L u)::R).map Bz:=by simp [Bz]
  have e2:((L++{ uD u (Ab C L u) with next:=(Ab C L u).next }::R).filter Bc).map (gD C u (Ce C u (Ab C L u)))=((L++uD u (Ab C L u)::R).filter Bc).map (gD C u (Ce C u (Ab C L u))):=by
   rw [List.filter_append,List.filter_append,List.filter_cons,List.filter_cons]
   have:Bc { uD u (Ab C L u) with next:=(Ab C L u).next }=Bc (uD u (Ab C L u)):=rfl
   rw [this]
   split
   ·simp [gD,uD]
   ·rfl
  rw [e1,e2]
 rw [hcc]
 rfl
def Fo {α:Type} (P:α→Bool) (k:α→Int) (x:Int×Bool) (a:α):Int×Bool:=if (P a&&(!x.2 || decide (k a<x.1)))=true then (k a,true) else x
theorem Nh {α:Type} (P:α→Bool) (k:α→Int):∀ (l:List α) (x:Int×Bool),
  ((l.foldl (Fo P k) x).2=true→(x.2=true∧(l.foldl (Fo P k) x).1=x.1)∨∃ a∈l,P a=true∧(l.foldl (Fo P k) x).1=k a) ∧
  (∀ a∈l,P a=true→(l.foldl (Fo P k) x).2=true∧(l.foldl (Fo P k) x).1≤k a)∧(x.2=true→(l.foldl (Fo P k) x).2=true∧(l.foldl (Fo P k) x).1≤x.1)
 |[],x=>⟨fun h=>Or.inl ⟨h,rfl⟩,fun a ha _=>absurd ha List.not_mem_nil,fun h=>⟨h,Int.le_refl _⟩⟩
 |b::l,x=>by
  rw [List.foldl_cons]
  obtain⟨i1,i2,i3⟩:=Nh P k l (Fo P k x b)
  generalize l.foldl (Fo P k) (Fo P k x b)=f at i1 i2 i3
  by_cases hb:(P b&&(!x.2 || decide (k b<x.1)))=true
  ·have e:Fo P k x b=(k b,true):=if_pos hb
   rw [e] at i1 i3
   obtain⟨j1,j2⟩:=i3 rfl
   have hPb:P b=true:=by rw [Bool.and_eq_true] at hb;exact hb.1
   refine⟨fun h=>Or.inr ?_,fun a ha hP=>?_,fun hx=>⟨j1,?_⟩⟩
   ·rcases i1 h with⟨_,h2⟩ | ⟨a,ha,h2⟩
    ·exact⟨b,by simp,hPb,h2⟩
    ·exact⟨a,by simp [ha],h2⟩
   ·rcases List.mem_cons.1 ha with rfl | ha
    ·exact⟨j1,j2⟩
    ·exact i2 a ha hP
   ·rw [Bool.and_eq_true,hx] at hb
    simp at hb
    have:f.1≤k b:=j2
    omega
  ·have e:Fo P k x b=x:=if_neg hb
   rw [e] at i1 i3
   refine⟨fun h=>?_,fun a ha hP=>?_,i3⟩
   ·rcases i1 h with h2 | ⟨a,ha,h2⟩
    ·exact Or.inl h2
    ·exact Or.inr ⟨a,by simp [ha],h2⟩
   ·rcases List.mem_cons.1 ha with rfl | ha
    ·rw [hP] at hb
     simp at hb
     obtain⟨h1,h2⟩:=hb
     obtain⟨h3,h4⟩:=i3 h1
     exact⟨h3,by omega⟩
    ·exact i2 a ha hP
def Sd (s a:Acc):Bool:=!a.store&&a.known&&a.done&&decide (s.seq<a.seq)&&Qe s a
theorem Af7 (s:Acc):Fi s=Fo (Sd s) (·.seq):=rfl
def Aay (seq at_ many:Int) (v:Uop):Bool:=decide (seq<v.seq)&&Ub v.pc at_ many
theorem V8 (seq at_ many:Int):Dl seq at_ many=Fo (Aay seq at_ many) (·.seq):=rfl
theorem U1 (l:List Acc) {seq:Int} {s:Acc} {Q:List Acc} (hs:I1 seq s=true):∀ {P:List Acc},(∀ x∈P,I1 seq x=false)→If l seq (P++s::Q)=l.foldl (Fi s) (0,false)
 |[],_=>by
  show(if I1 seq s=true then _ else _)=_
  rw [if_pos hs]
 |x::P,h=>by
  show(if I1 seq x=true then _ else If l seq (P++s::Q))=_
  rw [if_neg (by rw [h x (by simp)];simp),U1 l hs (fun y hy=>h y (by simp [hy]))]
theorem Aiw {s a:Acc} (h:Qe s a=false) {q:Int} (h1:hasB s q=true) (h2:hasB a q=true):False:=by
 have h1':=h1
 unfold hasB at h1'
 simp only [Bool.and_eq_true,decide_eq_true_eq] at h1'
 have:=Qd s.many
 obtain⟨k,hk,rfl⟩:∃ k:Nat,k<4∧q=s.at_+k:=⟨(q - s.at_).toNat,by omega,by omega⟩
 unfold Qe Fc Fc Fc Fc Fc at h
 simp only [Bool.or_eq_false_iff] at h
 obtain⟨m0,m1,m2,m3,_⟩:=h
 have key:∀ c:Int,(k:Int)=c→(hasB s (s.at_+c)&&hasB a (s.at_+c))=false→False:=fun c e hh=>by
  subst e
  rw [h1,h2] at hh
  cases hh
 obtain rfl | rfl | rfl | rfl:k=0∨k=1∨k=2∨k=3:=by omega
 ·exact key _ (by omega) m0
 ·exact key _ (by omega) m1
 ·exact key _ (by omega) m2
 ·exact key _ (by omega) m3
theorem Aba {L X:List Uop} {u u':Uop} (h:A1 u=false) (h':A1 u'=true) (m:List Int) (seq q:Int) (hq:hasB (G5 u') q=false):Dh (known (L++u'::X)) m seq q=Dh (known (L++u::X)) m seq q:=by
 apply Ro
 have e1:known (u'::X)=G5 u'::known X:=by unfold known;rw [List.filter_cons_of_pos h'];rfl
 have e2:known (u::X)=known X:=by unfold known;rw [List.filter_cons_of_neg (by simp [h])]
 rw [Ly,Ly,e1,e2,List.filter_append,List.filter_append,List.filter_cons_of_neg]
 unfold Ha
 rw [hq]
 simp
theorem Rm {w w':List Int} {v:Uop} (h:w.getD v.a.toNat 0=w'.getD v.a.toNat 0):Be w v=Be w' v:=by
 unfold Be Ux
 rw [h]
theorem S6 {M K K2:Ax} {B:List Uop} (h:Bp K B M) (h2:Bp K2 B M) (hg:Dq K) (hg2:Dq K2) (hp:B.Pairwise (fun u v=>u.seq<v.seq)):K=K2:=by
 have e1:=Qp (A:=[]) h hg (by simpa using hp)
 have e2:=Qp (A:=[]) h2 hg2 (by simpa using hp)
 exact e1.symm.trans e2
structure Fw (C:Core) (L R:List Uop) (u:Uop):Prop where
 ops:C.ops=L++u::R
 st:u.state=1
 cause:u.cause=0
 is:IsP u.ins=true
 ok:Sx C L u R
 self:0<u.dest→u.a≠u.dest
 dest:0≤u.dest∧u.dest<96
 a:0≤u.a∧u.a<96
 ahead:∀ v∈L,(0≤v.a)∧(0<u.dest→v.a≠u.dest)
 val:0≤(Ab C L u).value∧(Ab C L u).value≤4294967295
 nx:0≤(Ab C L u).next∧(Ab C L u).next≤4294967295
 store:A0 u.ins=true→u.dest=0
theorem Ajs {C:Core} (h:Inv C) {L R:List Uop} {u:Uop} (ho:C.ops=L++u::R) (h1:u.state=1):Fw C L R u:=by
 obtain⟨N,hgN,_,hcN,_⟩:=h.names
 have hO:=h.ops L u R ho
 have hap:=h.apart
 have hreg:=fun L' v R' (e:C.ops=L'++v::R')=>J7 (by rw [←e];exact hcN) hgN (h.ops L' v R' e)
 rw [ho] at hcN hap
 have hcz:u.cause=0:=by
  rcases Decidable.em (u.cause=0) with hc | hc
  ·exact hc
  ·have:=(hO.fault hc).1;omega
 have his:=Inv.insOk hO hcz
 have hi:=H6 his
 obtain⟨K,_,hK,hNk,_⟩:=F7 hcN hgN rfl
 obtain⟨_,_,hap3⟩:=List.pairwise_append.1 hap
 have hwf:=P0 h (L:=L) (u:=u) (by omega) hO.pc
 refine⟨ho,h1,hcz,his,hO,fun hd e=>?_,(hreg L u R ho).2.2,(hreg L u R ho).1,fun v hv=>⟨?_,(hap3 v hv u (by simp)).a⟩,hwf.value,hwf.next,fun hs=>Abr hNk hs⟩
 ·have hfr:u.dest∈K.free:=by rw [(hNk.dst hd).2.2.1];simp
  obtain⟨m1,_⟩:=hNk.src_mem hK (fun _=>⟨by omega,by omega⟩) hcz
  exact hK.disjoint m1 (e▸hfr)
 ·obtain⟨P,Q,e⟩:=List.append_of_mem hv
  exact(hreg P v (Q++u::R) (by rw [ho,e];simp)).1.1
theorem Fw.same {C:Core} {L R:List Uop} {u:Uop} (d:Fw C L R u) (v:Int) {p:Int} (hp:0≤p) (hne:0<u.dest→p≠u.dest):(Er C u v).getD p.toNat 0=C.word p∧(It C u).getD p.toNat false=C.has p:=by
 unfold Er It
 split
 ·rename_i hd
  exact⟨Aaz v d.dest.1 hp (hne hd),Xi true d.dest.1 hp (hne hd)⟩
 ·exact⟨rfl,rfl⟩
theorem Fw.acc_ahead {C:Core} {L R:List Uop} {u:Uop} (d:Fw C L R u) (x:Int):∀ v∈L,Be (Er C u x) v=Be C.words v:=fun v hv=>
 Rm (d.same x (d.ahead v hv).1 (d.ahead v hv).2).1
theorem Fw.acc_self {C:Core} {L R:List Uop} {u:Uop} (d:Fw C L R u) (x:Int) {u':Uop} (h2:u'={ u with state:=2,commit:=Ab C L u,next:=u'.next }) (hk:A1 u'=false):Be (Er C u x) u'=Ce C u (Ab C L u):=by
 have e':∀ {α:Type} (f:Uop→α),f u'=f { u with state:=2,commit:=Ab C L u,next:=u'.next }:=fun f=>congrArg f h2
 have i1:u'.ins=u.ins:=e' Uop.ins
 have i3:u'.a=u.a:=e' Uop.a
 have i6:u'.seq=u.seq:=e' Uop.seq
 have i9:u'.state=2:=e' Uop.state
 have i10:u'.commit=Ab C L u:=e' Uop.commit
 unfold Be Ce
 rw [hk,i1,i9,i10,i6,i3]
 have hw:Ux (Er C u x) u.a=C.word u.a:=(d.same x d.a.1 d.self).1
 rw [hw,if_neg (by simp)]
 by_cases hl:Bo u.ins=true∧(Ab C L u).state=0
 ·rw [if_pos ⟨hl.1,rfl,hl.2⟩,if_pos hl]
 ·rw [if_neg (fun hh=>hl ⟨hh.1,hh.2.2⟩),if_neg hl]
theorem Fw.back {C:Core} (h:Inv C) {L R:List Uop} {u:Uop} (d:Fw C L R u) {u':Uop} (h2:u'={ u with state:=2,commit:=Ab C L u,next:=u'.next }) (hk:A1 u'=false) (pc:Int) :
  ∃ M,(∀ N,Bp N (L++u::[]++R) C.names→Dq N→Bp N (L++u::[]) M) ∧
   Fz (B6 C L R u (Ab C L u) u' (Ce C u (Ab C L u))) (u.seq+1) pc =
    { C with ops:=L++u'::[],slots:=(L++u'::[]).map Bz,access:=((L++u'::[]).filter Bc).map (Be (Er C u (Ab C L u).value)),names:=M,words:=Er C u (Ab C L u).value,there:=It C u,pc:=pc,still:=false,backs:=C.backs+1 }:=by
 obtain⟨N0,hgN,_,hcN,_⟩:=h.names
 have hsq:=h.seqs
 rw [d.ops] at hcN hsq
 have e':∀ {α:Type} (f:Uop→α),f u'=f { u with state:=2,commit:=Ab C L u,next:=u'.next }:=fun f=>congrArg f h2
 have i6:u'.seq=u.seq:=e' Uop.seq
 obtain⟨K,K',hK,hNk,hc1,hK',hc2⟩:=F7 hcN hgN rfl
 have hgK':Dq K':=by rw [hK'];exact hK.next hNk
 have hpR:R.Pairwise (fun u v=>u.seq<v.seq):=(List.pairwise_cons.1 (List.pairwise_append.1 hsq).2.1).2
 have hsq':(L++[u']++R).Pairwise (fun u v=>u.seq<v.seq):=by
  rw [List.append_assoc,List.singleton_append]
  rw [List.pairwise_append,List.pairwise_cons] at hsq ⊢
  obtain⟨p1,⟨p2,p3⟩,p4⟩:=hsq
  refine⟨p1,⟨fun v hv=>by rw [i6];exact p2 v hv,p3⟩,fun a ha b hb=>?_⟩
  rcases List.mem_cons.1 hb with rfl | hb
  ·rw [i6];exact p4 a ha u (by simp)
  ·exact p4 a ha b (by simp [hb])
 refine⟨K',fun N hN hg=>?_,?_⟩
 ·rw [List.append_assoc] at hN
  have hN':Bp N (L++u::R) C.names:=hN
  obtain⟨K2,_,hK2,hNk2,hd1,hK2',hd2⟩:=F7 hN' hg rfl
  have hgK2':Dq (Dm K2 u):=hK2.next hNk2
  rw [hK2'] at hd2
  have:=S6 hc2 hd2 hgK' hgK2' hpR
  rw [this]
  exact hd1.snoc hNk2
 ·have hb:=Ac9 (c:=B6 C L R u (Ab C L u) u' (Ce C u (Ab C L u))) (A:=L++[u']) (B:=R) (K:=K') (g:=gD C u (Ce C u (Ab C L u))) (s:=u.seq+1) pc (by simp [B6]) (by simp [B6]) hsq'
   (fun v hv=>?_) (fun v hv=>?_) (Tq C u _) (by simp [B6]) hc2 hgK'
  ·rw [hb]
   have hlist:((L++[u']).filter Bc).map (gD C u (Ce C u (Ab C L u)))=((L++[u']).filter Bc).map (Be (Er C u (Ab C L u).value)):=by
    refine List.map_congr_left fun v hv=>?_
    rcases List.mem_append.1 (List.mem_filter.1 hv).1 with hv | hv
    ·unfold gD
     rw [if_neg ((Gn hsq).1 v hv),d.acc_ahead _ v hv]
    ·obtain rfl:=List.mem_singleton.1 hv
     rw [d.acc_self _ h2 hk]
     unfold gD
     rw [if_pos i6,i6,←Pz C u (Ab C L u)]
   rw [hlist]
   rfl
  ·rcases List.mem_append.1 hv with hv | hv
   ·have:=(Dz hsq).1 v hv;omega
   ·obtain rfl:=List.mem_singleton.1 hv;omega
  ·have:=(Dz hsq).2 v hv;omega
structure Kept (C C':Core) (L R:List Uop) (u:Uop):Prop where
 inv:Inv C'
 ops:∃ u' X Y,R=X++Y∧C'.ops=L++u'::X∧u'.state=2∧u'.seq=u.seq
 hart:C'.hart=C.hart
 mem:C'.mem=C.mem
 commits:C'.commits=C.commits
 cfg:C'.wide=C.wide∧C'.window=C.window∧C'.phys=C.phys
 cycles:C'.cycles=C.cycles
 taken:C'.taken=C.taken
 backs:C.backs≤C'.backs∧C'.backs≤C.backs+1
 seq:C'.seq=C.seq
theorem Fw.words {C:Core} {L R:List Uop} {u:Uop} (h:Inv C) (d:Fw C L R u):((Er C u (Ab C L u).value).length=96∧∀ x∈Er C u (Ab C L u).value,0≤x∧x≤4294967295)∧(It C u).length=96:=by
 unfold Er It
 split
 ·refine⟨⟨by simp [h.words.1],fun x hx=>?_⟩,by simp [h.there]⟩
  rcases List.mem_or_eq_of_mem_set hx with hx | rfl
  ·exact h.words.2 x hx
  ·exact d.val
 ·exact⟨h.words,h.there⟩
theorem Fw.got {C:Core} {L R:List Uop} {u:Uop} (h:Inv C) (d:Fw C L R u):0<u.dest→(It C u).getD u.dest.toNat false=true∧(Er C u (Ab C L u).value).getD u.dest.toNat 0=(Ab C L u).value:=by
 intro hd
 unfold Er It
 rw [if_pos hd,if_pos hd]
 exact⟨Tu true d.dest.1 (by rw [h.there];exact d.dest.2),Af3 _ d.dest.1 (by rw [h.words.1];exact d.dest.2)⟩
theorem Aao {u:Uop} (hc:u.cause=0) (h1:u.state=1):Cw u=false:=by unfold Cw;rw [hc,h1];rfl
theorem Fw.chain {C:Core} {L R:List Uop} {u:Uop} (h:Inv C) (d:Fw C L R u):Eg C.hart.pc L u.pc∧∀ x∈L,Cw x=false:=by
 have:=h.pcs
 rw [d.ops] at this
 exact this.cut
theorem Vv {C:Core} (h:Inv C) {L R:List Uop} {u u':Uop} (d:Fw C L R u) (h2:u'={ u with state:=2,commit:=Ab C L u,next:=u'.next }) (hk:A1 u'=false) (pc:Int) (still:Bool) (hpcr:0≤pc∧pc≤4294967295)
  (hq:Cw u'=false→u'.next=pc) (hnr:0≤u'.next∧u'.next≤4294967295) (hnx:Cw u'=false→u'.next=(Ab C L u).next) (hns:(A0 u.ins || Ba u.ins)=true→u'.next=u32 (u.pc+4)) (hlast:Eq u'=true→still=true) :
  Kept C { Fz (B6 C L R u (Ab C L u) u' (Ce C u (Ab C L u))) (u.seq+1) pc with still:=still } L R u:=by
 obtain⟨M,hM,hb⟩:=d.back h h2 hk pc
 obtain⟨hw,ht⟩:=d.words h
 have e':∀ {α:Type} (f:Uop→α),f u'=f { u with state:=2,commit:=Ab C L u,next:=u'.next }:=fun f=>congrArg f h2
 rw [hb]
 have hI:=h.done (X:=[]) (Y:=R) d.ops d.st h2 (Er C u (Ab C L u).value) (It C u) hw ht (fun p hp hne=>d.same _ hp hne) (d.got h) (fun hx=>absurd rfl hx) M hM
  (fun X1 v X2 e=>absurd e.symm (by simp)) (fun X1 v X2 e=>absurd e.symm (by simp)) pc (C.backs+1) still
  (by
   obtain⟨p1,p2⟩:=d.chain h
   refine Eg.snoc ?_ p2 pc hq
   rw [show u'.pc=u.pc from e' Uop.pc]
   exact p1)
  hpcr hnr hnx hns (fun hl=>⟨rfl,hlast hl⟩) (fun _ hx=>absurd rfl hx)
 exact⟨hI,⟨u',[],R,rfl,rfl,e' Uop.state,e' Uop.seq⟩,rfl,rfl,rfl,⟨rfl,rfl,rfl⟩,rfl,rfl,⟨by show C.backs≤C.backs+1;omega,Int.le_refl _⟩,rfl⟩
theorem Aft {C:Core} (h:Inv C) {L R:List Uop} {u:Uop} (d:Fw C L R u) (hst:A0 u.ins=false) (h0:(Ab C L u).state=0) (hmiss:Ou C L u=false) :
  Kept C (B6 C L R u (Ab C L u) (uD u (Ab C L u)) (Ce C u (Ab C L u))) L R u:=by
 obtain⟨hw,ht⟩:=d.words h
 unfold Ou at hmiss
 simp only [Bool.or_eq_false_iff,Bool.and_eq_false_iff,decide_eq_false_iff_not,Decidable.not_not] at hmiss
 obtain⟨m1,m2⟩:=hmiss
 have hk:A1 (uD u (Ab C L u))=false:=by unfold A1 uD;simp only [hst];rfl
 have hk0:A1 u=false:=by unfold A1;rw [hst];rfl
 have hsq:=h.seqs
 rw [d.ops] at hsq
 have hstop:Cw (uD u (Ab C L u))=false:=by unfold Cw uD;simp only [d.cause,h0];rfl
 have hold:R≠[]→0<u.dest→C.has u.dest=true→C.word u.dest=(Ab C L u).value:=by
  intro _ hd hh
  have hg:=d.ok.d1 hd (by rw [d.st];omega) hh
  rw [hg] at m1
  simpa using m1
 have hwX:∀ v∈R,Be (Er C u (Ab C L u).value) v=Be C.words v:=by
  intro v hv
  by_cases hl:Bo v.ins=true∧v.state=2∧v.commit.state=0
  ·obtain⟨X1,X2,e⟩:=List.append_of_mem hv
   have hOv:=h.ops (L++u::X1) v X2 (by rw [d.ops,e];simp)
   have hcv:v.cause=0:=by
    rcases Decidable.em (v.cause=0) with hc | hc
    ·exact hc
    ·obtain⟨_,e1,_⟩:=hOv.fault hc
     have:=hl.2.2
     rw [e1] at this
     cases this
   obtain⟨s1,_⟩:=hOv.src hcv (by omega)
   obtain⟨N,hgN,_,hcN,_⟩:=h.names
   have hr:=(J7 (by rw [d.ops,e] at hcN;rw [List.append_assoc];exact hcN) hgN hOv).1
   apply Rm
   by_cases hpd:0<u.dest∧v.a=u.dest
   ·obtain⟨hd',e2⟩:=hpd
    rw [e2] at s1 ⊢
    rw [(d.got h hd').2]
    exact(hold (by rw [e];simp) hd' s1).symm
   ·exact(d.same _ hr.1 fun hd' hpe=>hpd ⟨hd',hpe⟩).1
  ·unfold Be
   rw [if_neg hl,if_neg hl]
 have hlist:((L++uD u (Ab C L u)::R).filter Bc).map (gD C u (Ce C u (Ab C L u)))=((L++uD u (Ab C L u)::R).filter Bc).map (Be (Er C u (Ab C L u).value)):=by
  refine List.map_congr_left fun v hv=>?_
  rcases List.mem_append.1 (List.mem_filter.1 hv).1 with hv | hv
  ·unfold gD
   rw [if_neg ((Gn hsq).1 v hv),d.acc_ahead _ v hv]
  ·rcases List.mem_cons.1 hv with rfl | hv
   ·rw [d.acc_self _ rfl hk]
    unfold gD
    rw [if_pos (show(uD u (Ab C L u)).seq=u.seq from rfl)]
    show { Ce C u (Ab C L u) with seq:=u.seq }=_
    rw [←Pz C u (Ab C L u)]
   ·unfold gD
    rw [if_neg ((Gn hsq).2 v hv),hwX v hv]
 have hkn:∀ X1,known (L++uD u (Ab C L u)::X1)=known (L++u::X1):=fun X1=>Wi hk0 hk
 have hI:=h.done (X:=R) (Y:=[]) (by rw [List.append_nil];exact d.ops) d.st (u':=uD u (Ab C L u)) rfl (Er C u (Ab C L u).value) (It C u) hw ht (fun p hp hne=>d.same _ hp hne) (d.got h) hold C.names
  (fun N hN _=>by rw [List.append_nil] at hN;exact hN) (fun X1 v X2 _=>by rw [hkn]) (fun X1 v X2 _ _ _=>by rw [hkn]) C.pc C.backs C.still
  (by
   have:=h.pcs
   rw [d.ops] at this
   exact Eg.put (u:=u) (u':=uD u (Ab C L u)) rfl rfl (hstop.trans (Aao d.cause d.st).symm) this)
  h.pc d.ok.next (fun _=>m2.symm) (d.ok.nextS d.cause)
  (fun hl=>by
   have:Eq u=true:=by
    unfold Eq at hl ⊢
    rw [hstop,Bool.or_false] at hl
    rw [show Ba u.ins=true from hl]
    rfl
   exact d.ok.last this) (fun _ _ hh=>hh)
 have hcore:B6 C L R u (Ab C L u) (uD u (Ab C L u)) (Ce C u (Ab C L u))={ C with ops:=L++uD u (Ab C L u)::R,slots:=(L++uD u (Ab C L u)::R).map Bz,access:=((L++uD u (Ab C L u)::R).filter Bc).map (Be (Er C u (Ab C L u).value)),names:=C.names,words:=Er C u (Ab C L u).value,there:=It C u,pc:=C.pc,still:=C.still,backs:=C.backs }:=by
  unfold B6
  rw [hlist]
 rw [hcore]
 exact⟨hI,⟨uD u (Ab C L u),R,[],by simp,rfl,rfl,rfl⟩,rfl,rfl,rfl,⟨rfl,rfl,rfl⟩,rfl,rfl,⟨Int.le_refl _,by show C.backs≤C.backs+1;omega⟩,rfl⟩
theorem Ai2 {pc at_ many:Int} (_hm:many=1∨many=2∨many=4) (h:Ub pc at_ many=false) {u:Uop} (h1:u.commit.at_=at_) (h2:u.commit.many=many) {q:Int} (q1:pc≤q) (q2:q<pc+4):hasB (G5 u) q=false:=by
 rcases hh:hasB (G5 u) q with _ | _
 ·rfl
 ·exfalso
  unfold hasB G5 Gy at hh
  rw [h1,h2] at hh
  unfold Ub at h
  simp at hh h
  omega
theorem Wt {L X:List Uop} {u u':Uop} (h:A1 u=false) (h':A1 u'=true) {m:List Int} {seq p many:Int} (hq:∀ q,p≤q→q<p+4→(many=1→q<p+1)→(many=2→q<p+2)→hasB (G5 u') q=false) :
  (Ea (known (L++u'::X)) m seq p many).1=(Ea (known (L++u::X)) m seq p many).1∧(Ea (known (L++u'::X)) m seq p many).2.1=(Ea (known (L++u::X)) m seq p many).2.1:=
 Pf rfl fun q q1 q2 q3 q4=>Aba h h' m seq q (hq q q1 q2 q3 q4)
theorem Za {L X:List Uop} {u u' v:Uop} (h:A1 u=false) (h':A1 u'=true) {m:List Int} (hm:u'.commit.many=1∨u'.commit.many=2∨u'.commit.many=4) (ho:Ub v.pc u'.commit.at_ u'.commit.many=false) :
  Ds (known (L++u'::X)) m v.seq v.pc=Ds (known (L++u::X)) m v.seq v.pc:=by
 obtain⟨e1,e2⟩:=Wt (L:=L) (X:=X) h h' (m:=m) (seq:=v.seq) (p:=v.pc) (many:=4) fun q q1 q2 _ _=>Ai2 hm ho rfl rfl q1 q2
 unfold Ds
 rw [e1,e2]
theorem Zt {L X:List Uop} {u u' v:Uop} {w:Int} (h:A1 u=false) (h':A1 u'=true) {m:List Int} (hl:Bo v.ins=true) (hlen:m.length≤4096)
  (hv:Gr m (u32 (w+v.ins.imm)) (loadBytes v.ins.op)=true→Qe (G5 u') ⟨v.seq,false,true,u32 (w+v.ins.imm),loadBytes v.ins.op,0,true⟩=false) :
  Kl (known (L++u'::X)) m v w=Kl (known (L++u::X)) m v w:=by
 rw [Jz hl,Jz hl]
 split
 ·rename_i hok
  have hmeet:=hv hok
  have hb:=Jy (D3.1 hl)
  have hok':=hok
  unfold Gr Cv at hok'
  simp only [Bool.and_eq_true,decide_eq_true_eq,Bool.or_eq_true] at hok'
  have hu:=Dc (w+v.ins.imm)
  obtain⟨e1,_⟩:=Wt (L:=L) (X:=X) h h' (m:=m) (seq:=v.seq) (p:=u32 (w+v.ins.imm)) (many:=loadBytes v.ins.op) fun q q1 q2 q3 q4=>by
   rcases hh:hasB (G5 u') q with _ | _
   ·rfl
   ·exfalso
    refine Aiw hmeet hh ?_
    have hmi:Gy (loadBytes v.ins.op)=loadBytes v.ins.op:=by unfold Gy;omega
    unfold hasB
    rw [hmi]
    simp
    omega
  rw [e1]
 ·rfl
theorem Acl {C:Core} (h:Inv C) {L R:List Uop} {u:Uop} (d:Fw C L R u) (hst:A0 u.ins=true) (h0:(Ab C L u).state=0) (hmiss:Ou C L u=false) :
  Kept C (E9 (B6 C L R u (Ab C L u) (uD u (Ab C L u)) (Ce C u (Ab C L u))) L.length) L R u:=by
 have hw:Er C u (Ab C L u).value=C.words:=by unfold Er;rw [d.store hst];rfl
 have ht:It C u=C.there:=by unfold It;rw [d.store hst];rfl
 have hsq:=h.seqs
 rw [d.ops] at hsq
 have hm2:(Ab C L u).next=u.next:=by
  unfold Ou at hmiss
  simp only [Bool.or_eq_false_iff,decide_eq_false_iff_not,Decidable.not_not] at hmiss
  exact hmiss.2
 have hk:A1 (uD u (Ab C L u))=true:=by unfold A1 uD;simp only [hst,h0];rfl
 have hk0:A1 u=false:=by unfold A1;rw [d.st];simp
 have hmemu:Bc u=true:=by unfold Bc;rw [hst,Bool.or_true]
 have hstop:Cw (uD u (Ab C L u))=false:=by unfold Cw uD;simp only [d.cause,h0];rfl
 have hal:Ba u.ins=false:=by
  rcases e:Ba u.ins with _ | _
  ·rfl
  ·have:=K6.1 e;have:=Fh.1 hst;omega
 have hlo:Bo u.ins=false:=by
  rcases e:Bo u.ins with _ | _
  ·rfl
  ·have:=D3.1 e;have:=Fh.1 hst;omega
 have hlast:Eq (uD u (Ab C L u))=false:=by unfold Eq;rw [hstop];exact(by rw [show Ba (uD u (Ab C L u)).ins=Ba u.ins from rfl,hal];rfl)
 have hmany:(uD u (Ab C L u)).commit.many=1∨(uD u (Ab C L u)).commit.many=2∨(uD u (Ab C L u)).commit.many=4:=by
  show(Ab C L u).many=1∨(Ab C L u).many=2∨(Ab C L u).many=4
  have hx:Ab C L u=Ck u.ins (Ed C u) C.mem:=by unfold Ab;rw [if_neg (by rw [hlo];simp)]
  rw [hx] at h0 ⊢
  rw [(Na _ _ hst h0).1]
  show Fl _=1∨Fl _=2∨Fl _=4
  unfold Fl
  (repeat' split)<;>omega
 obtain⟨u',hu'⟩:∃ u',u'=uD u (Ab C L u):=⟨_,rfl⟩
 have i6:u'.seq=u.seq:=by rw [hu'];rfl
 have hsq':(L++u'::R).Pairwise (fun u v=>u.seq<v.seq):=by
  rw [List.pairwise_append,List.pairwise_cons] at hsq ⊢
  obtain⟨p1,⟨p2,p3⟩,p4⟩:=hsq
  refine⟨p1,⟨fun v hv=>by rw [i6];exact p2 v hv,p3⟩,fun a ha b hb=>?_⟩
  rcases List.mem_cons.1 hb with rfl | hb
  ·rw [i6];exact p4 a ha u (by simp)
  ·exact p4 a ha b (by simp [hb])
 have hmem':Bc u'=true:=by rw [hu'];exact hmemu
 have haS:Be C.words u'=G5 u':=by unfold Be;rw [if_pos (by rw [hu'];exact hk)]
 have hacc:(B6 C L R u (Ab C L u) u' (Ce C u (Ab C L u))).access.set (Jf (B6 C L R u (Ab C L u) u' (Ce C u (Ab C L u))).access u'.seq).toNat
   { (B6 C L R u (Ab C L u) u' (Ce C u (Ab C L u))).access.getD (Jf (B6 C L R u (Ab C L u) u' (Ce C u (Ab C L u))).access u'.seq).toNat default with known:=true,at_:=u'.commit.at_,many:=u'.commit.many,data:=u'.commit.data }=((L++u'::R).filter Bc).map (Be C.words):=by
  have hac:(B6 C L R u (Ab C L u) u' (Ce C u (Ab C L u))).access=((L++u'::R).filter Bc).map (gD C u (Ce C u (Ab C L u))):=rfl
  have hgu:gD C u (Ce C u (Ab C L u)) u'=⟨u.seq,true,false,0,0,0,false⟩:=by
   unfold gD Ce
   rw [if_pos i6,if_neg (by rw [hlo];simp),hst,i6]
  obtain⟨q1,q2,q3⟩:=Sz (g:=gD C u (Ce C u (Ab C L u))) (L:=L) (R:=R) hmem' (Tq C u _) (fun v hv=>by rw [i6];exact(Gn hsq).1 v hv) (G5 u')
  rw [hac,q1,q2,hgu]
  have:({ (⟨u.seq,true,false,0,0,0,false⟩:Acc) with known:=true,at_:=u'.commit.at_,many:=u'.commit.many,data:=u'.commit.data }:Acc)=G5 u':=by unfold G5;rw [i6]
  rw [this,q3,Nx (Gn hsq).1,Nx (Gn hsq).2,List.filter_append,List.filter_cons_of_pos hmem',List.map_append,List.map_cons,haS]
 have hwr:Iv (((L++u'::R).filter Bc).map (Be C.words)) u'.seq=(((L++u'::R).filter Bc).map (Be C.words)).foldl (Fo (Sd (G5 u')) (·.seq)) (0,false):=by
  unfold Iv
  generalize hl0:((L++u'::R).filter Bc).map (Be C.words)=l0
  have e:((L++u'::R).filter Bc).map (Be C.words)=(L.filter Bc).map (Be C.words)++G5 u'::(R.filter Bc).map (Be C.words):=by
   rw [List.filter_append,List.filter_cons_of_pos hmem',List.map_append,List.map_cons,haS]
  rw [←hl0]
  conv=>lhs;arg 3;rw [e]
  rw [U1 _ (s:=G5 u') (by unfold I1 G5;simp) (fun x hx=>by
   obtain⟨v,hv,rfl⟩:=List.mem_map.1 hx
   unfold I1
   rw [Et,decide_eq_false (by rw [i6];exact(Gn hsq).1 v (List.mem_filter.1 hv).1),Bool.and_false])]
  rfl
 have hmemR:∀ v∈L++u'::R,u'.seq<v.seq→v∈R:=by
  intro v hv hlt
  rcases List.mem_append.1 hv with hv | hv
  ·have:=(Dz hsq').1 v hv;omega
  ·rcases List.mem_cons.1 hv with rfl | hv
   ·omega
   ·exact hv
 obtain⟨w1,w2,_⟩:=Nh (Sd (G5 u')) (·.seq) (((L++u'::R).filter Bc).map (Be C.words)) (0,false)
 rw [←hwr] at w1 w2
 obtain⟨f1,f2,f3⟩:=Nh (Aay u'.seq u'.commit.at_ u'.commit.many) (·.seq) (L++u'::R) (Iv (((L++u'::R).filter Bc).map (Be C.words)) u'.seq)
 rw [←V8] at f1 f2 f3
 generalize hf:(L++u'::R).foldl (Dl u'.seq u'.commit.at_ u'.commit.many) (Iv (((L++u'::R).filter Bc).map (Be C.words)) u'.seq)=f at f1 f2 f3
 generalize hw0:Iv (((L++u'::R).filter Bc).map (Be C.words)) u'.seq=w0 at w1 w2 f1 f3 hf
 have F1:f.2=true→∃ v∈R,f.1=v.seq:=by
  intro ht'
  rcases f1 ht' with⟨h2,h3⟩ | ⟨v,hv,hP,h3⟩
  ·rcases w1 h2 with⟨h4,_⟩ | ⟨a,ha,hP,h4⟩
   ·cases h4
   ·obtain⟨v,hv,rfl⟩:=List.mem_map.1 ha
    refine⟨v,hmemR v (List.mem_filter.1 hv).1 ?_,by rw [h3,h4,Et]⟩
    unfold Sd at hP
    simp only [Bool.and_eq_true,decide_eq_true_eq] at hP
    have:=hP.1.2
    rw [Et] at this
    exact this
  ·refine⟨v,hmemR v hv ?_,h3⟩
   unfold Aay at hP
   simp only [Bool.and_eq_true,decide_eq_true_eq] at hP
   exact hP.1
 have F2:∀ v∈R,Ub v.pc u'.commit.at_ u'.commit.many=true→f.2=true∧f.1≤v.seq:=fun v hv ho=>
  f2 v (by simp [hv]) (by unfold Aay;rw [ho,decide_eq_true (by have:=(Dz hsq').2 v hv;exact this)];rfl)
 have F3:∀ v∈R,Bc v=true→Sd (G5 u') (Be C.words v)=true→f.2=true∧f.1≤v.seq:=fun v hv hm hP=>by
  have:=w2 (Be C.words v) (List.mem_map.2 ⟨v,List.mem_filter.2 ⟨by simp [hv],hm⟩,rfl⟩) hP
  obtain⟨g1,g2⟩:=f3 this.1
  rw [Et] at this
  exact⟨g1,by omega⟩
 have see:∀ X Y,R=X++Y→(∀ v∈X,f.2=true→v.seq<f.1)→(∀ X1 v X2,X=X1++v::X2→Ds (known (L++u'::X1)) C.mem v.seq v.pc=Ds (known (L++u::X1)) C.mem v.seq v.pc) ∧
   (∀ X1 v X2,X=X1++v::X2→Bo v.ins=true→v.state=2→Kl (known (L++u'::X1)) C.mem v (C.word v.a)=Kl (known (L++u::X1)) C.mem v (C.word v.a)):=by
  intro X Y hR hlt
  refine⟨fun X1 v X2 e=>?_,fun X1 v X2 e hl hs2=>?_⟩
  ·have hvR:v∈R:=by rw [hR,e];simp
   refine Za hk0 (by rw [hu'];exact hk) (by rw [hu'];exact hmany) ?_
   rcases ho:Ub v.pc u'.commit.at_ u'.commit.many with _ | _
   ·rfl
   ·obtain⟨g1,g2⟩:=F2 v hvR ho
    have:=hlt v (by rw [e];simp) g1
    omega
  ·have hvR:v∈R:=by rw [hR,e];simp
   have hOv:=h.ops (L++u::X1) v (X2++Y) (by rw [d.ops,hR,e];simp)
   have hcv:v.cause=0:=by
    rcases Decidable.em (v.cause=0) with hc | hc
    ·exact hc
    ·exfalso
     have hff:=hOv.fetch
     have hop:=D3.1 hl
     have hins:v.ins=Fx:=by
      have e1:v.ins=(Ds (known (L++u::X1)) C.mem v.seq v.pc).1:=congrArg Prod.fst hff
      have e2:v.cause=(Ds (known (L++u::X1)) C.mem v.seq v.pc).2:=congrArg Prod.snd hff
      rw [e1]
      rw [e2] at hc
      unfold Ds at hc ⊢
      split
      ·rename_i hsee
       rw [if_pos hsee] at hc
       unfold Dp at hc ⊢
       split
       ·rename_i hld
        rw [if_pos hld] at hc
        cases hdd:Oe (Di (bytesOf (Ea (known (L++u::X1)) C.mem v.seq v.pc 4).1) 13 0).1 with
        |none=>rfl
        |some i=>rw [hdd] at hc;exact absurd rfl hc
       ·rfl
      ·rfl
     rw [hins] at hop
     have:Fx.op=0:=rfl
     omega
   refine Zt hk0 (by rw [hu'];exact hk) hl h.room fun hok=>?_
   have hcs:v.commit.state=0:=by
    rw [hOv.com hcv hs2]
    unfold Ab
    rw [if_pos hl]
    exact(Nf hl _ _ _).2 hok
   have hkv:A1 v=false:=by
    unfold A1
    rcases e:A0 v.ins with _ | _
    ·rfl
    ·have:=Fh.1 e;have:=D3.1 hl;omega
   have hav:Be C.words v=⟨v.seq,false,true,u32 (C.word v.a+v.ins.imm),loadBytes v.ins.op,0,true⟩:=by
    unfold Be
    rw [hkv,if_neg (by simp),if_pos ⟨hl,hs2,hcs⟩]
    rfl
   rw [←hav]
   rcases hmm:Qe (G5 u') (Be C.words v) with _ | _
   ·rfl
   ·have hP:Sd (G5 u') (Be C.words v)=true:=by
     unfold Sd
     rw [hmm,hav]
     have:(G5 u').seq<v.seq:=(Dz hsq').2 v hvR
     simp [this]
    obtain⟨g1,g2⟩:=F3 v hvR (by unfold Bc;rw [hl];rfl) hP
    have:=hlt v (by rw [e];simp) g1
    omega
 have hpch:Eg C.hart.pc (L++u'::R) C.pc:=by
  have:=h.pcs
  rw [d.ops] at this
  exact Eg.put (u:=u) (u':=u') (by rw [hu'];rfl) (by rw [hu'];rfl) (by rw [hu'];exact hstop.trans (Aao d.cause d.st).symm) this
 obtain⟨hwl,htl⟩:=d.words h
 rw [hw] at hwl
 rw [ht] at htl
 have hgot:0<u.dest→C.there.getD u.dest.toNat false=true∧C.words.getD u.dest.toNat 0=(Ab C L u).value:=fun hd=>by have:=d.store hst;omega
 have hcore:B6 C L R u (Ab C L u) u' (Ce C u (Ab C L u))={ C with access:=((L++u'::R).filter Bc).map (gD C u (Ce C u (Ab C L u))),ops:=L++u'::R,slots:=(L++u'::R).map Bz }:=by
  unfold B6
  rw [hw,ht]
 have hop:Core.op (B6 C L R u (Ab C L u) u' (Ce C u (Ab C L u))) L.length=u':=Core.op_at rfl
 rw [←hu']
 unfold E9
 rw [hop]
 simp only [hacc]
 have hopsD:(B6 C L R u (Ab C L u) u' (Ce C u (Ab C L u))).ops=L++u'::R:=rfl
 rw [hopsD,hw0,hf]
 rw [hcore]
 show Kept C (if f.2=true then Fz { C with ops:=L++u'::R,slots:=(L++u'::R).map Bz,access:=((L++u'::R).filter Bc).map (Be C.words) } f.1 ((L++u'::R).getD (I6 (L++u'::R) f.1).toNat Bw).pc
  else { C with ops:=L++u'::R,slots:=(L++u'::R).map Bz,access:=((L++u'::R).filter Bc).map (Be C.words) }) L R u
 have hu2:u'={ u with state:=2,commit:=Ab C L u,next:=u'.next }:=by rw [hu'];rfl
 have hstop':Cw u'=false:=by rw [hu'];exact hstop
 have hn':u'.next=u.next:=by rw [hu'];rfl
 have hl':Eq u'=true→False:=fun hh=>by rw [hu',hlast] at hh;cases hh
 split
 ·rename_i hft
  obtain⟨v,hvR,hfv⟩:=F1 hft
  obtain⟨X,Y,hR⟩:=List.append_of_mem hvR
  have hsX:=hsq'
  rw [hR] at hsX
  have e1:L++u'::(X++v::Y)=(L++u'::X)++v::Y:=by simp
  rw [e1] at hsX
  have hlt:∀ x∈L++u'::X,x.seq<v.seq:=(Dz hsX).1
  have hgt:∀ x∈Y,v.seq<x.seq:=(Dz hsX).2
  obtain⟨s1,s2⟩:=see X (v::Y) hR (fun x hx _=>by rw [hfv];exact hlt x (by simp [hx]))
  have hpcv:((L++u'::R).getD (I6 (L++u'::R) f.1).toNat Bw).pc=v.pc:=by
   rw [hR,e1,hfv,Agq hsX]
  have hOv:=h.ops (L++u::X) v Y (by rw [d.ops,hR];simp)
  obtain⟨N0,hgN,_,hcN,_⟩:=h.names
  rw [d.ops,hR] at hcN
  have e2:L++u::(X++v::Y)=(L++u::X)++v::Y:=by simp
  rw [e2] at hcN
  obtain⟨K,_,hK,hNk,hc1,hK',hc2⟩:=F7 hcN hgN rfl
  have hc3:Bp K (v::Y) C.names:=⟨hNk,by rw [←hK'];exact hc2⟩
  have hpY:(v::Y).Pairwise (fun u v=>u.seq<v.seq):=(List.pairwise_append.1 hsX).2.1
  have hM:∀ N,Bp N (L++u::X++v::Y) C.names→Dq N→Bp N (L++u::X) K:=by
   intro N hN hg
   obtain⟨K2,hd1,hd2⟩:=Bp.append.1 hN
   rw [S6 hc3 hd2 hK (hd1.good hg) hpY]
   exact hd1
  rw [hpcv]
  have hb:=Ac9 (c:={ C with ops:=L++u'::R,slots:=(L++u'::R).map Bz,access:=((L++u'::R).filter Bc).map (Be C.words) }) (A:=L++u'::X) (B:=v::Y) (K:=K) (g:=Be C.words) (s:=f.1) v.pc
   (by show L++u'::R=_;rw [hR,e1]) (by show(L++u'::R).map Bz=_;rw [hR,e1]) hsX (fun x hx=>by rw [hfv];exact hlt x hx) (fun x hx=>by
    rw [hfv]
    rcases List.mem_cons.1 hx with rfl | hx
    ·omega
    ·have:=hgt x hx;omega) (Et _) (by show((L++u'::R).filter Bc).map _=_;rw [hR,e1]) hc3 hK
  rw [hb]
  have hI:=h.done (X:=X) (Y:=v::Y) (by rw [d.ops,hR]) d.st hu2 C.words C.there hwl htl (fun p _ _=>⟨rfl,rfl⟩) hgot (fun _ hd=>by have:=d.store hst;omega) K hM s1 s2 v.pc (C.backs+1) false
   (by
    have:=hpch
    rw [hR,e1] at this
    exact this.cut.1)
   hOv.pc (by rw [hn'];exact d.ok.next) (fun _=>by rw [hn',hm2]) (fun hh=>by rw [hn'];exact d.ok.nextS d.cause hh) (fun hh=>(hl' hh).elim) (fun hh=>by cases hh)
  exact⟨hI,⟨u',X,v::Y,hR,rfl,by rw [hu'];rfl,i6⟩,rfl,rfl,rfl,⟨rfl,rfl,rfl⟩,rfl,rfl,⟨by show C.backs≤C.backs+1;omega,Int.le_refl _⟩,rfl⟩
 ·rename_i hft
  obtain⟨s1,s2⟩:=see R [] (by simp) (fun x _ hh=>absurd hh hft)
  have hI:=h.done (X:=R) (Y:=[]) (by rw [List.append_nil];exact d.ops) d.st hu2 C.words C.there hwl htl (fun p _ _=>⟨rfl,rfl⟩) hgot (fun _ hd=>by have:=d.store hst;omega) C.names (fun N hN _=>by rw [List.append_nil] at hN;exact hN) s1 s2 C.pc C.backs C.still
   hpch h.pc (by rw [hn'];exact d.ok.next) (fun _=>by rw [hn',hm2]) (fun hh=>by rw [hn'];exact d.ok.nextS d.cause hh) (fun hh=>(hl' hh).elim) (fun _ _ hh=>hh)
  exact⟨hI,⟨u',R,[],by simp,rfl,by rw [hu'];rfl,i6⟩,rfl,rfl,rfl,⟨rfl,rfl,rfl⟩,rfl,rfl,⟨Int.le_refl _,by show C.backs≤C.backs+1;omega⟩,rfl⟩
theorem Oh {C:Core} (h:Inv C) {L R:List Uop} {u:Uop} (ho:C.ops=L++u::R) (h1:u.state=1):Kept C (B3 C L.length) L R u:=by
 have d:=Ajs h ho h1
 rw [M5 h ho h1]
 simp only
 have hgl:A0 u.ins=true∨Ba u.ins=true→(Ab C L u).state=0→Ou C L u=false:=by
  intro hh h0
  have hsa:(A0 u.ins || Ba u.ins)=true:=by rcases hh with e | e<;>simp [e]
  have hnl:¬ Bo u.ins=true:=by
   intro hl
   have:=D3.1 hl
   rcases hh with e | e
   ·have:=Fh.1 e;omega
   ·have:=K6.1 e;omega
  have hg:u.guessed=false:=by
   rcases e:u.guessed with _ | _
   ·rfl
   ·exact absurd (d.ok.gs e).2.2 hnl
  unfold Ou
  rw [hg,V4 hsa h0,d.ok.nextS d.cause hsa]
  simp
 split
 ·rename_i h0
  have hk:A1 (uD u (Ab C L u))=false:=by
   unfold A1 uD
   simp [h0]
  have hstop:Cw (uD u (Ab C L u))=true:=by
   unfold Cw uD
   simp [h0]
  exact Vv h d (u':=uD u (Ab C L u)) rfl hk u.pc true d.ok.pc (fun hh=>by rw [hstop] at hh;cases hh) d.ok.next (fun hh=>by rw [hstop] at hh;cases hh) (d.ok.nextS d.cause) (fun _=>rfl)
 ·rename_i h0
  have h0:(Ab C L u).state=0:=Decidable.not_not.1 h0
  rcases hm:Ou C L u with _ | _
  ·rcases hst:A0 u.ins with _ | _
   ·simp only [Bool.false_eq_true,if_false]
    exact Aft h d hst h0 hm
   ·simp only [Bool.false_eq_true,if_false,if_true]
    exact Acl h d hst h0 hm
  ·have hst:A0 u.ins=false:=by
    rcases e:A0 u.ins with _ | _
    ·rfl
    ·rw [hgl (Or.inl e) h0] at hm;cases hm
   have hal:Ba u.ins=false:=by
    rcases e:Ba u.ins with _ | _
    ·rfl
    ·rw [hgl (Or.inr e) h0] at hm;cases hm
   rw [hst]
   simp only [Bool.false_eq_true,if_false,if_true]
   obtain⟨u',hu'⟩:∃ u',u'=({ uD u (Ab C L u) with next:=(Ab C L u).next }:Uop):=⟨_,rfl⟩
   rw [←hu']
   have hk:A1 u'=false:=by rw [hu'];unfold A1 uD;simp [hst]
   have hstop:Cw u'=false:=by rw [hu'];unfold Cw uD;simp [d.cause,h0]
   have hlast:Eq u'=false:=by unfold Eq;rw [hstop,hu'];exact(by rw [show Ba (uD u (Ab C L u)).ins=Ba u.ins from rfl,hal];rfl)
   have hn:u'.next=(Ab C L u).next:=by rw [hu']
   have hkk:=Vv h d (u':=u') (by rw [hu'];rfl) hk (Ab C L u).next false d.nx (fun _=>hn) (by rw [hn];exact d.nx) (fun _=>hn) (fun hh=>by rw [hst,hal] at hh;cases hh) (fun hh=>by rw [hlast] at hh;cases hh)
   exact hkk
theorem Fa.cnt_of {cs:Array Value} (h:Fa cs) (pc:Int):(M3 cs pc).Wf∧Yg cs (Pt pc) (M3 cs pc):=by
 obtain⟨c,hw,hc⟩:=h.cnt (Pt pc) (Pv pc)
 have:M3 cs pc=c:=by
  unfold M3 Ry
  rw [hc.c0,hc.c1]
 rw [this]
 exact⟨hw,hc⟩
theorem Fa.vl_of {cs:Array Value} (h:Fa cs) (pc:Int):(Pl cs pc).Wf∧W0 cs (vlK pc) (Pl cs pc):=by
 obtain⟨v,hw,hv⟩:=h.vl (vlK pc) (Mk pc)
 have:Pl cs pc=v:=by
  unfold Pl Ry
  rw [hv.c0,hv.c1,hv.c2,hv.c3]
 rw [this]
 exact⟨hw,hv⟩
theorem Ad8 (m:List Int) (seq p:Int):Dh [] m seq p=m.getD p.toNat 0:=rfl
theorem O4 {b0 b1 b2 b3:Int} (h0:0≤b0∧b0≤255) (h1:0≤b1∧b1≤255) (h2:0≤b2∧b2≤255) (h3:0≤b3∧b3≤255):bytesOf (b0+256*b1+65536*b2+16777216*b3)=[b0,b1,b2,b3]:=by
 unfold bytesOf
 simp only [List.cons.injEq,and_true]
 omega
theorem Aag {m:List Int} (hm:Bytes m) (seq:Int) {op p:Int} (ho:11≤op∧op≤15) (hp:0≤p) :
  Gr m p (Dj op)=(Di m op p).2∧((Di m op p).2=true→(Di (bytesOf (Ea [] m seq p (Dj op)).1) op 0).1=(Di m op p).1):=by
 have hs:=(Jy ho).2
 have e1:Gr m p (Dj op)=Cv m.length p (Dj op):=by
  unfold Gr
  have:(decide (Dj op=1) || decide (Dj op=2) || decide (Dj op=4))=true:=by simp;omega
  rw [this,Bool.true_and]
 have e2:(Di m op p).2=Cv m.length p (Dj op):=by
  unfold Di
  rw [decide_eq_true ho.1,decide_eq_true ho.2]
  simp only [Bool.true_and]
  split
  ·rename_i h;exact h.symm
  ·rename_i h;simp at h;exact h.symm
 refine⟨e1.trans e2.symm,fun hl=>?_⟩
 rw [e2] at hl
 have b0:=hm.getD p.toNat
 have b1:=hm.getD (p.toNat+1)
 have b2:=hm.getD (p.toNat+2)
 have b3:=hm.getD (p.toNat+3)
 have t1:(p+1).toNat=p.toNat+1:=by omega
 have t2:(p+2).toNat=p.toNat+2:=by omega
 have t3:(p+3).toNat=p.toNat+3:=by omega
 have hw:(Ea [] m seq p (Dj op)).1=Pg [] m seq p (Dj op):=by
  unfold Ea
  rw [e1,hl]
  rfl
 have hr:(Di m op p).1=Le m op p.toNat:=by
  unfold Di
  rw [decide_eq_true ho.1,decide_eq_true ho.2]
  simp only [Bool.true_and]
  rw [hl]
  rfl
 have hq:∀ w,(Di (bytesOf w) op 0).1=Le (bytesOf w) op 0:=fun w=>by
  have:=Q7 ho w
  unfold Di at this ⊢
  split at this
  ·rename_i h
   rw [if_pos h]
   rfl
  ·cases this
 rw [hw,hr,hq]
 have z0:=O4 b0 (b1:=0) (b2:=0) (b3:=0) (by omega) (by omega) (by omega)
 have z1:=O4 b0 b1 (b2:=0) (b3:=0) (by omega) (by omega)
 have z3:=O4 b0 b1 b2 b3
 unfold Pg Le
 simp only [Ad8,t1,t2,t3]
 generalize m.getD p.toNat 0=x0 at *
 generalize m.getD (p.toNat+1) 0=x1 at *
 generalize m.getD (p.toNat+2) 0=x2 at *
 generalize m.getD (p.toNat+3) 0=x3 at *
 obtain rfl | rfl | rfl | rfl | rfl:op=11∨op=12∨op=13∨op=14∨op=15:=by omega
 ·rw [if_pos (show Dj 11=1 from rfl)]
  simp only [Int.mul_zero,Int.add_zero] at z0
  rw [z0]
  rfl
 ·rw [if_neg (show ¬ Dj 12=1 by decide),if_pos (show Dj 12=2 from rfl)]
  simp only [Int.mul_zero,Int.add_zero] at z1
  rw [z1]
  rfl
 ·rw [if_neg (show ¬ Dj 13=1 by decide),if_neg (show ¬ Dj 13=2 by decide),z3]
  rfl
 ·rw [if_pos (show Dj 14=1 from rfl)]
  simp only [Int.mul_zero,Int.add_zero] at z0
  rw [z0]
  rfl
 ·rw [if_neg (show ¬ Dj 15=1 by decide),if_pos (show Dj 15=2 from rfl)]
  simp only [Int.mul_zero,Int.add_zero] at z1
  rw [z1]
  rfl
theorem Ws {m:List Int} (hm:Bytes m) (seq:Int) {pc:Int} (hp:0≤pc):Ds [] m seq pc=Dp m pc:=by
 obtain⟨e1,e2⟩:=Aag hm seq (op:=13) (p:=pc) (by omega) hp
 have e1:Gr m pc 4=(Di m 13 pc).2:=e1
 unfold Ds
 rw [N7,e1]
 split
 ·rename_i hl
  have e2:=e2 hl
  have e2:(Di (bytesOf (Ea [] m seq pc 4).1) 13 0).1=(Di m 13 pc).1:=e2
  unfold Dp
  rw [Q7 (by omega),if_pos rfl,if_pos hl,e2]
 ·rename_i hl
  unfold Dp
  rw [if_neg hl]
theorem set_self (l:List Int) (k:Nat):l.set k (l.getD k 0)=l:=by
 by_cases h:k<l.length
 ·have:l.getD k 0=l[k]:=by simp [List.getD,List.getElem?_eq_getElem h]
  rw [this,List.set_getElem_self]
 ·rw [List.set_eq_of_length_le (by omega)]
theorem Agr {C:Core} (h:Inv C) {R:List Uop} {u:Uop} (ho:C.ops=u::R) (h2:u.state=2):u.commit=Kr C.hart C.mem∧u.pc=C.hart.pc:=by
 have hO:=h.ops [] u R ho
 obtain⟨N,hgN,_,hcN,hvN⟩:=h.names
 have hpc:=h.pcs
 rw [ho] at hcN hpc
 have hpc:u.pc=C.hart.pc:=hpc.1
 have hNk:NOk N u:=hcN.1
 have hf:=hO.fetch
 have hk:known []=[]:=rfl
 rw [hk,Ws h.bytes _ hO.pc.1,hpc] at hf
 refine⟨?_,hpc⟩
 unfold Kr
 rw [←hf]
 split
 ·rename_i hc
  have hc:u.cause=0:=hc
  have hi:=H6 (Inv.insOk hO hc)
  obtain⟨s1,s2⟩:=hNk.src hc
  have ha:C.word u.a=C.hart.regs.getD u.ins.rs1.toNat 0:=by rw [s1];exact(hvN _ (by omega)).2
  have hb:C.word u.b=C.hart.regs.getD u.ins.rs2.toNat 0:=by rw [s2];exact(hvN _ (by omega)).2
  have hst:C.hart.state=0:=h.runs
  have hca:C.hart.cause=0:=by
   have:=h.may
   unfold Im at this
   simp at this
   omega
  have hregs:Ed C u=C.hart:=by
   unfold Ed
   rw [ha,set_self,hb,set_self,hpc]
   have:∀ H:Ap,H.state=0→H.cause=0→(⟨H.regs,H.pc,0,0⟩:Ap)=H:=fun H h1 h2=>by
    obtain⟨a,b,c,d⟩:=H
    simp only at h1 h2
    rw [h1,h2]
   exact this _ hst hca
  rw [hO.com hc h2]
  unfold Ab
  split
  ·rename_i hl
   have hlo:=D3.1 hl
   rw [Jz hl,(Jy hlo).1,ha]
   obtain⟨e1,e2⟩:=Aag h.bytes u.seq hlo (Dc (C.hart.regs.getD u.ins.rs1.toNat 0+u.ins.imm)).1
   rw [e1]
   unfold Ck
   simp only
   rw [if_pos hlo]
   have hreg:C.hart.reg u.ins.rs1=C.hart.regs.getD u.ins.rs1.toNat 0:=rfl
   rw [hreg,hpc]
   split
   ·rename_i hok
    unfold Sn
    rw [hk,e2 hok]
   ·rfl
  ·rw [hregs]
 ·rename_i hc
  have hc:u.cause≠0:=hc
  rw [(hO.fault hc).2.1,hpc]
theorem Aie {i:Ins} {h:Ap} {m:List Int} (hs:(Ck i h m).state=0):(Ck i h m).rd=if Bf i=true then i.rd else 0:=by
 have g1:16≤i.op∧i.op≤18→Bf i=false:=fun h=>by unfold Bf;simp [h.1,h.2]
 have g2:46≤i.op→Bf i=false:=fun h=>by unfold Bf;simp;omega
 unfold Ck at hs ⊢
 dsimp only at hs ⊢
 by_cases c1:11≤i.op∧i.op≤15
 ·rw [if_pos c1] at hs ⊢
  by_cases c2:(Di m i.op (u32 (h.reg i.rs1+i.imm))).2=true
  ·rw [if_pos c2]
  ·rw [if_neg c2] at hs;exact absurd hs (by show ¬ ((2:Int)=0);decide)
 rw [if_neg c1] at hs ⊢
 by_cases c3:16≤i.op∧i.op≤18
 ·rw [if_pos c3] at hs ⊢
  rw [g1 c3]
  split<;>rfl
 rw [if_neg c3] at hs ⊢
 by_cases c4:i.op=48
 ·rw [if_pos c4] at hs;exact absurd hs (by show ¬ ((2:Int)=0);decide)
 rw [if_neg c4] at hs ⊢
 by_cases c5:i.op=47
 ·rw [if_pos c5] at hs ⊢
  rw [if_neg (h:=instDecidableEqBool (Bf i) true) (by rw [g2 (by omega)];decide)]
  (repeat' split)<;>rfl
 rw [if_neg c5] at hs ⊢
 by_cases c6:i.op=46
 ·rw [if_pos c6] at hs ⊢
  rw [g2 (by omega)]
  rfl
 rw [if_neg c6]
theorem Aeo {i:Ins} {h:Ap} {m:List Int} (hi:A0 i=false):(Ck i h m).many=0:=by
 have c3:¬ (16≤i.op∧i.op≤18):=fun h=>by rw [Fh.2 h] at hi;cases hi
 unfold Ck
 dsimp only
 rw [if_neg c3]
 (repeat' split)<;>rfl
theorem Abk {i:Ins} {h h':Ap} {m m':List Int} (hl:Bo i=false) (ha:Ba i=false) (h1:h'.reg i.rs1=h.reg i.rs1) (h2:h'.reg i.rs2=h.reg i.rs2) (hp:h'.pc=h.pc) (hm:m'.length=m.length) :
  Ck i h' m'=Ck i h m:=by
 have c1:¬ (11≤i.op∧i.op≤15):=fun h=>by rw [D3.2 h] at hl;cases hl
 have c5:¬ i.op=47:=fun h=>by rw [K6.2 (Or.inl h)] at ha;cases ha
 have ht:∀ c,Bv h'.pc c=Bv h.pc c:=fun c=>by rw [hp]
 unfold Ck
 dsimp only
 rw [if_neg c1,if_neg c1,if_neg c5,if_neg c5,h1,h2,hp,hm]
def Afv (t:Array Value) (u:Uop):Array Value:=
 if u.ins.op=4∨(5≤u.ins.op∧u.ins.op≤10) then Gh t (M3 t u.pc) u.pc (decide (u.commit.next≠u32 (u.pc+4))) u.commit.next
 else if Bo u.ins=true then Ek t (Pl t u.pc) u.pc u.commit.value
 else t
theorem N1 (c:Core) (u:Uop):Kv c u={ c with table:=Afv c.table u }:=by
 unfold Kv Afv
 split
 ·rfl
 ·split<;>rfl
theorem Adr {t:Array Value} (h:Fa t) {u:Uop} (hp:0≤u.pc∧u.pc≤4294967295) (hc:u.commit.Wf):Fa (Afv t u):=by
 unfold Afv
 split
 ·exact h.setCnt (Pv _) (Wk (h.cnt_of u.pc).1 _ hc.next.1 hc.next.2)
 ·split
  ·exact h.setVl (Mk _) (N2 (h.vl_of u.pc).1 hp.1 hp.2 hc.value.1 hc.value.2)
  ·exact h
theorem T8 {N:Ax} (h:Dq N) {u:Uop} (hu:NOk N u) (hd:0<u.dest):(0≤u.old∧u.old<N.phys)∧u.old ∉ (Dm N u).all:=by
 obtain⟨_,⟨r1,r2⟩,hf,ho⟩:=hu.dst hd
 have hl:u.ins.rd.toNat<N.regs.length:=by rw [h.len];omega
 have hm:=h.may
 unfold Ax.may Ax.all at hm
 rw [hf] at hm
 obtain⟨m1,m2,m3⟩:=T5 hl hm
 rw [ho]
 refine⟨m2,?_⟩
 unfold Dm Ax.all
 rw [if_pos hd]
 exact m3
theorem Ahd {N:Ax} {u:Uop} (hu:NOk N u):∀ p∈(Dm N u).all,p∈N.all:=by
 intro p hp
 unfold Dm at hp
 split at hp
 ·rename_i hd
  obtain⟨_,_,hf,_⟩:=hu.dst hd
  unfold Ax.all at hp ⊢
  rcases List.mem_append.1 hp with hp | hp
  ·rcases List.mem_or_eq_of_mem_set hp with hp | rfl
   ·exact List.mem_append_left _ hp
   ·exact List.mem_append_right _ (by rw [hf];simp)
  ·exact List.mem_append_right _ (List.mem_of_mem_tail hp)
 ·exact hp
theorem Bp.sub {M:Ax}:∀ {L:List Uop} {N:Ax},Bp N L M→∀ p∈M.all,p∈N.all
 |[],_,h=>by cases h;exact fun p hp=>hp
 |_::_,_,⟨h,h1⟩=>fun p hp=>Ahd h p (h1.sub p hp)
theorem T7 (N:Ax) (u:Uop):(Dm N u).phys=N.phys:=by unfold Dm;split<;>rfl
def Mo (N:Ax) (u:Uop):Ax:=if 0<u.dest then addFree (Dm N u) u.old else N
theorem Aex {N M:Ax} {u:Uop} {R:List Uop} (h:Bp N (u::R) M) (hg:Dq N):(if 0<u.dest then (Lb M u.old).getD Ax.zero else M)=(if 0<u.dest then addFree M u.old else M):=by
 split
 ·rename_i hd
  obtain⟨hu,h1⟩:=h
  obtain⟨o1,o2⟩:=T8 hg hu hd
  have hM:=h1.good (hg.next hu)
  have hot:Gv M u.old=true:=by
   unfold Gv
   rw [hM.may]
   simp only [Bool.true_and,Bool.and_eq_true,decide_eq_true_eq,Bool.not_eq_true']
   have hph:M.phys=N.phys:=by rw [h1.phys,T7]
   exact⟨⟨o1.1,by rw [hph];exact o1.2⟩,decide_eq_false fun hin=>o2 (h1.sub _ hin)⟩
  unfold Lb
  rw [if_pos hot]
  rfl
 ·rfl
theorem Abb {N M:Ax} {u:Uop} {R:List Uop} (h:Bp N (u::R) M):Bp (Mo N u) R (if 0<u.dest then addFree M u.old else M):=by
 obtain⟨hu,h1⟩:=h
 unfold Mo
 split
 ·exact h1.addFree _
 ·rename_i hd
  unfold Dm at h1
  rw [if_neg hd] at h1
  exact h1
theorem Ae1 {N:Ax} {u:Uop} (hg:Dq N) (hu:NOk N u):Dq (Mo N u):=by
 unfold Mo
 split
 ·rename_i hd
  obtain⟨o1,o2⟩:=T8 hg hu hd
  have hn:=hg.next hu
  refine⟨hn.len,?_,hn.zero⟩
  have:=hn.may
  unfold Ax.may Ax.all at this ⊢
  exact Aha this (by show 0≤u.old∧u.old<(Dm N u).phys;rw [T7];exact o1) o2
 ·exact hg
theorem Agp {N:Ax} {u:Uop} (hu:NOk N u) (hl:N.all.length=N.phys.toNat):(Mo N u).all.length=(Mo N u).phys.toNat:=by
 unfold Mo
 split
 ·rename_i hd
  obtain⟨_,_,hf,_⟩:=hu.dst hd
  unfold addFree Dm Ax.all
  rw [if_pos hd]
  show(_++(N.free.tail++[u.old])).length=N.phys.toNat
  rw [←hl]
  unfold Ax.all
  rw [hf]
  simp
 ·exact hl
theorem Ae3 {N:Ax} (u:Uop) (hg:Dq N) (hu:NOk N u) (r:Nat):(Mo N u).regs.getD r 0=if 0<u.dest∧u.ins.rd.toNat=r then u.dest else N.regs.getD r 0:=by
 unfold Mo
 split
 ·rename_i hd
  obtain⟨_,⟨r1,r2⟩,hf,_⟩:=hu.dst hd
  unfold addFree Dm
  rw [if_pos hd]
  show(N.regs.set u.ins.rd.toNat u.dest).getD r 0=_
  rw [Fb]
  by_cases e:u.ins.rd.toNat=r
  ·rw [if_pos ⟨e,by rw [hg.len];omega⟩,if_pos ⟨hd,e⟩]
  ·rw [if_neg (fun h=>e h.1),if_neg (fun h=>e h.2)]
 ·rename_i hd
  rw [if_neg (fun h=>hd h.1)]
theorem Eo {C:Core} {R:List Uop} {u:Uop} (ho:C.ops=u::R) :
  Bm C={ C with
   ops:=R,hart:=Cx u.commit C.hart,mem:=C9 u.commit C.mem,commits:=C.commits++[u.commit],
   names:=if 0<u.dest then (Lb C.names u.old).getD Ax.zero else C.names,table:=Afv C.table u,
   access:=C.access.filter (fun a=>!decide (a.seq=u.seq)),still:=if Ba u.ins=true then false else C.still }:=by
 have hop:C.op 0=u:=by unfold Core.op;rw [ho];rfl
 unfold Bm
 dsimp only
 rw [N1,hop,ho]
 rfl
theorem Aby {u:Uop} (h:A1 u=true) (L:List Uop):known (u::L)=G5 u::known L:=by
 unfold known
 rw [List.filter_cons_of_pos h]
 rfl
theorem Vd {u:Uop} (h:A1 u=false) (L:List Uop):known (u::L)=known L:=by
 unfold known
 rw [List.filter_cons_of_neg (by rw [h];simp)]
theorem Ad9 {u:Uop} {L:List Uop} {m:List Int} {seq q:Int} (hp:(u::L).Pairwise (fun u v=>u.seq<v.seq)) (hs:u.seq<seq) (hc:u.commit.Wf) (hf:A1 u=true→u.commit.at_+u.commit.many≤m.length) (hl:m.length≤4096)
  (hno:A1 u=false→u.commit.many=0) (hq:0≤q):Dh (known L) (C9 u.commit m) seq q=Dh (known (u::L)) m seq q:=by
 rcases hk:A1 u with _ | _
 ·rw [Vd hk]
  have:C9 u.commit m=m:=by
   unfold C9 Vm
   rw [hno hk]
   rfl
  rw [this]
 ·have hp':=Abz hp
  rw [Aby hk] at hp' ⊢
  have h1:=hc.many
  have h2:=hc.at_
  exact W8 (a:=G5 u) hp' rfl rfl hs h1 h2.1 (hf hk) hl hq
structure Af9 (C:Core) (u:Uop) (R:List Uop):Prop where
 com:u.commit=Kr C.hart C.mem
 pc:u.pc=C.hart.pc
 wf:u.commit.Wf
 fits:u.commit.Fits C.mem.length
 hart:Cx u.commit C.hart=goH C.hart C.mem
 mem:C9 u.commit C.mem=goM C.hart C.mem
theorem Abw {C:Core} (h:Inv C) {R:List Uop} {u:Uop} (ho:C.ops=u::R) (h2:u.state=2):Af9 C u R:=by
 obtain⟨e1,e2⟩:=Agr h ho h2
 refine⟨e1,e2,?_,?_,?_,?_⟩
 ·rw [e1];exact Pw h.hart h.bytes
 ·rw [e1];exact Q0 _ _
 ·rw [e1];rfl
 ·rw [e1];rfl
theorem Ajx {l:List Int} {i:Int} {r:Nat} {x:Int} (hl:l.length=32) (h0:0≤i) (h1:i≤31):(l.set i.toNat x).getD r 0=if i.toNat=r then x else l.getD r 0:=by
 rw [Fb]
 by_cases e:i.toNat=r
 ·rw [if_pos ⟨e,by omega⟩,if_pos e]
 ·rw [if_neg (fun h=>e h.1),if_neg e]
theorem Zi {C:Core} (h:Inv C) {R:List Uop} {u:Uop} (ho:C.ops=u::R) (h2:u.state=2) (h0:(goH C.hart C.mem).state=0) :
  Inv { Bm C with slots:=R.map Bz }:=by
 have H:=Abw h ho h2
 have hO:=h.ops [] u R ho
 obtain⟨N,hgN,hlN,hcN,hvN⟩:=h.names
 rw [ho] at hcN
 have hNk:NOk N u:=hcN.1
 have hst0:u.commit.state=0:=by
  have:=H.hart
  rw [←this] at h0
  exact h0
 have hc0:u.cause=0:=by
  rcases Decidable.em (u.cause=0) with hc | hc
  ·exact hc
  ·have:=(hO.fault hc).2.1
   rw [this] at hst0
   exact absurd hst0 (by show ¬ ((2:Int)=0);decide)
 have hi:=H6 (Inv.insOk hO hc0)
 have hstop:Cw u=false:=by
  unfold Cw
  rw [hc0,hst0]
  simp
 have hpcs:=h.pcs
 rw [ho] at hpcs
 obtain⟨hp1,hp2⟩:=hpcs
 rw [hstop] at hp2
 rw [if_neg (by simp)] at hp2
 have hseqs:=h.seqs
 rw [ho] at hseqs
 have hcw:=H.wf
 have hdoes:u.commit=Ck u.ins C.hart C.mem:=by
  have hf:=hO.fetch
  have hk:known []=[]:=rfl
  rw [hk,Ws h.bytes _ hO.pc.1,H.pc] at hf
  rw [H.com]
  unfold Kr
  rw [←hf]
  rw [if_pos (show(u.ins,u.cause).2=0 from hc0)]
 have hrd:u.commit.rd=if Bf u.ins=true then u.ins.rd else 0:=by
  rw [hdoes]
  rw [hdoes] at hst0
  exact Aie hst0
 have hmany:A1 u=false→u.commit.many=0:=by
  intro hk
  rcases hs:A0 u.ins with _ | _
  ·rw [hdoes];exact Aeo hs
  ·unfold A1 at hk
   rw [hs,decide_eq_true h2,decide_eq_true hst0] at hk
   cases hk
 have hfit:A1 u=true→u.commit.at_+u.commit.many≤C.mem.length:=by
  intro hk
  rcases H.fits with hf | hf
  ·exfalso
   unfold A1 at hk
   simp only [Bool.and_eq_true] at hk
   have hs:=hk.1.1
   have:=Na C.hart C.mem hs (by rw [←hdoes];exact hst0)
   rw [←hdoes] at this
   have e:=congrArg Com.many this.1
   have e:u.commit.many=Fl u.ins.op:=e
   rw [hf] at e
   unfold Fl at e
   split at e
   ·cases e
   ·split at e<;>cases e
  ·exact hf
 have hmlen:(C9 u.commit C.mem).length=C.mem.length:=Iy _ _
 rw [Eo ho,Aex (N:=N) (R:=R) hcN hgN]
 have hreg:∀ r,r<32→(Cx u.commit C.hart).regs.getD r 0=if 0<u.dest∧u.ins.rd.toNat=r then u.commit.value else C.hart.regs.getD r 0:=by
  intro r hr
  unfold Cx
  dsimp only
  rw [hrd]
  by_cases hd:0<u.dest
  ·obtain⟨⟨g1,_⟩,⟨r1,r2⟩,_,_⟩:=hNk.dst hd
   rw [if_pos g1,if_pos (show 0<u.ins.rd by omega),Ajx h.hart.len (by omega) r2]
   by_cases e:u.ins.rd.toNat=r
   ·rw [if_pos e,if_pos ⟨hd,e⟩]
   ·rw [if_neg e,if_neg (fun h=>e h.2)]
  ·have hg:Bf u.ins=false:=by
    rcases hg:Bf u.ins with _ | _
    ·rfl
    ·exact absurd ⟨hg,hc0⟩ (hNk.nodst (by omega)).2
   rw [hg,if_neg (h:=instDecidableEqBool false true) (by decide),if_neg (by omega),if_neg (fun h=>hd h.1)]
 refine⟨h.cfg,Nn hcw h.hart,S1 hcw h.may,?_,Pq h.bytes,?_,Adr h.tab hO.pc hcw,h.words,h.there,rfl,(List.pairwise_cons.1 hseqs).2,?_,?_,?_,?_,h.seq0,h.pc,?_⟩
 ·show(Cx u.commit C.hart).state=0
  rw [H.hart];exact h0
 ·show(C9 u.commit C.mem).length≤4096
  rw [hmlen];exact h.room
 ·
  show C.access.filter (fun a=>!decide (a.seq=u.seq))=(R.filter Bc).map (Be C.words)
  rw [h.access,ho,List.filter_map,List.filter_filter]
  congr 1
  have e1:∀ v∈R,(((fun a:Acc=>!decide (a.seq=u.seq))∘Be C.words) v&&Bc v)=Bc v:=fun v hv=>by
   have:=(List.pairwise_cons.1 hseqs).1 v hv
   simp only [Function.comp,Et]
   rw [decide_eq_false (by omega)]
   simp
  rw [List.filter_cons_of_neg (by simp [Et]),List.filter_congr e1]
 ·refine⟨Mo N u,Ae1 hgN hNk,Agp hNk hlN,Abb hcN,fun r hr=>?_⟩
  show C.has ((Mo N u).regs.getD r 0)=true∧C.word ((Mo N u).regs.getD r 0)=(Cx u.commit C.hart).regs.getD r 0
  rw [Ae3 u hgN hNk,hreg r hr]
  by_cases e:0<u.dest∧u.ins.rd.toNat=r
  ·rw [if_pos e,if_pos e]
   exact hO.d2 e.1 h2
  ·rw [if_neg e,if_neg e]
   exact hvN r hr
 ·show Eg u.commit.next R C.pc
  rw [←hO.nx h2 hstop]
  exact hp2
 ·have:=h.len
  rw [ho] at this
  show R.length≤C.window
  simp at this
  omega
 ·intro L v R' e
  have e:R=L++v::R':=e
  have hOv:=h.ops (u::L) v R' (by rw [ho,e];rfl)
  have hlt:u.seq<v.seq:=(List.pairwise_cons.1 hseqs).1 v (by rw [e];simp)
  have hpL:(u::L).Pairwise (fun u v=>u.seq<v.seq):=by
   rw [e] at hseqs
   exact hseqs.sublist (List.Sublist.cons_cons u (List.sublist_append_left L (v::R')))
  have hbyte:∀ q,0≤q→Dh (known L) (C9 u.commit C.mem) v.seq q=Dh (known (u::L)) C.mem v.seq q:=fun q hq=>Ad9 hpL hlt hcw hfit h.room hmany hq
  have hsee:∀ p many,0≤p→(Ea (known L) (C9 u.commit C.mem) v.seq p many).1=(Ea (known (u::L)) C.mem v.seq p many).1∧(Ea (known L) (C9 u.commit C.mem) v.seq p many).2.1=(Ea (known (u::L)) C.mem v.seq p many).2.1:=
   fun p many hp=>Pf hmlen fun q h1 _ _ _=>hbyte q (by omega)
  refine hOv.congr hOv.seq.2 (fun e=>by cases e) (fun e=>e) (fun hl hs=>?_) ?_ (fun _ _=>⟨fun h=>h,fun h=>h⟩) (fun _=>⟨rfl,rfl⟩) (fun hcv h2v=>?_)
  ·show(if Ba u.ins=true then false else C.still)=true
   rcases ha:Ba u.ins with _ | _
   ·exact hs
   ·have:=(hO.last (by unfold Eq;rw [ha];rfl)).1
    rw [this] at e
    cases L<;>cases e
  ·show Ds (known L) (C9 u.commit C.mem) v.seq v.pc=_
   unfold Ds
   obtain⟨s1,s2⟩:=hsee v.pc 4 hOv.pc.1
   rw [s1,s2]
  ·have hlone:Ba v.ins=false:=by
    rcases ha:Ba v.ins with _ | _
    ·rfl
    ·have:=hOv.lone ha (by omega)
     cases this
   have hiv:=H6 (Inv.insOk hOv hcv)
   unfold Ab
   rcases hl:Bo v.ins with _ | _
   ·show Ck v.ins _ _=Ck v.ins _ _
    have hl32:(Cx u.commit C.hart).regs.length=32:=(Nn hcw h.hart).len
    have hset:∀ (l:List Int) (x y:Int) (i j r:Int),l.length=32→0≤i→i≤31→0≤j→j≤31→(r=i∨r=j)→((l.set i.toNat x).set j.toNat y).getD r.toNat 0=if r=j then y else x:=by
     intro l x y i j r hl hi0 hi1 hj0 hj1 hr
     rw [Fb,Fb]
     by_cases e:r=j
     ·rw [if_pos e,if_pos ⟨by rw [e],by simp;omega⟩]
     ·rcases hr with rfl | rfl
      ·rw [if_neg e,if_neg (fun h=>e (by omega)),if_pos ⟨rfl,by omega⟩]
      ·exact absurd rfl e
    refine Abk hl hlone ?_ ?_ rfl hmlen
    ·show(((Cx u.commit C.hart).regs.set v.ins.rs1.toNat (C.word v.a)).set v.ins.rs2.toNat (C.word v.b)).getD v.ins.rs1.toNat 0=((C.hart.regs.set v.ins.rs1.toNat (C.word v.a)).set v.ins.rs2.toNat (C.word v.b)).getD v.ins.rs1.toNat 0
     rw [hset _ _ _ _ _ _ hl32 (by omega) (by omega) (by omega) (by omega) (Or.inl rfl),hset _ _ _ _ _ _ h.hart.len (by omega) (by omega) (by omega) (by omega) (Or.inl rfl)]
    ·show(((Cx u.commit C.hart).regs.set v.ins.rs1.toNat (C.word v.a)).set v.ins.rs2.toNat (C.word v.b)).getD v.ins.rs2.toNat 0=((C.hart.regs.set v.ins.rs1.toNat (C.word v.a)).set v.ins.rs2.toNat (C.word v.b)).getD v.ins.rs2.toNat 0
     rw [hset _ _ _ _ _ _ hl32 (by omega) (by omega) (by omega) (by omega) (Or.inr rfl),hset _ _ _ _ _ _ h.hart.len (by omega) (by omega) (by omega) (by omega) (Or.inr rfl)]
   ·rw [if_pos rfl,if_pos rfl,Jz hl,Jz hl]
    obtain⟨s1,s2⟩:=hsee (u32 (C.word v.a+v.ins.imm)) (loadBytes v.ins.op) (Dc _).1
    rw [N7,N7] at s2
    show(if Gr (C9 u.commit C.mem) (u32 (C.word v.a+v.ins.imm)) (loadBytes v.ins.op)=true then Sn v.ins v.pc (Ea (known L) (C9 u.commit C.mem) v.seq (u32 (C.word v.a+v.ins.imm)) (loadBytes v.ins.op)).1 else _)=_
    rw [s1,s2]
theorem Sx.congr2 {C C':Core} {L L' R R':List Uop} {v:Uop} (h:Sx C L v R) (hq:v.seq<C'.seq)
  (hL:L=[]→L'=[]) (hst:Eq v=true→R'=[]∧C'.still=true)
  (hf:Ds (known L') C'.mem v.seq v.pc=Ds (known L) C.mem v.seq v.pc)
  (hs:v.cause=0→v.state≠0→(C.has v.a=true→C'.has v.a=true)∧(C.has v.b=true→C'.has v.b=true))
  (hd:0<v.dest→C'.has v.dest=C.has v.dest∧C'.word v.dest=C.word v.dest)
  (hx:v.cause=0→v.state=2→Ab C' L' v=Ab C L v):Sx C' L' v R':=
 ⟨⟨h.seq.1,hq⟩,h.st,h.fault,h.cause,by rw [hf];exact h.fetch,h.pc,h.next,h.nextS,
  fun hc hn=>⟨(hs hc hn).1 (h.src hc hn).1,(hs hc hn).2 (h.src hc hn).2⟩,h.gs,
  fun h1 h2 h3=>h.d1 h1 h2 (by rw [←(hd h1).1];exact h3),fun h1 h2=>by rw [(hd h1).1,(hd h1).2];exact h.d2 h1 h2,
  fun h1 h2=>by rw [hx h1 h2];exact h.com h1 h2,h.nx,fun h1 h2=>hL (h.lone h1 h2),hst⟩
def Uj (C:Core) (u:Uop) (s:List Int) (pc:Int) (still:Bool):Core:=
 { C with
  slots:=(C.ops++[u]).map Bz
  ops:=C.ops++[u]
  seq:=C.seq+1
  taken:=C.taken+1
  names:=Dm C.names u
  there:=if 0<u.dest then C.there.set u.dest.toNat false else C.there
  access:=((C.ops++[u]).filter Bc).map (Be C.words)
  script:=s
  pc:=pc
  still:=still }
theorem Us {α:Type} {A L R:List α} {u v:α} (h:A++[u]=L++v::R):(∃ R0,R=R0++[u]∧A=L++v::R0)∨(R=[]∧v=u∧L=A):=by
 rcases List.eq_nil_or_concat R with rfl | ⟨R0,w,rfl⟩
 ·right
  have:=List.append_inj' h rfl
  exact⟨rfl,by injection this.2 with h _;exact h.symm,this.1.symm⟩
 ·left
  refine⟨R0,?_⟩
  have e:L++v::(R0++[w])=(L++v::R0)++[w]:=by simp
  rw [List.concat_eq_append,e] at h
  have:=List.append_inj' h rfl
  have e2:u=w:=by injection this.2
  exact⟨by rw [e2,List.concat_eq_append],this.1⟩
theorem Inv.free {C:Core} (h:Inv C) (hs:C.still=false):∀ v∈C.ops,Eq v=false:=by
 intro v hv
 obtain⟨L,R,e⟩:=List.append_of_mem hv
 rcases hl:Eq v with _ | _
 ·rfl
 ·have:=((h.ops L v R e).last hl).2
  rw [hs] at this
  cases this
theorem Inv.pushed {C:Core} (h:Inv C) (hs:C.still=false) (hlen:C.ops.length<C.window) {u:Uop} (s:List Int) {pc:Int} (still:Bool) (hN:NOk C.names u) (hseq:u.seq=C.seq) (hpc:u.pc=C.pc)
  (hpcr:0≤pc∧pc≤4294967295) (hq:Cw u=false→u.next=pc) (hsrc:u.cause=0→(0≤u.ins.rs1∧u.ins.rs1≤31)∧0≤u.ins.rs2∧u.ins.rs2≤31) (hz:u.cause≠0→u.a=0∧u.b=0)
  (hu:Sx (Uj C u s pc still) C.ops u []):Inv (Uj C u s pc still):=by
 obtain⟨N,hgN,hlN,hcN,hvN⟩:=h.names
 have hfree:=h.free hs
 have hc2:=hcN.snoc hN
 have hM:=hcN.good hgN
 have hdst:0<u.dest→u.dest∈C.names.free∧u.dest<96:=fun hd=>by
  have:u.dest∈C.names.free:=by rw [(hN.dst hd).2.2.1];simp
  exact⟨this,(hM.free_pos this).2⟩
 have hap:(C.ops++[u]).Pairwise Apart:=by
  refine hc2.apart hgN (fun v hv hcz=>?_) (fun v hv hcn=>?_)
  ·rcases List.mem_append.1 hv with hv | hv
   ·obtain⟨L,R,e⟩:=List.append_of_mem hv
    have:=H6 (Inv.insOk (h.ops L v R e) hcz)
    omega
   ·rw [List.mem_singleton.1 hv] at hcz ⊢
    exact hsrc hcz
  ·rcases List.mem_append.1 hv with hv | hv
   ·obtain⟨L,R,e⟩:=List.append_of_mem hv
    obtain⟨_,_,e1,e2,_⟩:=(h.ops L v R e).fault hcn
    exact⟨e1,e2⟩
   ·rw [List.mem_singleton.1 hv] at hcn ⊢
    exact hz hcn
 have hap:∀ v∈C.ops,Apart v u:=fun v hv=>(List.pairwise_append.1 hap).2.2 v hv u (by simp)
 have hhas:∀ p:Int,0≤p→(0<u.dest→p≠u.dest)→(Uj C u s pc still).has p=C.has p:=by
  intro p hp hne
  show(if 0<u.dest then C.there.set u.dest.toNat false else C.there).getD p.toNat false=C.there.getD p.toNat false
  split
  ·rename_i hd
   exact Xi false (by omega) hp (hne hd)
  ·rfl
 refine⟨h.cfg,h.hart,h.may,h.runs,h.bytes,h.room,h.tab,h.words,?_,rfl,?_,rfl,?_,?_,?_,?_,hpcr,?_⟩
 ·show(if 0<u.dest then C.there.set u.dest.toNat false else C.there).length=96
  split
  ·simp [h.there]
  ·exact h.there
 ·refine List.pairwise_append.2 ⟨h.seqs,by simp,fun v hv w hw=>?_⟩
  rw [List.mem_singleton.1 hw,hseq]
  obtain⟨L,R,e⟩:=List.append_of_mem hv
  exact(h.ops L v R e).seq.2
 ·refine⟨N,hgN,hlN,hc2,fun r hr=>?_⟩
  obtain⟨v1,v2⟩:=hvN r hr
  refine⟨?_,v2⟩
  rw [hhas _ (hgN.reg_range hr).1 (fun hd e=>hgN.disjoint (hgN.reg_mem hr) (e▸hcN.free_sub _ (hdst hd).1))]
  exact v1
 ·show Eg C.hart.pc (C.ops++[u]) pc
  refine Eg.snoc (by rw [hpc];exact h.pcs) (fun x hx=>?_) pc hq
  have:=hfree x hx
  unfold Eq at this
  rw [Bool.or_eq_false_iff] at this
  exact this.2
 ·show(C.ops++[u]).length≤C.window
  simp
  omega
 ·show 0≤C.seq+1
  have:=h.seq0
  omega
 ·intro L v R e
  have e:C.ops++[u]=L++v::R:=e
  rcases Us e with⟨R0,rfl,e0⟩ | ⟨rfl,rfl,rfl⟩
  ·have hOv:=h.ops L v R0 e0
   have hv:v∈C.ops:=by rw [e0];simp
   obtain⟨q1,q2,q3,_⟩:=J7 (by rw [←e0];exact hcN) hgN hOv
   have ha:=hap v hv
   refine hOv.congr2 (by show v.seq<C.seq+1;have:=hOv.seq.2;omega) id (fun hl=>by rw [hfree v hv] at hl;cases hl) rfl (fun _ _=>⟨fun hh=>?_,fun hh=>?_⟩) (fun hd=>⟨?_,rfl⟩) (fun _ _=>?_)
   ·rw [hhas _ q1.1 ha.a];exact hh
   ·rw [hhas _ q2.1 ha.b];exact hh
   ·rw [hhas _ q3 ha.d]
   ·exact I4 rfl rfl rfl rfl rfl
  ·exact hu
theorem Inv.seen {C:Core} (h:Inv C):Jc C=Ds (known C.ops) C.mem C.seq C.pc:=by
 obtain⟨s1,s2⟩:=Uq (words:=C.words) (A:=C.ops) (B:=[]) (seq:=C.seq) C.mem C.pc 4 (fun v hv=>by cases hv)
 rw [List.append_nil,←h.access] at s1 s2
 unfold Jc Ds
 rw [s1,s2]
theorem Ko (K:List Acc) (m:List Int) (seq pc:Int):(Ds K m seq pc).2=0∧IsP (Ds K m seq pc).1=true∨((Ds K m seq pc).2=1∨(Ds K m seq pc).2=2)∧(Ds K m seq pc).1=Fx:=by
 unfold Ds
 split
 ·have hc:=P6 (bytesOf (Ea K m seq pc 4).1) 0
  by_cases h0:(Dp (bytesOf (Ea K m seq pc 4).1) 0).2=0
  ·exact Or.inl ⟨h0,(Nu h0).1⟩
  ·right
   refine⟨by omega,?_⟩
   unfold Dp at h0 ⊢
   split at h0
   ·rename_i hl
    rw [if_pos hl]
    cases hd:Oe (Di (bytesOf (Ea K m seq pc 4).1) 13 0).1 with
    |none=>rfl
    |some i=>rw [hd] at h0;exact absurd rfl h0
   ·rename_i hl
    rw [if_neg hl]
 ·exact Or.inr ⟨Or.inl rfl,rfl⟩
theorem Inv.pushOk {C:Core} (h:Inv C):I8 C.slots C.window C.seq=if C.window≤C.ops.length then none else some (C.slots++[⟨C.seq,false⟩]):=by
 have hl:C.slots.length=C.ops.length:=by rw [h.slots];simp
 have ha:C.slots.any (fun s=>decide (C.seq≤s.seq))=false:=by
  rw [List.any_eq_false]
  intro s hs
  rw [h.slots] at hs
  obtain⟨v,hv,rfl⟩:=List.mem_map.1 hs
  obtain⟨L,R,e⟩:=List.append_of_mem hv
  have:=(h.ops L v R e).seq.2
  show ¬ decide (C.seq≤v.seq)=true
  simp
  omega
 unfold I8
 rw [ha,hl]
 simp only [Bool.false_eq_true,or_false]
theorem Aew {C:Core} (h:Inv C) (i:Ins) (pc:Int):0≤(Df C i pc).1∧(Df C i pc).1≤4294967295:=by
 obtain⟨ht,_⟩:=h.tab.cnt_of pc
 unfold Df
 dsimp only
 split
 ·exact Dc _
 split
 ·dsimp only
  split
  ·exact Dc _
  ·exact⟨ht.t0,ht.t1⟩
 split
 ·dsimp only
  split
  ·exact Dc _
  ·exact Dc _
 ·exact Dc _
theorem Zg {C:Core} {i:Ins} (hi:(A0 i || Ba i)=true) (pc:Int):(Df C i pc).1=u32 (pc+4):=by
 have:(16≤i.op∧i.op≤18)∨i.op=47∨i.op=48:=by
  rw [Bool.or_eq_true] at hi
  rcases hi with hi | hi
  ·exact Or.inl (Fh.1 hi)
  ·exact Or.inr (K6.1 hi)
 unfold Df
 dsimp only
 rw [if_neg (by omega),if_neg (by omega),if_neg (by omega)]
def X9 (C:Core) (f:Ins×Int):Uop:={ Bw with seq:=C.seq,pc:=C.pc,cause:=f.2,ins:=f.1,state:=2,commit:=Bv C.pc f.2 }
def takeC (C:Core) (i:Ins):Ax×Int×Int:=if Bf i=true then (Mr C.names i.rd).getD (Ax.zero,0,0) else (C.names,0,0)
def Hb (C:Core) (i:Ins):Uop:=
 { Bw with seq:=C.seq,pc:=C.pc,ins:=i,a:=C.names.regs.getD i.rs1.toNat 0,b:=C.names.regs.getD i.rs2.toNat 0,dest:=(takeC C i).2.1,old:=(takeC C i).2.2,next:=(Df C i C.pc).1 }
theorem Qo {C:Core} (h:Inv C) {i:Ins} (hi:IsP i=true) (hf:C.names.free≠[]):NOk C.names (Hb C i)∧(takeC C i).1=Dm C.names (Hb C i)∧(0<(Hb C i).dest↔Bf i=true):=by
 obtain⟨N,hgN,_,hcN,_⟩:=h.names
 have hM:=hcN.good hgN
 have ho:=H6 hi
 rcases hg:Bf i with _ | _
 ·have e:takeC C i=(C.names,0,0):=by unfold takeC;rw [hg];rfl
  have ed:(Hb C i).dest=0:=by show(takeC C i).2.1=0;rw [e]
  refine⟨⟨fun _=>⟨rfl,rfl⟩,fun hd=>by rw [ed] at hd;omega,fun _=>⟨ed,fun hh=>?_⟩⟩,?_,⟨fun hd=>by rw [ed] at hd;omega,fun hh=>by cases hh⟩⟩
  ·have:Bf i=true:=hh.1
   rw [hg] at this
   cases this
  ·unfold Dm
   rw [ed,e]
   rfl
 ·cases hfr:C.names.free with
  |nil=>exact absurd hfr hf
  |cons p f=>
   have hrd:1≤i.rd∧i.rd≤31:=by
    have h1:=hg
    unfold Bf at h1
    simp only [Bool.and_eq_true,decide_eq_true_eq] at h1
    omega
   have e:takeC C i=(⟨C.names.phys,C.names.regs.set i.rd.toNat p,f⟩,p,C.names.regs.getD i.rd.toNat 0):=by
    unfold takeC Mr
    rw [if_pos hg,hfr]
    dsimp only
    rw [if_pos ⟨hM.may,hrd⟩]
    rfl
   have ed:(Hb C i).dest=p:=by show(takeC C i).2.1=p;rw [e]
   have eo:(Hb C i).old=C.names.regs.getD i.rd.toNat 0:=by show(takeC C i).2.2=_;rw [e]
   have hp:=hM.free_pos (p:=p) (by rw [hfr];simp)
   refine⟨⟨fun _=>⟨rfl,rfl⟩,fun _=>⟨⟨hg,rfl⟩,hrd,by rw [hfr,ed];rfl,eo⟩,fun hd=>by rw [ed] at hd;omega⟩,?_,⟨fun _=>rfl,fun _=>by rw [ed];exact hp.1⟩⟩
   unfold Dm
   rw [ed,if_pos hp.1,e,hfr]
   rfl
theorem Aix {u:Uop} (h:u.ins=Fx):Bc u=false:=by unfold Bc;rw [h];decide
theorem Nt {C:Core} (h:Inv C):(Bt C=(false,C)∧(C.still=true∨C.names.free=[]∨C.window≤C.ops.length)) ∨
  (C.still=false∧C.names.free≠[]∧C.ops.length<C.window ∧
   ((((Ds (known C.ops) C.mem C.seq C.pc).2=1∨(Ds (known C.ops) C.mem C.seq C.pc).2=2)∧(Ds (known C.ops) C.mem C.seq C.pc).1=Fx∧Bt C=(false,Uj C (X9 C (Ds (known C.ops) C.mem C.seq C.pc)) C.script C.pc true)) ∨
    ∃ i,Ds (known C.ops) C.mem C.seq C.pc=(i,0)∧IsP i=true∧Bt C=(!Ba i,Uj C (Hb C i) (Df C i C.pc).2 (Df C i C.pc).1 (Ba i)))):=by
 rcases Decidable.em (C.still=true∨C.names.free=[]) with hc | hc
 ·left
  refine⟨?_,by rcases hc with hc | hc;exact Or.inl hc;exact Or.inr (Or.inl hc)⟩
  unfold Bt
  rw [if_pos hc]
 have hs:C.still=false:=by
  rcases e:C.still with _ | _
  ·rfl
  ·exact absurd (Or.inl e) hc
 have hfr:C.names.free≠[]:=fun e=>hc (Or.inr e)
 by_cases hw:C.window≤C.ops.length
 ·left
  refine⟨?_,Or.inr (Or.inr hw)⟩
  unfold Bt
  rw [if_neg hc,h.pushOk,if_pos hw]
 right
 refine⟨hs,hfr,by omega,?_⟩
 have hex:Bt C=(let f:=Ds (known C.ops) C.mem C.seq C.pc
   let slots:=C.slots++[(⟨C.seq,false⟩:Slt)]
   let c1:={ C with slots:=slots,seq:=C.seq+1,taken:=C.taken+1 }
   if f.2≠0 then
    (false,Ep { c1 with ops:=C.ops++[{ Bw with seq:=C.seq,pc:=C.pc,cause:=f.2,ins:=f.1,commit:=Bv C.pc f.2 }],still:=true } C.ops.length)
   else
    let i:=f.1
    let t:=takeC C i
    let u:={ Bw with seq:=C.seq,pc:=C.pc,ins:=i,a:=C.names.regs.getD i.rs1.toNat 0,b:=C.names.regs.getD i.rs2.toNat 0,dest:=t.2.1,old:=t.2.2 }
    let c2:={ c1 with
     names:=t.1
     there:=if Bf i=true then C.there.set t.2.1.toNat false else C.there
     access:=if (Bo i || A0 i)=true then C.access++[(⟨C.seq,A0 i,false,0,0,0,false⟩:Acc)] else C.access }
    let fo:=Df C i C.pc
    (!Ba i,{ c2 with ops:=C.ops++[{ u with next:=fo.1 }],script:=fo.2,pc:=fo.1,still:=Ba i })):=by
  rw [←h.seen]
  conv=>lhs;unfold Bt
  rw [if_neg hc,h.pushOk,if_neg hw]
  rfl
 rw [hex]
 dsimp only
 have hslots:∀ b,(C.ops.map Bz)++[(⟨C.seq,b⟩:Slt)]=C.slots++[⟨C.seq,b⟩]:=fun b=>by rw [h.slots]
 rcases Ko (known C.ops) C.mem C.seq C.pc with⟨h0,his⟩ | ⟨h0,hin⟩
 ·right
  generalize hf:Ds (known C.ops) C.mem C.seq C.pc=f at h0 his ⊢
  obtain⟨i,c⟩:=f
  simp only at h0 his
  subst h0
  refine⟨i,rfl,his,?_⟩
  rw [if_neg (fun hh=>hh rfl)]
  obtain⟨t1,t2,t3⟩:=Qo h his hfr
  congr 1
  unfold Uj
  have e1:(C.ops++[Hb C i]).map Bz=C.slots++[⟨C.seq,false⟩]:=by
   rw [List.map_append,h.slots]
   rfl
  have e2:(if 0<(Hb C i).dest then C.there.set (Hb C i).dest.toNat false else C.there)=(if Bf i=true then C.there.set (takeC C i).2.1.toNat false else C.there):=by
   by_cases hg:Bf i=true
   ·rw [if_pos hg,if_pos (t3.2 hg)]
    rfl
   ·rw [if_neg hg,if_neg (fun hd=>hg (t3.1 hd))]
  have e3:((C.ops++[Hb C i]).filter Bc).map (Be C.words)=(if (Bo i || A0 i)=true then C.access++[(⟨C.seq,A0 i,false,0,0,0,false⟩:Acc)] else C.access):=by
   rw [List.filter_append,List.map_append,←h.access]
   by_cases hm:(Bo i || A0 i)=true
   ·have hm':Bc (Hb C i)=true:=hm
    rw [if_pos hm,List.filter_cons_of_pos hm']
    have hk:A1 (Hb C i)=false:=by unfold A1;simp [Hb,Bw]
    have:Be C.words (Hb C i)=⟨C.seq,A0 i,false,0,0,0,false⟩:=by
     unfold Be
     rw [hk,if_neg (h:=instDecidableEqBool false true) (by decide),if_neg (fun hh=>by have h2:(0:Int)=2:=hh.2.1;cases h2)]
     rfl
    rw [List.filter_nil,List.map_cons,List.map_nil,this]
   ·have hm':Bc (Hb C i)=false:=by
     rcases e:Bc (Hb C i) with _ | _
     ·rfl
     ·exact absurd e hm
    rw [if_neg hm,List.filter_cons_of_neg (by rw [hm'];simp)]
    simp
  rw [e1,e2,e3,←t2]
  rfl
 ·left
  refine⟨h0,hin,?_⟩
  rw [if_pos (by omega)]
  congr 1
  generalize hf:Ds (known C.ops) C.mem C.seq C.pc=f at h0 hin ⊢
  obtain⟨i,c⟩:=f
  simp only at h0 hin
  subst hin
  unfold Ep
  have hop:Core.op { C with slots:=C.slots++[(⟨C.seq,false⟩:Slt)],seq:=C.seq+1,taken:=C.taken+1,ops:=C.ops++[{ Bw with seq:=C.seq,pc:=C.pc,cause:=c,ins:=Fx,commit:=Bv C.pc c }],still:=true } C.ops.length={ Bw with seq:=C.seq,pc:=C.pc,cause:=c,ins:=Fx,commit:=Bv C.pc c }:=Core.op_at (R:=[]) rfl
  dsimp only
  rw [hop]
  have hd:Ih (C.slots++[(⟨C.seq,false⟩:Slt)]) C.seq=some (C.slots++[⟨C.seq,true⟩]):=Ti (fun s hs=>by
   rw [h.slots] at hs
   obtain⟨v,hv,rfl⟩:=List.mem_map.1 hs
   obtain⟨L,R,e⟩:=List.append_of_mem hv
   have:=(h.ops L v R e).seq.2
   show v.seq≠C.seq
   omega)
  dsimp only
  rw [hd,Ge]
  unfold Uj
  have e1:(C.ops++[X9 C (Fx,c)]).map Bz=C.slots++[⟨C.seq,true⟩]:=by
   rw [List.map_append,h.slots]
   rfl
  have e3:((C.ops++[X9 C (Fx,c)]).filter Bc).map (Be C.words)=C.access:=by
   rw [List.filter_append,List.map_append,←h.access,List.filter_cons_of_neg (by rw [Aix (u:=X9 C (Fx,c)) rfl];simp)]
   simp
  rw [e1,e3]
  rfl
theorem Aeu {C:Core} (h:Inv C):Inv (Bt C).2:=by
 rcases Nt h with⟨e,_⟩ | ⟨hs,hfr,hw,⟨h0,hin,e⟩ | ⟨i,hf,his,e⟩⟩
 ·rw [e];exact h
 ·rw [e]
  generalize hf:Ds (known C.ops) C.mem C.seq C.pc=f at h0 hin ⊢
  obtain⟨i,c⟩:=f
  simp only at h0 hin
  subst hin
  have hc0:c≠0:=by omega
  refine h.pushed hs hw C.script true ⟨fun hh=>absurd hh hc0,fun hd=>(by cases hd),fun _=>⟨rfl,fun hh=>absurd hh.2 hc0⟩⟩ rfl rfl h.pc (fun hst=>?_) (fun hh=>absurd hh hc0) (fun _=>⟨rfl,rfl⟩) ?_
  ·have:Cw (X9 C (Fx,c))=true:=by
    unfold Cw
    rw [decide_eq_true (show(X9 C (Fx,c)).cause≠0 from hc0)]
    rfl
   rw [this] at hst
   cases hst
  ·refine⟨⟨h.seq0,by show C.seq<C.seq+1;omega⟩,Or.inr (Or.inr rfl),fun _=>⟨rfl,rfl,rfl,rfl,rfl⟩,Or.inr h0,hf.symm,h.pc,by show(0:Int)≤0∧(0:Int)≤4294967295;omega,fun hh=>absurd hh hc0,fun hh=>absurd hh hc0,fun hh=>(by cases hh),fun hd=>(by cases hd),fun hd=>(by cases hd),fun hh=>absurd hh hc0,fun _ hst=>?_,fun ha=>?_,fun _=>⟨rfl,rfl⟩⟩
   ·have:Cw (X9 C (Fx,c))=true:=by
     unfold Cw
     rw [decide_eq_true (show(X9 C (Fx,c)).cause≠0 from hc0)]
     rfl
    rw [this] at hst
    cases hst
   ·exact absurd ha (by decide:¬ Ba Fx=true)
 ·rw [e]
  obtain⟨t1,t2,t3⟩:=Qo h his hfr
  have ho:=H6 his
  have hb:=Aew h i C.pc
  refine h.pushed hs hw _ (Ba i) t1 rfl rfl hb (fun _=>rfl) (fun _=>⟨by show 0≤i.rs1∧i.rs1≤31;omega,by show 0≤i.rs2∧i.rs2≤31;omega⟩) (fun hh=>absurd rfl hh) ?_
  refine⟨⟨h.seq0,by show C.seq<C.seq+1;omega⟩,Or.inl rfl,fun hh=>absurd rfl hh,Or.inl rfl,hf.symm,h.pc,hb,fun _ hh=>Zg hh _,fun _ hh=>absurd rfl hh,fun hh=>(by cases hh),fun hd _ hh=>?_,fun _ hh=>?_,fun _ hh=>?_,fun hh=>?_,fun _ hh=>absurd rfl hh,fun hl=>⟨rfl,?_⟩⟩
  ·exfalso
   have hd':0<(Hb C i).dest:=hd
   have:(C.there.set (Hb C i).dest.toNat false).getD (Hb C i).dest.toNat false=true:=by
    have hh:(if 0<(Hb C i).dest then C.there.set (Hb C i).dest.toNat false else C.there).getD (Hb C i).dest.toNat false=true:=hh
    rw [if_pos hd'] at hh
    exact hh
   obtain⟨N,hgN,_,hcN,_⟩:=h.names
   have hM:=hcN.good hgN
   have hfr:(Hb C i).dest∈C.names.free:=by rw [(t1.dst hd').2.2.1];simp
   rw [Tu false (by omega) (by rw [h.there];exact(hM.free_pos hfr).2)] at this
   cases this
  ·have hh:(0:Int)=2:=hh
   cases hh
  ·have hh:(0:Int)=2:=hh
   cases hh
  ·have hh:(0:Int)=2:=hh
   cases hh
  ·show Ba i=true
   have hl:(Ba i || Cw (Hb C i))=true:=hl
   have hst:Cw (Hb C i)=false:=rfl
   rw [hst,Bool.or_false] at hl
   exact hl
def Fy (C:Core):Prop:=C.still=true→∃ L u,C.ops=L++[u]∧Eq u=true
theorem Zo {u u':Uop} (hi:u'.ins=u.ins) (hc:u'.cause=u.cause) (h0:u.state≠2) (h:Eq u=true):Eq u'=true:=by
 unfold Eq Cw at h ⊢
 rw [decide_eq_false h0] at h
 rw [hi,hc]
 simp only [Bool.false_and,Bool.or_false] at h
 rcases ha:Ba u.ins with _ | _
 ·rw [ha,Bool.false_or] at h
  rw [h]
  rfl
 ·rfl
theorem Aaj {L R:List Uop} {u u':Uop} (hi:u'.ins=u.ins) (hc:u'.cause=u.cause) (h0:u.state≠2) (h:∃ L' w,L++u::R=L'++[w]∧Eq w=true):∃ L' w,L++u'::R=L'++[w]∧Eq w=true:=by
 obtain⟨L',w,e,hl⟩:=h
 rcases Us e.symm with⟨R0,rfl,_⟩ | ⟨rfl,rfl,_⟩
 ·exact⟨L++u'::R0,w,by simp,hl⟩
 ·exact⟨L,u',rfl,Zo hi hc h0 hl⟩
theorem Oy (c:Core) (k:Nat):(E9 c k).still=true→c.still=true∧(E9 c k).ops=c.ops:=by
 unfold E9
 dsimp only
 split
 ·intro h
  have h:false=true:=h
  cases h
 ·intro h
  exact⟨h,rfl⟩
theorem M6 {C:Core} (h:Inv C) (hs:Fy C) {L R:List Uop} {u:Uop} (ho:C.ops=L++u::R) (h1:u.state=1):Fy (B3 C L.length):=by
 have hsq:=h.seqs
 rw [ho] at hsq
 obtain⟨hlt,hgt⟩:=Dz hsq
 rw [M5 h ho h1]
 dsimp only
 have h2:(B6 C L R u (Ab C L u) (uD u (Ab C L u)) (Ce C u (Ab C L u))).still=true→∃ L' w,L++uD u (Ab C L u)::R=L'++[w]∧Eq w=true:=fun hh=>
  Aaj (u:=u) rfl rfl (by omega) (by rw [←ho];exact hs hh)
 split
 ·rename_i h0
  intro _
  refine⟨L,uD u (Ab C L u),?_,?_⟩
  ·show(L++uD u (Ab C L u)::R).filter (fun v=>!decide (u.seq+1≤v.seq))=L++[uD u (Ab C L u)]
   have e:L++uD u (Ab C L u)::R=(L++[uD u (Ab C L u)])++R:=by simp
   rw [e]
   refine filter_lt (fun v hv=>?_) (fun v hv=>by have:=hgt v hv;omega)
   rcases List.mem_append.1 hv with hv | hv
   ·have:=hlt v hv;omega
   ·rw [List.mem_singleton.1 hv];show u.seq<u.seq+1;omega
  ·unfold Eq Cw uD
   simp [h0]
 ·rcases hm:Ou C L u with _ | _
  ·simp only [Bool.false_eq_true,if_false]
   split
   ·intro hh
    obtain⟨g1,g2⟩:=Oy _ _ hh
    rw [g2]
    exact h2 g1
   ·exact h2
  ·simp only [if_true]
   split
   ·intro hh
    have:=(Oy _ _ hh).1
    have:false=true:=this
    cases this
   ·intro hh
    have hh:false=true:=hh
    cases hh
theorem Y9 {C:Core} (h:Inv C) (hs:Fy C):Fy (Bt C).2:=by
 rcases Nt h with⟨e,_⟩ | ⟨_,hfr,hw,⟨h0,hin,e⟩ | ⟨i,hf,his,e⟩⟩
 ·rw [e];exact hs
 ·rw [e]
  intro _
  refine⟨C.ops,_,rfl,?_⟩
  unfold Eq Cw
  rw [decide_eq_true (show(X9 C (Ds (known C.ops) C.mem C.seq C.pc)).cause≠0 by show(Ds (known C.ops) C.mem C.seq C.pc).2≠0;omega)]
  simp
 ·rw [e]
  intro hh
  have hh:Ba i=true:=hh
  refine⟨C.ops,_,rfl,?_⟩
  unfold Eq
  rw [show Ba (Hb C i).ins=Ba i from rfl,hh]
  rfl
theorem Ts {C:Core} (hs:Fy C) {R:List Uop} {u:Uop} (ho:C.ops=u::R) (hst:Cw u=false):Fy (Bm C):=by
 intro hh
 rw [Eo ho] at hh ⊢
 have hh:(if Ba u.ins=true then false else C.still)=true:=hh
 rcases ha:Ba u.ins with _ | _
 ·rw [ha] at hh
  obtain⟨L,w,e,hl⟩:=hs hh
  rw [ho] at e
  show ∃ L' w,R=L'++[w]∧Eq w=true
  cases L with
  |nil=>
   have e:u::R=[w]:=e
   injection e with e1 e2
   rw [←e1] at hl
   unfold Eq at hl
   rw [ha,hst] at hl
   cases hl
  |cons x L=>
   rw [List.cons_append] at e
   injection e with e1 e2
   exact⟨L,w,e2,hl⟩
 ·rw [ha] at hh
  cases hh
structure Akd (C C':Core) (k:Nat) (now:Int):Prop where
 same:C'={ C with ops:=C'.ops,script:=C'.script,words:=C'.words,there:=C'.there }
 ops:C'.ops=C.ops∨((C.op k).state=0∧∃ r g,r≤now+9∧C'.ops=C.ops.set k { C.op k with state:=1,ready:=r,guessed:=g })
theorem Ke (C:Core) (k:Nat) (now head:Int):Akd C (B7 C k now head).2 k now:=by
 unfold B7
 dsimp only
 split
 ·exact⟨rfl,Or.inl rfl⟩
 rename_i hn
 have h0:(C.op k).state=0:=by rcases Decidable.em ((C.op k).state=0) with e | e;exact e;exact absurd (Or.inl e) hn
 split
 ·exact⟨rfl,Or.inr ⟨h0,now+3,(C.op k).guessed,by omega,rfl⟩⟩
 split
 ·split
  ·refine⟨?_,Or.inr ⟨h0,now+1+Ho C.script%9,true,by omega,rfl⟩⟩
   unfold Dk
   split<;>rfl
  ·exact⟨rfl,Or.inr ⟨h0,now+1+Ho C.script%9,(C.op k).guessed,by omega,rfl⟩⟩
 ·exact⟨rfl,Or.inr ⟨h0,now+1,(C.op k).guessed,by omega,rfl⟩⟩
theorem Yq {C:Core} (hs:Fy C) {L R:List Uop} {u:Uop} (ho:C.ops=L++u::R) (now head:Int):Fy (B7 C L.length now head).2:=by
 obtain⟨hsame,hops⟩:=Ke C L.length now head
 intro hh
 have hst:(B7 C L.length now head).2.still=C.still:=by rw [hsame]
 rw [hst] at hh
 rcases hops with e | ⟨h0,r,g,_,e⟩
 ·rw [e];exact hs hh
 ·have hu:C.op L.length=u:=Core.op_at ho
  rw [hu] at h0 e
  rw [e,ho,Ge]
  exact Aaj (u:=u) rfl rfl (by omega) (by rw [←ho];exact hs hh)
theorem Aa5 {C:Core} (h:Inv C) {R:List Uop} {u:Uop} (ho:C.ops=u::R) (h0:u.state=0) (now:Int) :
  (B7 C 0 now (C.op 0).seq).1=true∧∃ u',(B7 C 0 now (C.op 0).seq).2.ops=u'::R∧u'.state=1∧u'.ready≤now+9:=by
 have hu:C.op 0=u:=Core.op_at (L:=[]) ho
 obtain⟨N,hgN,_,hcN,hvN⟩:=h.names
 have hO:=h.ops [] u R ho
 rw [ho] at hcN
 have hc:u.cause=0:=by
  rcases Decidable.em (u.cause=0) with e | e
  ·exact e
  ·have:=(hO.fault e).1;omega
 have hi:=H6 (Inv.insOk hO hc)
 obtain⟨s1,s2⟩:=hcN.1.src hc
 have ha:C.has u.a=true:=by rw [s1];exact(hvN _ (by omega)).1
 have hb:C.has u.b=true:=by rw [s2];exact(hvN _ (by omega)).1
 have hno:¬ (u.state≠0∨C.has u.a=false∨C.has u.b=false∨(Ba u.ins=true∧u.seq≠u.seq)):=by
  rw [ha,hb]
  rintro(hh | hh | hh | ⟨_,hh⟩)
  ·exact hh h0
  ·cases hh
  ·cases hh
  ·exact hh rfl
 have h1:(B7 C 0 now (C.op 0).seq).1=true:=by
  unfold B7
  rw [hu]
  dsimp only
  rw [if_neg hno]
  (repeat' split)<;>rfl
 refine⟨h1,?_⟩
 unfold B7
 rw [hu]
 dsimp only
 rw [if_neg hno,ho]
 split
 ·exact⟨_,rfl,rfl,by show now+3≤_;omega⟩
 split
 ·split
  ·exact⟨_,rfl,rfl,by show now+1+_%9≤_;omega⟩
  ·exact⟨_,rfl,rfl,by show now+1+_%9≤_;omega⟩
 ·exact⟨_,rfl,rfl,by show now+1≤_;omega⟩
structure Mid (C C':Core):Prop where
 hart:C'.hart=C.hart
 mem:C'.mem=C.mem
 commits:C'.commits=C.commits
 wide:C'.wide=C.wide
 cycles:C'.cycles=C.cycles
 taken:C.taken≤C'.taken
 backs:C.backs≤C'.backs
theorem Mid.refl (C:Core):Mid C C:=⟨rfl,rfl,rfl,rfl,rfl,Int.le_refl _,Int.le_refl _⟩
theorem Mid.trans {A B C:Core} (h:Mid A B) (k:Mid B C):Mid A C:=
 ⟨k.hart.trans h.hart,k.mem.trans h.mem,k.commits.trans h.commits,k.wide.trans h.wide,k.cycles.trans h.cycles,Int.le_trans h.taken k.taken,Int.le_trans h.backs k.backs⟩
structure Good (C:Core):Prop where
 inv:Inv C
 still:Fy C
def Adu (T:Int) (C:Core):Prop:=∀ u∈C.ops,u.state=1→u.ready≤T
structure Part (C C':Core) (T:Int) (L:List Uop):Prop where
 good:Good C'
 mid:Mid C C'
 soon:Adu T C→Adu T C'
 ops:∃ R',C'.ops=L++R'
theorem Part.refl {C:Core} (h:Good C) (T:Int) {L R:List Uop} (ho:C.ops=L++R):Part C C T L:=⟨h,Mid.refl C,id,R,ho⟩
theorem Ga (now T:Int):∀ (n:Nat) (C:Core) (L R:List Uop),Good C→C.ops=L++R→Part C (finishAll n L.length now C) T L
 |0,C,L,R,h,ho=>Part.refl h T ho
 |n+1,C,L,[],h,ho=>by
  show Part C (if L.length<C.ops.length then _ else C) T L
  rw [if_neg (by rw [ho];simp)]
  exact Part.refl h T ho
 |n+1,C,L,u::R,h,ho=>by
  show Part C (if L.length<C.ops.length then finishAll n (L.length+1) now (if (C.op L.length).state=1∧(C.op L.length).ready≤now then B3 C L.length else C) else C) T L
  rw [if_pos (by rw [ho];simp)]
  have hu:C.op L.length=u:=Core.op_at ho
  rw [hu]
  have hlen:L.length+1=(L++[u]).length:=by simp
  split
  ·rename_i hc
   have K:=Oh h.inv ho hc.1
   obtain⟨u',X,Y,hR,hops,hst,_⟩:=K.ops
   have hlen':L.length+1=(L++[u']).length:=by simp
   have hgood:Good (B3 C L.length):=⟨K.inv,M6 h.inv h.still ho hc.1⟩
   have P:=Ga now T n (B3 C L.length) (L++[u']) X hgood (by rw [hops];simp)
   rw [hlen']
   refine⟨P.good,Mid.trans ⟨K.hart,K.mem,K.commits,K.cfg.1,K.cycles,by rw [K.taken];exact Int.le_refl _,K.backs.1⟩ P.mid,fun hs=>P.soon fun v hv hv1=>?_,?_⟩
   ·rw [hops] at hv
    rcases List.mem_append.1 hv with hv | hv
    ·exact hs v (by rw [ho];simp [hv]) hv1
    ·rcases List.mem_cons.1 hv with rfl | hv
     ·omega
     ·exact hs v (by rw [ho,hR];simp [hv]) hv1
   ·obtain⟨R',e⟩:=P.ops
    exact⟨u'::R',by rw [e];simp⟩
  ·have P:=Ga now T n C (L++[u]) R h (by rw [ho];simp)
   rw [hlen]
   refine⟨P.good,P.mid,P.soon,?_⟩
   obtain⟨R',e⟩:=P.ops
   exact⟨u::R',by rw [e];simp⟩
theorem Zc (now T:Int) (n:Nat) {C:Core} {u:Uop} {R:List Uop} (h:Good C) (ho:C.ops=u::R) :
  ∃ u' R',(finishAll (n+1) 0 now C).ops=u'::R'∧(u'.state=2∨(u'=u∧¬ (u.state=1∧u.ready≤now))):=by
 show ∃ u' R',(if 0<C.ops.length then finishAll n 1 now (if (C.op 0).state=1∧(C.op 0).ready≤now then B3 C 0 else C) else C).ops=u'::R'∧_
 rw [if_pos (by rw [ho];simp)]
 have hu:C.op 0=u:=Core.op_at (L:=[]) ho
 rw [hu]
 split
 ·rename_i hc
  have K:=Oh h.inv (L:=[]) ho hc.1
  obtain⟨u',X,Y,hR,hops,hst,_⟩:=K.ops
  have hgood:Good (B3 C 0):=⟨K.inv,M6 h.inv h.still (L:=[]) ho hc.1⟩
  obtain⟨R',e⟩:=(Ga now T n (B3 C 0) [u'] X hgood (by rw [show B3 C 0=B3 C [].length from rfl,hops];rfl)).ops
  exact⟨u',R',e,Or.inl hst⟩
 ·rename_i hc
  obtain⟨R',e⟩:=(Ga now T n C [u] R h (by rw [ho];rfl)).ops
  exact⟨u,R',e,Or.inr ⟨rfl,hc⟩⟩
theorem Zd (now:Int) (n k:Nat) {C:Core} (ho:C.ops=[]):finishAll n k now C=C:=by
 cases n with
 |zero=>rfl
 |succ n=>
  show(if k<C.ops.length then _ else C)=C
  rw [if_neg (by rw [ho];simp)]
theorem O2 {C:Core} (h:Good C) {L R:List Uop} {u:Uop} (ho:C.ops=L++u::R) (now:Int):Good (B7 C L.length now (C.op 0).seq).2:=
 ⟨Ad3 h.inv ho now,Yq h.still ho now _⟩
theorem Ad4 (C:Core) (k:Nat) (now head:Int):Mid C (B7 C k now head).2:=by
 obtain⟨hs,_⟩:=Ke C k now head
 rw [hs]
 exact⟨rfl,rfl,rfl,rfl,rfl,Int.le_refl _,Int.le_refl _⟩
theorem Lo (now:Int):∀ (n:Nat) (some_:Int) (C:Core) (L R:List Uop),Good C→C.ops=L++R→Part C (beginAll n L.length some_ now C) (now+9) L
 |0,_,C,L,R,h,ho=>Part.refl h _ ho
 |n+1,some_,C,L,[],h,ho=>by
  show Part C (if L.length<C.ops.length∧some_<C.wide then _ else C) _ L
  rw [if_neg (by rw [ho];simp)]
  exact Part.refl h _ ho
 |n+1,some_,C,L,u::R,h,ho=>by
  show Part C (if L.length<C.ops.length∧some_<C.wide then beginAll n (L.length+1) (if (B7 C L.length now (C.op 0).seq).1=true then some_+1 else some_) now (B7 C L.length now (C.op 0).seq).2 else C) _ L
  split
  ·have hu:C.op L.length=u:=Core.op_at ho
   obtain⟨_,hops⟩:=Ke C L.length now (C.op 0).seq
   have hg:=O2 h ho now
   have hm:=Ad4 C L.length now (C.op 0).seq
   generalize (B7 C L.length now (C.op 0).seq).1=b
   generalize hC':(B7 C L.length now (C.op 0).seq).2=C' at hops hg hm ⊢
   obtain⟨u',e,hst⟩:∃ u',C'.ops=L++u'::R∧(u'=u∨(u'.state=1∧u'.ready≤now+9)):=by
    rcases hops with e | ⟨_,r,g,hr,e⟩
    ·exact⟨u,by rw [e,ho],Or.inl rfl⟩
    ·exact⟨_,by rw [e,ho,Ge],Or.inr ⟨rfl,hr⟩⟩
   have hlen:L.length+1=(L++[u']).length:=by simp
   have P:=Lo now n (if b=true then some_+1 else some_) C' (L++[u']) R hg (by rw [e];simp)
   rw [hlen]
   refine⟨P.good,hm.trans P.mid,fun hs=>P.soon fun v hv hv1=>?_,?_⟩
   ·rw [e] at hv
    rcases List.mem_append.1 hv with hv | hv
    ·exact hs v (by rw [ho];simp [hv]) hv1
    ·rcases List.mem_cons.1 hv with rfl | hv
     ·rcases hst with rfl | hst
      ·exact hs _ (by rw [ho];simp) hv1
      ·exact hst.2
     ·exact hs v (by rw [ho];simp [hv]) hv1
   ·obtain⟨R',e⟩:=P.ops
    exact⟨u'::R',by rw [e];simp⟩
  ·exact Part.refl h _ ho
theorem Sg (now:Int) (n:Nat) {C:Core} {u:Uop} {R:List Uop} (h:Good C) (ho:C.ops=u::R) :
  ∃ u' R',(beginAll (n+1) 0 0 now C).ops=u'::R'∧(if u.state=0 then u'.state=1∧u'.ready≤now+9 else u'=u):=by
 show ∃ u' R',(if 0<C.ops.length∧0<C.wide then beginAll n 1 (if (B7 C 0 now (C.op 0).seq).1=true then 0+1 else 0) now (B7 C 0 now (C.op 0).seq).2 else C).ops=u'::R'∧_
 rw [if_pos ⟨by rw [ho];simp,by have:=h.inv.cfg.2.1;omega⟩]
 have hu:C.op 0=u:=Core.op_at (L:=[]) ho
 have hg:=O2 h (L:=[]) ho now
 have hg:Good (B7 C 0 now (C.op 0).seq).2:=hg
 obtain⟨u',e,hst⟩:∃ u',(B7 C 0 now (C.op 0).seq).2.ops=u'::R∧(if u.state=0 then u'.state=1∧u'.ready≤now+9 else u'=u):=by
  by_cases h0:u.state=0
  ·obtain⟨_,u',e,h1,h2⟩:=Aa5 h.inv ho h0 now
   exact⟨u',e,by rw [if_pos h0];exact⟨h1,h2⟩⟩
  ·refine⟨u,?_,by rw [if_neg h0]⟩
   rcases(Ke C 0 now (C.op 0).seq).ops with e | ⟨e0,_⟩
   ·rw [e,ho]
   ·rw [hu] at e0
    exact absurd e0 h0
 obtain⟨R',e'⟩:=(Lo now n (if (B7 C 0 now (C.op 0).seq).1=true then 0+1 else 0) _ [u'] R hg (by rw [e];rfl)).ops
 exact⟨u',R',e',hst⟩
theorem Aa7 (now:Int) (n k:Nat) (s:Int) {C:Core} (ho:C.ops=[]):beginAll n k s now C=C:=by
 cases n with
 |zero=>rfl
 |succ n=>
  show(if k<C.ops.length∧s<C.wide then _ else C)=C
  rw [if_neg (by rw [ho];simp)]
theorem Jw {C:Core} (h:Good C) (T:Int):Part C (Bt C).2 T C.ops:=by
 have hg:Good (Bt C).2:=⟨Aeu h.inv,Y9 h.inv h.still⟩
 rcases Nt h.inv with⟨e,_⟩ | ⟨_,hfr,hw,⟨h0,hin,e⟩ | ⟨i,hf,his,e⟩⟩
 ·rw [e];exact Part.refl h T (R:=[]) (by simp)
 ·rw [e] at hg ⊢
  refine⟨hg,⟨rfl,rfl,rfl,rfl,rfl,by show C.taken≤C.taken+1;omega,Int.le_refl _⟩,fun hs v hv h1=>?_,[_],rfl⟩
  rcases List.mem_append.1 hv with hv | hv
  ·exact hs v hv h1
  ·rw [List.mem_singleton.1 hv] at h1
   have h1:(2:Int)=1:=h1
   cases h1
 ·rw [e] at hg ⊢
  refine⟨hg,⟨rfl,rfl,rfl,rfl,rfl,by show C.taken≤C.taken+1;omega,Int.le_refl _⟩,fun hs v hv h1=>?_,[_],rfl⟩
  rcases List.mem_append.1 hv with hv | hv
  ·exact hs v hv h1
  ·rw [List.mem_singleton.1 hv] at h1
   have h1:(0:Int)=1:=h1
   cases h1
theorem Kt (T:Int):∀ (n:Nat) (C:Core),Good C→Part C (fetchAll n C) T C.ops
 |0,C,h=>Part.refl h T (R:=[]) (by simp)
 |n+1,C,h=>by
  have P:=Jw h T
  show Part C (if (Bt C).1=true then fetchAll n (Bt C).2 else (Bt C).2) T C.ops
  split
  ·have Q:=Kt T n (Bt C).2 P.good
   obtain⟨R1,e1⟩:=P.ops
   obtain⟨R2,e2⟩:=Q.ops
   exact⟨Q.good,P.mid.trans Q.mid,fun hs=>Q.soon (P.soon hs),R1++R2,by rw [e2,e1];simp⟩
  ·exact P
theorem Y7 {C:Core} (h:Good C) (ho:C.ops=[]):∃ u,(Bt C).2.ops=[u]∧(u.state=0∨u.state=2):=by
 rcases Nt h.inv with⟨_,hc⟩ | ⟨_,hfr,hw,⟨h0,hin,e⟩ | ⟨i,hf,his,e⟩⟩
 ·exfalso
  rcases hc with hc | hc | hc
  ·obtain⟨L,u,e,_⟩:=h.still hc
   rw [ho] at e
   cases L<;>cases e
  ·obtain⟨N,hgN,hlN,hcN,_⟩:=h.inv.names
   rw [ho] at hcN
   have hcN:N=C.names:=hcN
   have hp:=hgN.phys
   have hl:=hgN.len
   unfold Ax.all at hlN
   rw [List.length_append,hl,hcN,hc] at hlN
   rw [hcN] at hp
   simp at hlN
   omega
  ·have:=h.inv.cfg.1.1
   rw [ho] at hc
   simp at hc
   omega
 ·rw [e]
  exact⟨_,by show C.ops++[_]=_;rw [ho];rfl,Or.inr rfl⟩
 ·rw [e]
  exact⟨_,by show C.ops++[_]=_;rw [ho];rfl,Or.inl rfl⟩
theorem Tk (n:Nat) {C:Core} (h:Good C) (ho:C.ops=[]):∃ u R,(fetchAll (n+1) C).ops=u::R∧(u.state=0∨u.state=2):=by
 obtain⟨u,e,hst⟩:=Y7 h ho
 show ∃ u R,(if (Bt C).1=true then fetchAll n (Bt C).2 else (Bt C).2).ops=u::R∧_
 split
 ·obtain⟨R,e2⟩:=(Kt 0 n (Bt C).2 (Jw h 0).good).ops
  rw [e] at e2
  exact⟨u,R,e2,hst⟩
 ·exact⟨u,[],e,hst⟩
end Go.Proofs.YtapgojgcmlnbgaaGreatDoor
