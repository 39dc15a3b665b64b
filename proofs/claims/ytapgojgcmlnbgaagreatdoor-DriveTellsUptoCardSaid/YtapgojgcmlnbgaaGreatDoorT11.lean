/- Parts of a proof. -/
import Derived.Test.YtapgojgcmlnbgaaGreatDoorTZ
import Derived.Test.YtapgojgcmlnbgaaGreatDoorT10
import Derived.Test.YtapgojgcmlnbgaaGreatDoorT09
import Derived.Test.YtapgojgcmlnbgaaGreatDoorT00
import Derived.Laws.AppendOwn
import Derived.Test.YtapgojgcmlnbgaaGreatDoorT05
import Derived.Test.YtapgojgcmlnbgaaGreatDoorT02
import Derived.Test.YtapgojgcmlnbgaaGreatDoorT04
set_option linter.unusedSimpArgs false
set_option linter.unusedVariables false
set_option maxRecDepth 100000
set_option maxHeartbeats 16000000
namespace Go.Proofs.YtapgojgcmlnbgaaGreatDoor
open Go Go.RowKit
theorem Af3 {C:Core} (h:Inv (own C)) (hs:F4 C) {R:List Uop} {u:Uop} (ho:C.ops=u::R) (h2:u.state=2) (h0:(Bn C).hart.state=0):Inv (own (Bn C))∧F4 (Bn C):=by
 obtain⟨hr,hops,hsl⟩:=Uu h ho h2
 have hO:=h.ops [] u R ho
 have hgo:(Bn C).hart=goH C.hart C.mem:=by
  have:=hr.run
  rw [Gr (show C.hart.state=0 from h.runs)] at this
  have:=congrArg Prod.fst this
  exact this.symm
 have hi1:Inv (own (Bn C)):=by
  have:=Aax h (u:=u) (R:=R) ho h2 (by show(goH C.hart C.mem).state=0;rw [←hgo];exact h0)
  rw [En (C:=own C) (u:=u) (R:=R) ho] at this
  rw [En ho]
  exact this
 have hstop:Cv u=false:=by
  have hcs:u.commit.state=0:=by
   have:(Bn C).hart=Cw u.commit C.hart:=by rw [En ho]
   rw [this] at h0
   exact h0
  unfold Cv
  rw [hcs]
  rcases Decidable.em (u.cause=0) with hc | hc
  ·rw [hc];simp
  ·have:=(hO.fault hc).2.1
   rw [this] at hcs
   cases hcs
 exact⟨hi1,Uv hs ho hstop⟩
structure Left (X Y:Core) (m:Nat) (sq:List Int) (N:Int):Prop where
 inv:Inv (own X)
 still:F4 X
 goes:goneP m X=Y
 seqs:(X.ops.take m).map (·.seq)=sq
 done:∀ u∈X.ops.take m,u.state=2
 many:m≤X.ops.length
 coms:(X.commits.length:Int)+m≤N
theorem Left.head {X Y:Core} {m:Nat} {sq:List Int} {N:Int} (h:Left X Y (m+1) sq N):∃ u R,X.ops=u::R∧u.state=2∧sq=u.seq::(R.take m).map (·.seq):=by
 have hm:=h.many
 cases ho:X.ops with
 |nil=>rw [ho] at hm;simp at hm
 |cons u R=>
  refine⟨u,R,rfl,h.done u (by rw [ho];simp),?_⟩
  rw [←h.seqs,ho]
  rfl
theorem Left.stop {X Y:Core} {m:Nat} {sq:List Int} {N:Int} (h:Left X Y (m+1) sq N) (hs:(Bn X).hart.state≠0):Y=Bn X:=by
 rw [←h.goes]
 unfold goneP
 rw [if_pos hs]
theorem Left.next {X Y:Core} {m:Nat} {sq:List Int} {N:Int} (h:Left X Y (m+1) sq N) (hs:(Bn X).hart.state=0):Left (Bn X) Y m sq.tail N:=by
 obtain⟨u,R,ho,h2,hsq⟩:=h.head
 obtain⟨h3,h4⟩:=Af3 h.inv h.still ho h2 hs
 obtain⟨hr,hops,_⟩:=Uu h.inv ho h2
 have hc:(Bn X).commits.length=X.commits.length+1:=by rw [En ho];simp
 refine⟨h3,h4,?_,by rw [hops,hsq];rfl,fun v hv=>h.done v (by rw [ho];rw [hops] at hv;simp [hv]),?_,by have:=h.coms;omega⟩
 ·rw [←h.goes]
  conv=>rhs;unfold goneP
  rw [if_neg (fun hh=>hh hs)]
 ·have:=h.many
  rw [hops]
  rw [ho] at this
  simpa using this
theorem Wj {X X1 X2:Core} {u:Uop} {R:List Uop} {acc':List Acc} (ho:X.ops=u::R)
  (h1:X1=({ X with ops:=R,hart:=Cw u.commit X.hart,mem:=C4 u.commit X.mem,commits:=X.commits++[u.commit],names:=if 0<u.dest then O5 X.names u.old else X.names }:Core))
  (h2:X2=K7 X1 u) (ha:X2.access.filter (fun a=>!decide (a.seq=u.seq))=acc'):Bn X={ X2 with access:=acc',still:=if Ba u.ins=true then false else X2.still }:=by
 have hop:X.op 0=u:=by unfold Core.op;rw [ho];rfl
 subst h1 h2 ha
 unfold Bn
 dsimp only
 rw [hop,ho]
 rfl
section
variable {B:Nat} {w w':World} {g p:Nat} {C:Core} {L:Lay} {ps:List Nat} {cs:Array Value}
theorem C9.tail {u:Uop} {R:List Uop} {q:Nat} (h:C9 w B (u::R) (q::ps)):C9 w B R ps:=
 ⟨by have:=h.len;simpa using this,fun i v r hv hr=>h.at_ (i+1) v r (by simpa using hv) (by simpa using hr),(List.nodup_cons.1 h.nodup).2⟩
theorem Af.popped (h:Af B w g C L (p::ps) cs) {u:Uop} {R:List Uop} (ho:C.ops=u::R) {v':Value} (hr:B8 w B v' ps) (hv:v'.ownBlock=L.ops.ownBlock) :
  Af B (w.setCell ⟨g,335,none⟩ v') g { C with ops:=R } { L with ops:=v' } ps (cs.setIfInBounds 335 v'):=by
 have hu:=h.rows.uops
 rw [ho] at hu
 have hr2:=h.rows.ptr h.low (World.grownBy.refl w _) hr hu.tail (Or.inl hv) (fun q hq=>Or.inl (qP _ hq))
 exact⟨by simpa using h.low,h.blk.set 335 v',h.cells.set_ops v' R,hr2.core h.low h.blk (grownBy_setCell w ⟨g,335,none⟩ v')⟩
theorem Ra {go oo cap n:Nat} {q:Nat} (h:B8 w B (.slice (some ⟨go,oo,none⟩) n cap) (q::ps)) :
  n=ps.length+1∧n≤cap∧cap≤9223372036854775807∧(cap=1→B8 w B (.slice (some ⟨go,oo,none⟩) 0 0) ps)∧(cap≠1→B8 w B (.slice (some ⟨go,oo+1,none⟩) ps.length (cap - 1)) ps):=by
 rcases h with⟨e,_⟩ | ⟨go',oo',cap',cur,e,hb,hB,h1,h2,h3,h4⟩
 ·cases e
 ·injection e with e1 e2 e3
  injection e1 with e1
  injection e1 with e1 e4
  subst e1 e3 e4
  simp only [List.length_cons] at e2 h1
  refine⟨e2,by omega,h2,fun hc=>?_,fun hc=>?_⟩
  ·have:ps=[]:=qN (by omega)
   subst this
   exact Or.inr ⟨go,oo,0,cur,rfl,hb,hB,qC _,by omega,by omega,fun i r hi=>by cases hi⟩
  ·refine Or.inr ⟨go,oo+1,cap - 1,cur,rfl,hb,hB,by omega,by omega,by omega,fun i r hi=>?_⟩
   have:=h4 (i+1) r (by simpa using hi)
   rwa [show oo+(i+1)=oo+1+i by omega] at this
theorem Aij {v:Value} {q:Nat} (h:B8 w B v (q::ps)):∃ go oo n cap,v = .slice (some ⟨go,oo,none⟩) n cap:=by
 rcases h with⟨_,e⟩ | ⟨go,oo,cap,cur,rfl,_⟩
 ·cases e
 ·exact⟨go,oo,_,cap,rfl⟩
theorem Aca (h:Ak cs C L) (hl:C.hart.regs.length=32) {c:Com} (h0:0≤c.rd) (h1:c.rd≤31):Ak (Ou cs 4 c) { C with hart:=Cw c C.hart } L:=by
 refine h.part_hart (Cw c C.hart) (by rw [Aew,h.size]) (fun i hi=>?_) (fun j hj=>?_)
 ·rw [←W5 C.hart c hl h0 h1]
  have hz:C.hart.cells.size=35:=Aq.cells_size hl
  obtain⟨n,hn⟩:=qH h0
  unfold Ou
  dsimp only
  have key:∀ (a b:Array Value) (k:Nat) (v:Value),a.size=340→b.size=35→k<35→(∀ i,i<35→a[4+i]? = b[i]?)→∀ i,i<35→(a.setIfInBounds (4+k) v)[4+i]? = (b.setIfInBounds (0+k) v)[i]? := fun a b k v ha hb hk hab i hi=>by
   rw [Array.getElem?_setIfInBounds,Array.getElem?_setIfInBounds]
   by_cases e:k=i
   ·subst e
    rw [if_pos rfl,if_pos (by omega),if_pos (by omega),if_pos (by omega)]
   ·rw [if_neg (by omega),if_neg (by omega)]
    exact hab i hi
  have k1:=key cs C.hart.cells 32 (.int .u32 c.next) h.size hz (by omega) h.hart
  have k2:=key _ _ 33 (.int .i64 c.state) (by simp [h.size]) (by simp [hz]) (by omega) k1
  have k3:=key _ _ 34 (.int .i64 c.cause) (by simp [h.size]) (by simp [hz]) (by omega) k2
  split
  ·rw [hn,Int.toNat_natCast]
   exact key _ _ n (.int .u32 c.value) (by simp [h.size]) (by simp [hz]) (by omega) k3 i hi
  ·exact k3 i hi
 ·obtain⟨n,hn⟩:=qH h0
  unfold Ou
  dsimp only
  rw [hn,Int.toNat_natCast]
  have key:∀ (a:Array Value) (k:Nat) (v:Value),k<35→(a.setIfInBounds (4+k) v)[j]? = a[j]? := fun a k v hk=>by
   rw [Array.getElem?_setIfInBounds,if_neg (by omega)]
  split
  ·rw [key _ n _ (by omega),key _ 34 _ (by omega),key _ 33 _ (by omega),key _ 32 _ (by omega)]
  ·rw [key _ 34 _ (by omega),key _ 33 _ (by omega),key _ 32 _ (by omega)]
theorem Af.applied (h:Af B w g C L ps cs) (hl:C.hart.regs.length=32) {c:Com} (h0:0≤c.rd) (h1:c.rd≤31) {w1:World} (hg1:w.grownBy w1 (some g)) (hB:Blk w1 g 86 (Ou cs 4 c))
  (hown:w'.ownsRow B 5 1 L.mem C.mem.length ((C4 c C.mem).map (.int .u8))) (hlen:(C4 c C.mem).length=C.mem.length) (hg2:w1.grownBy w' L.mem.ownBlock) :
  Af B w' g { C with hart:=Cw c C.hart,mem:=C4 c C.mem } L ps (Ou cs 4 c):=by
 have hr1:=h.rows.core h.low h.blk hg1
 have hlow1:=qD h.low hg1.size
 have hr2:=hr1.memory hlow1 hg2 (m':=C4 c C.mem) (by rw [hlen];exact hown)
 have hne:some g≠L.mem.ownBlock:=E7 h.blk h.rows.mem (by decide)
 have hc:=Aca h.cells hl h0 h1
 exact⟨qD hlow1 hg2.size,hB.grown hg2 hne,⟨hc.size,hc.window,hc.phys,hc.wide,hc.commits,hc.mem,hc.cycles,hc.taken,hc.backs,hc.script,hc.slots,hc.ops,hc.access,hc.seq,hc.pc,hc.still,hc.hart,hc.tab,hc.names,hc.words,hc.there⟩,hr2⟩
theorem Af.setcoms (h:Af B w g C L ps cs) (hg:w.grownBy w' L.commits.ownBlock) {v':Value} {coms':List Com} (hown:w'.ownsRow B 65 11 v' coms'.length (Ec coms'))
  (hv:v'.ownBlock=L.commits.ownBlock∨∀ k,v'.ownBlock=some k→w.heap.size≤k) :
  (Af B (w'.setCell ⟨g,3,none⟩ v') g { C with commits:=coms' } { L with commits:=v' } ps (cs.setIfInBounds 3 v')∧Ah B w (w'.setCell ⟨g,3,none⟩ v'))∧w'.cell? ⟨g,3,none⟩=some L.commits∧w'.frozen? ⟨g,3,none⟩=false∧g<w'.heap.size:=by
 have hb:Blk w' g 86 cs:=h.blk.grown hg (by
  rcases Br h.rows.commits h.blk (by decide) with e | e
  ·rw [e];simp
  ·exact fun e'=>e e'.symm)
 have hr:=h.rows.coms h.low hg hown hv
 have ht:Ah B w w':=Ah.grown hg fun k hk=>by
  rcases h.rows.commits.2 with⟨e,_⟩ | ⟨go,c,cur,e,hl,hh,_⟩
  ·rw [e] at hk;cases hk
  ·rw [e] at hk
   cases hk
   exact⟨hl,_,_,_,hh,rfl⟩
 have hg2:=grownBy_setCell w' ⟨g,3,none⟩ v'
 exact⟨⟨⟨qD h.low (qD hg.size hg2.size),hb.set 3 v',h.cells.set_commits v' coms',hr.core (qD h.low hg.size) hb hg2⟩,
  ht.trans (Ah.grown hg2 fun k hk=>by cases hk;exact⟨h.rows.base,_,_,_,hb,rfl⟩)⟩,(hb.cell 3).trans h.cells.commits,hb.frozen 3,hb.lt⟩
structure Kh (w:World) (p bs:Nat) (u:Uop) (base:Nat) (AI:Option Addr) (n cI:Nat) (sq:List Int):Prop where
 head:Blk w p 107 u.cells
 box:Blk w bs 3 #[.int .i64 u.seq]
 gone:w.ownsRow base 3 1 (.slice AI n cI) n (sq.map (.int .i64))
section
variable {bs base n cI:Nat} {u:Uop} {AI:Option Addr} {sq:List Int}
theorem Kh.step (h:Kh w p bs u base AI n cI sq) {row:Option Nat} (hg:w.grownBy w' row) (hr:∀ k,row=some k→∃ t cs,Blk w k t cs∧t≠107∧t≠3):Kh w' p bs u base AI n cI sq:=by
 refine⟨h.head.grown hg (fun e=>?_),h.box.grown hg (fun e=>?_),h.gone.kept hg ?_⟩
 ·obtain⟨t,cs,hk,h1,_⟩:=hr p e.symm
  exact Bm h.head hk (fun e=>h1 e.symm) rfl
 ·obtain⟨t,cs,hk,_,h1⟩:=hr bs e.symm
  exact Bm h.box hk (fun e=>h1 e.symm) rfl
 ·rcases row with _ | k
  ·exact Classical.em _
  ·obtain⟨t,cs,hk,_,h1⟩:=hr k rfl
   exact Br h.gone hk (fun e=>h1 e.symm)
theorem Kh.ext (h:Kh w p bs u base AI n cI sq) (hb:Below w.heap.size w w'):Kh w' p bs u base AI n cI sq:=h.step (Cg hb) (fun k hk=>by cases hk)
theorem Kh.own (h:Kh w p bs u base AI n cI sq) {v:Value} {e:TypeId} {size m:Nat} {xs:List Value} (ho:w.ownsRow B e size v m xs) (hg:w.grownBy w' v.ownBlock) (h1:e≠107) (h2:e≠3):Kh w' p bs u base AI n cI sq:=
 h.step hg fun k hk=>by
  rcases ho.2 with⟨e',_⟩ | ⟨go,c,cur,e',_,hh,_⟩
  ·rw [e'] at hk;cases hk
  ·rw [e'] at hk
   cases hk
   exact⟨_,_,hh,h1,h2⟩
theorem Kh.core (h:Kh w p bs u base AI n cI sq) (hk:Blk w g 86 cs) (hg:w.grownBy w' (some g)):Kh w' p bs u base AI n cI sq:=
 h.step hg fun k e=>by cases e;exact⟨_,_,hk,by decide,by decide⟩
end
end
theorem Yk {P:Program} (w:World) (base:Nat) (t ty e:TypeId) (i:TypeInfo) (z:Value) (size bytes:Nat) (ht:P.underlying t=some (.slice e)) (hi:P.info? e=some i) (hz:i.zero=some z)
  (hsize:i.size=size) (hby:i.bytes=bytes) (hzs:z.cells.size=size) (hsz:0<size)
  (v:Value) (n:Nat) (xs:List Value) (hown:w.ownsRow base e size v n xs)
  (a:Addr) (m c:Nat) (news:List Value) (hl:news.length=m*size) (hnews:∀ j u,news[j]? = some u→w.cell? (a.add j)=some u) (h1:∀ u∈news,u.oneCell'=true)
  (h63:n+m≤maxLen) (hbytes:(n+m)*bytes≤140737488355328) (v':Value) (w':World) (hr:(Builtin.append_ #[t,t] ty #[v, .slice (some a) m c]).run P w = .ok v' w') :
  v'.ownBlock=v.ownBlock∨∀ k,v'.ownBlock=some k→w.heap.size≤k:=by
 have hsmall:n+m≤9223372036854775807:=by simp only [maxLen] at h63;omega
 rcases hown.2 with⟨rfl,rfl⟩ | ⟨g,cap,cur,rfl,hbg,hg,hnc,hcm,hcs,htake⟩
 ·have hx:xs=[]:=qN (by simpa using hown.1)
  subst hx
  obtain⟨v2,w2,h2,h3,_⟩:=run_append_own (P:=P) w w.heap.size t ty e i z size bytes ht hi hz hsize hby hzs hsz _ 0 [] (qT _ _ _ _) a m c news hl hnews h1 h63 hbytes (qC _)
  rw [hr] at h2
  injection h2 with h2 h2'
  subst h2
  exact Or.inr fun k hk=>(h3.lt k hk).1
 ·subst hsize
  subst hby
  by_cases hroom:n+m≤cap
  ·have hfit:n*i.size+news.length≤cur.size:=by rw [hl,hcs,←Nat.add_mul];exact Nat.mul_le_mul_right _ hroom
   have h2:=run_append_room (P:=P) w t ty e i ht hi g n cap cur hg a m c news hl hnews h1 hroom hfit
   rw [hr] at h2
   injection h2 with h2 h2'
   subst h2
   exact Or.inl rfl
  ·have holds:∀ j u,xs[j]? = some u→w.cell? ((⟨g,0,none⟩:Addr).add j)=some u:=hown.cells (g:=g) rfl
   have h2:=run_append_grow (P:=P) w t ty e i z ht hi hz ⟨g,0,none⟩ n cap xs hown.1 holds a m c news hl hnews (by omega) (by omega) (growslice_fits (by omega) hbytes)
   rw [hr] at h2
   injection h2 with h2 h2'
   subst h2
   right
   intro k hk
   simp [Value.ownBlock] at hk
   omega
theorem T3 {P:Program} (w:World) (t ty e:TypeId) (i:TypeInfo) (ht:P.underlying t=some (.slice e)) (hi:P.info? e=some i) (hsz:i.size=1)
  (g oo sLen sCap:Nat) (cur:Array Value) (hg:w.heap[g]? = some (.cells cur e (0,0)))
  (a:Addr) (c:Nat) (x:Value) (hnews:w.cell? a=some x) (h1:x.oneCell'=true)
  (hroom:sLen+1≤sCap) (hfit:oo+sLen+1≤cur.size) :
  (Builtin.append_ #[t,t] ty #[.slice (some ⟨g,oo,none⟩) sLen sCap, .slice (some a) 1 c]).run P w =
   .ok (.slice (some ⟨g,oo,none⟩) (sLen+1) sCap) (w.setRow g (cur.toList.take (oo+sLen)++[x]++cur.toList.drop (oo+sLen+1)).toArray):=by
 have hn':∀ j u,[x][j]? = some u→w.cell? (a.add j)=some u:=fun j u hu=>by
  match j with
  |0=>cases hu;simpa [Addr.add] using hnews
  |j+1=>cases hu
 have hf:=run_firstCells_some (P:=P) w i.size 1 a 1 c [x] (by simp [hsz]) hn'
 have hst:=run_storeCells_at P g (oo+sLen) e [x] 0 cur w hg (by simpa using hfit) (fun u hu=>by simp at hu;rw [hu];exact h1)
 simp only [Nat.add_zero] at hst
 rw [hsz] at hf
 simp [Builtin.append_,run_underlying ht,sizeOf,typeInfo,hi,hsz,Builtin.lenOf,hroom,hf,Addr.add_lit,hst]
theorem Abh:(Tryz.prog.info? 105).map (fun i=>(i.zero,i.size,i.bytes))=some (some (Value.pointer none),1,8):=by kernel_rfl
theorem Vr {w:World} {B:Nat} {v:Value} {ps:List Nat} (h:B8 w B v ps) (hB:B≤w.heap.size) (hl:ps.length≤1000) (ad:Addr) (c:Nat) (p:Nat) (hx:w.cell? ad=some (.pointer (some ⟨p,0,none⟩))) (ty:TypeId) :
  ∃ v' w',(Builtin.append_ #[83,83] ty #[v, .slice (some ad) 1 c]).run Tryz.prog w = .ok v' w'∧B8 w' B v' (ps++[p])∧w.grownBy w' v.ownBlock∧(v'.ownBlock=v.ownBlock∨∀ k,v'.ownBlock=some k→w.heap.size≤k):=by
 obtain⟨i0,hi,hz0,hz1,hz2⟩:=info_parts Abh
 have hn':∀ j u,[(Value.pointer (some ⟨p,0,none⟩))][j]? = some u→w.cell? (ad.add j)=some u:=fun j u hu=>by
  match j with
  |0=>cases hu;rw [←hx];obtain⟨b,o,fr⟩:=ad;rfl
  |j+1=>cases hu
 have newrow:∀ (n cap:Nat) (xs:List Nat) (cur:Array Value),xs.length=n→n≤cap→cap≤maxLen→cur.size=cap→(∀ (i:Nat) (q:Nat),xs[i]? = some q→cur[i]? = some (Value.pointer (some ⟨q,0,none⟩))) →
   B8 (w.drew.alloc (.cells cur 105)) B (.slice (some ⟨w.heap.size,0,none⟩) n cap) xs∧w.grownBy (w.drew.alloc (.cells cur 105)) v.ownBlock∧((Value.slice (some ⟨w.heap.size,0,none⟩) n cap).ownBlock=v.ownBlock∨∀ k,(Value.slice (some ⟨w.heap.size,0,none⟩) n cap).ownBlock=some k→w.heap.size≤k):=by
  intro n cap xs cur e1 e2 e3 e4 e5
  subst e1
  have hb:Below w.heap.size w (w.drew.alloc (.cells cur 105)):=((qB _ _).drew).alloc (qC _) _
  refine⟨Or.inr ⟨w.heap.size,0,cap,cur,rfl,hB,?_,e2,by unfold maxLen at e3;omega,by omega,fun i q hq=>by rw [Nat.zero_add];exact e5 i q hq⟩,Bc hb _,Or.inr fun k hk=>?_⟩
  ·have:=Blk.new w.drew 105 cur
   exact this
  ·simp [Value.ownBlock] at hk
   omega
 rcases h with⟨rfl,rfl⟩ | ⟨go,oo,cap,cur,rfl,hb,hBk,h1,h2,h3,h4⟩
 ·have hr:=run_append_nil (P:=Tryz.prog) w 83 ty 105 i0 (.pointer none) Tryz.underlying83 hi hz0 ad 1 c [.pointer (some ⟨p,0,none⟩)] (by rw [hz1];rfl) hn' (by decide) (by decide) (by rw [hz2];decide)
  have hc:=grownCap_ge w 1 0 105
  have hcm:=grownCap_le_maxLen w 1 0 105 (by decide)
  refine⟨_,_,hr,newrow 1 _ [p] _ rfl hc hcm ?_ ?_⟩
  ·simp [Builtin.zeroCells,Value.cells]
   omega
  ·intro i q hq
   match i with
   |0=>cases hq;rw [Array.getElem?_append_left (by simp)];rfl
   |i+1=>cases hq
 ·have hsz:(Value.pointer none).cells.size=1:=rfl
  by_cases hroom:ps.length+1≤cap
  ·have hr:=T3 (P:=Tryz.prog) w 83 ty 105 i0 Tryz.underlying83 hi hz1 go oo ps.length cap cur hBk ad c _ hx rfl hroom (by omega)
   refine⟨_,_,hr,?_,Ge _ _ _,Or.inl rfl⟩
   refine Or.inr ⟨go,oo,cap,_,by rw [qO];rfl,hb,hBk.setRow _,by simpa using hroom,h2,?_,fun i q hq=>?_⟩
   ·simp
    omega
   ·rw [List.getElem?_toArray,List.append_assoc]
    by_cases hi:i<ps.length
    ·rw [qQ (by simp;omega),List.getElem?_take,if_pos (by omega)]
     rw [qQ hi] at hq
     simpa using h4 i q hq
    ·have hi2:i=ps.length:=by
      have:=(qJ.1 hq).1
      simp at this
      omega
     subst hi2
     rw [qR (by omega),Nat.sub_self] at hq
     cases hq
     rw [qR (by simp;omega),List.length_take,Nat.min_eq_left (by simp;omega),Nat.sub_self]
     rfl
  ·have hold:∀ j u,(ps.map fun q=>Value.pointer (some ⟨q,0,none⟩))[j]? = some u→w.cell? ((⟨go,oo,none⟩:Addr).add j)=some u:=fun j u hu=>by
    rw [List.getElem?_map] at hu
    obtain⟨q,hq,rfl⟩:=Option.map_eq_some_iff.1 hu
    rw [Addr.add_lit,hBk.cell]
    exact h4 j q hq
   have hr:=run_append_grow (P:=Tryz.prog) w 83 ty 105 i0 (.pointer none) Tryz.underlying83 hi hz0 ⟨go,oo,none⟩ ps.length cap _ (by rw [hz1];simp) hold ad 1 c [.pointer (some ⟨p,0,none⟩)] (by rw [hz1];rfl) hn' (by omega) (by omega) (growslice_fits (by omega) (by rw [hz2];omega))
   have hc:=grownCap_ge w (ps.length+1) cap 105
   have hcm:=grownCap_le_maxLen w (ps.length+1) cap 105 (by unfold maxLen;omega)
   refine⟨_,_,hr,newrow (ps.length+1) _ (ps++[p]) _ (by simp) hc hcm ?_ ?_⟩
   ·simp [Builtin.zeroCells,Value.cells]
    omega
   ·intro i q hq
    rw [Array.getElem?_append_left (by
     have:=(qJ.1 hq).1
     simp at this
     simp
     omega)]
    rw [List.append_toArray,List.getElem?_toArray]
    have e:(ps.map fun q=>Value.pointer (some ⟨q,0,none⟩))++[.pointer (some ⟨p,0,none⟩)]=(ps++[p]).map fun q=>Value.pointer (some ⟨q,0,none⟩):=by simp
    rw [e,List.getElem?_map,hq]
    rfl
theorem F7 {w:World} {ops:Array Oper} {rest:List Oper} {o:Oper} {a:Act} {Q:Exit→Act→World→Prop} (hgd:o.guard=none) (s x:Operand)
  (ho:o.op = .call { callee := .builtin .append,args:=#[s,x],argTypes:=#[83,83] })
  {B:Nat} {v:Value} {ps:List Nat} (hs:a.eval s=v) (h:B8 w B v ps) (hB:B≤w.heap.size) (hl:ps.length≤1000) (ad:Addr) (c:Nat) (p:Nat) (hx:a.eval x = .slice (some ad) 1 c) (hc:w.cell? ad=some (.pointer (some ⟨p,0,none⟩)))
  (hk:∀ v' w',B8 w' B v' (ps++[p])→w.grownBy w' v.ownBlock→(v'.ownBlock=v.ownBlock∨∀ k,v'.ownBlock=some k→w.heap.size≤k)→wpList Tryz.prog ops Q rest (a.put o.dst v') w'):wpList Tryz.prog ops Q (o::rest) a w:=
 wpList_plain hgd fun _ hK=>by
  obtain⟨v',w',hr,h2,h3,h4⟩:=Vr h hB hl ad c p hc o.type
  unfold Oper.wp execOp
  simp only [ho,resolve,invoke,builtin,Sem.run_bind,Sem.run_pure,Result.andThen_ok,List.map_toArray,List.map_cons,List.map_nil,hs,hx,hr]
  exact hK _ _ (hk v' w' h2 h3 h4)
theorem Abg:Tryz.prog.underlying 83=some (.slice (Tryz.prog.elem 83)):=by kernel_rfl
theorem Adh (w:World):(sizeOf (Tryz.prog.elem 83)).run Tryz.prog w = .ok 1 w:=by
 have h:Tryz.prog.elem 83=105:=by kernel_rfl
 obtain⟨i0,hi,hz0,hz1,hz2⟩:=info_parts Abh
 rw [h]
 simp [sizeOf,typeInfo,hi,hz1]
theorem Zg {w:World} {B go oo n cap q:Nat} {ps:List Nat} (h:B8 w B (.slice (some ⟨go,oo,none⟩) n cap) (q::ps)) :
  ∃ A m c,(Instr.sliceAt 83 (.slice (some ⟨go,oo,none⟩) n cap) (some (.int .i64 1)) none none).run Tryz.prog w = .ok (.slice A m c) w∧B8 w B (.slice A m c) ps∧(Value.slice A m c).ownBlock=some go:=by
 obtain⟨hn,hc,hcm,h1,h2⟩:=Ra h
 have hr:=run_slice_l (P:=Tryz.prog) w 83 (some ⟨go,oo,none⟩) n cap Abg .i64 1 (by decide) (by omega)
 rw [←run_sliceAt_slice (P:=Tryz.prog) w 83 _ _ _ _ Abg,Adh] at hr
 by_cases e:cap=1
 ·refine⟨some ⟨go,oo,none⟩,0,0,?_,h1 e,rfl⟩
  rw [hr]
  have:n=1:=by omega
  simp [Result.andThen,sliced,e,this]
 ·refine⟨some ⟨go,oo+1,none⟩,ps.length,cap - 1,?_,h2 e,rfl⟩
  rw [hr]
  have e':¬ cap=1:=e
  simp [Result.andThen,sliced,e',hn,Addr.add_lit]
theorem Tn {w:World} {ops:Array Oper} {rest:List Oper} {o:Oper} {a:Act} {Q:Exit→Act→World→Prop} (hgd:o.guard=none) (x:Operand)
  (ho:o.op = .slice 83 x (some (.const (.int .i64 1))) none none) {B go oo n cap q:Nat} {ps:List Nat} (hx:a.eval x = .slice (some ⟨go,oo,none⟩) n cap) (h:B8 w B (.slice (some ⟨go,oo,none⟩) n cap) (q::ps))
  (hk:∀ A m c,B8 w B (.slice A m c) ps→(Value.slice A m c).ownBlock=some go→wpList Tryz.prog ops Q rest (a.put o.dst (.slice A m c)) w):wpList Tryz.prog ops Q (o::rest) a w:=
 wpList_plain hgd fun _ hK=>by
  obtain⟨A,m,c,hr,h2,h3⟩:=Zg h
  have e1:a.eval (.const (.int .i64 1)) = .int .i64 1:=rfl
  unfold Oper.wp execOp
  simp only [ho,hx,Option.map_some,Option.map_none,e1,Sem.run_bind,Sem.run_pure,Result.andThen_ok,hr]
  exact hK _ _ (hk A m c h2 h3)
end Go.Proofs.YtapgojgcmlnbgaaGreatDoor
namespace Go.Proofs.YtapgojgcmlnbgaaGreatDoor
open Go.RowKit
theorem Ag5 (A:Option Addr) (cap:Nat) (l:List Acc) (seq:Int) (w:World) (hl:l.length≤maxLen) (hwf:∀ a∈l,a.Wf) (hA:Ee w w.heap.size A l) :
  Calls Tryz.prog 105 #[.slice A l.length cap, .int .i64 seq] w
   fun e w'=>e = .returned (.tuple #[.int .i64 (Ix l seq).1, .bool (Ix l seq).2])∧Below w.heap.size w w':=by
 unfold maxLen at hl
 generalize hx:Ix l seq=x
 have Hx:=qA hx
 clear hx
 go_enter Tryz.func105,Tryz.ntmps105
 go_wp2_with fail
 go_loopw [14] (fun v wr=>∃ k:Nat,v = .int .i64 k∧k≤l.length∧Below w.heap.size w wr∧Hid (If l seq (l.drop k)=x)) (fun v _=>l.length - (intOf v).toNat)
 case atStart=>exact⟨0,rfl,by omega,qB _ _,Hx⟩
 case round=>
  obtain⟨k,rfl,hk,hbr,HR⟩:=hrel
  by_cases hlt:k<l.length
  ·obtain⟨b,o,s,rfl,hbB,hs,hd,hmem,hcs⟩:=(hA.below hbr).at_ hlt
   obtain⟨c0,c1,c2,c3,c4,c5,c6⟩:=hcs
   have Hd:=qA hd
   have Hs:=qA hs
   clear hd hs
   obtain⟨sq,st,kn,sat,smn,sdt,sdn⟩:=s
   dsimp only at c0 c1 c2 c3 c4 c5 c6
   by_cases hst:I3 seq ⟨sq,st,kn,sat,smn,sdt,sdn⟩=true
   ·obtain⟨rfl,rfl,rfl⟩:st=true∧kn=true∧sq=seq:=by
     simp [I3] at hst
     simp [hst]
    have HX:Hid (l.foldl (Fg ⟨sq,true,true,sat,smn,sdt,sdn⟩) (0,false)=x):=by
     have h:=HR.out
     rw [Hd.out,If,if_pos hst] at h
     exact h
    have hz:=hbr.size
    have h3:(sq != sq)=false:=by simp
    clear hst HR Hd Hs
    go_wp2_with fail
    refine A1 ?_
    intro W1 hW1
    have hbs:Ox W1 wr.heap.size (Acc.cells ⟨sq,true,true,sat,smn,sdt,sdn⟩):=fun i=>by rw [hW1,World.cell?_alloc_new]
    have hbr1:Below w.heap.size w W1:=by rw [hW1];exact hbr.alloc hbr.size _
    have hz1:=qA (show W1.heap.size=wr.heap.size+1 by rw [hW1];simp)
    clear hW1
    generalize wr.heap.size=g at hbs hz hz1 ⊢
    go_loopw [8,9,34] (fun v8 v9 v34 w2=>∃ (j:Nat) (y:Int×Bool),v8 = .int .i64 y.1∧v9 = .bool y.2∧v34 = .int .i64 j∧j≤l.length∧Below (g+1) W1 w2∧Hid ((l.drop j).foldl (Fg ⟨sq,true,true,sat,smn,sdt,sdn⟩) y=x)) (fun _ _ v _=>l.length - (intOf v).toNat)
    case atStart=>exact⟨0,(0,false),rfl,rfl,rfl,by omega,qB _ _,HX⟩
    case round=>
     obtain⟨j,⟨y1,y2⟩,rfl,rfl,rfl,hj,hb2,HR⟩:=hrel
     dsimp only
     have hbr2:=hbr1.trans (hb2.mono (by omega))
     by_cases hjlt:j<l.length
     ·obtain⟨b',o',a,hA',hbB',ha,hda,hmem',hcs'⟩:=((hA.below hbr1).below (hb2.mono (by omega))).at_ hjlt
      obtain⟨rfl,rfl⟩:b=b'∧o=o':=by simpa using hA'
      obtain⟨d0,d1,d2,d3,d4,d5,d6⟩:=hcs'
      have hbs2:=hbs.below hb2 (by omega)
      unfold Ox at hbs2
      have hgl:g<wr.heap.size:=by have:=hb2.size;have:=hz1.out;omega
      have hwa:=hwf a hmem'
      have hws:=hwf _ hmem
      have HR':Hid ((l.drop (j+1)).foldl (Fg ⟨sq,true,true,sat,smn,sdt,sdn⟩) (Fg ⟨sq,true,true,sat,smn,sdt,sdn⟩ (y1,y2) a)=x):=by
       have h:=HR.out
       rw [hda,List.foldl_cons] at h
       exact h
      clear hda ha hA' HR
      obtain⟨aq,ast,akn,aat,amn,adt,adn⟩:=a
      dsimp only at d0 d1 d2 d3 d4 d5 d6
      rcases ast with _ | _
      ·rcases akn with _ | _
       ·go_wp2_with fail
        go_roundw
        case rel=>exact⟨j+1,(y1,y2),rfl,rfl,by go_num,by omega,hb2.alloc (by omega) _,HR'⟩
        case measure=>simp [intOf];omega
       ·rcases adn with _ | _
        ·go_wp2_with fail
         go_roundw
         case rel=>exact⟨j+1,(y1,y2),rfl,rfl,by go_num,by omega,hb2.alloc (by omega) _,HR'⟩
         case measure=>simp [intOf];omega
        ·by_cases hsa:sq<aq
         ·have hbn:=hb2.alloc (by omega) (.cells (Acc.cells ⟨aq,false,true,aat,amn,adt,true⟩) 139)
          rcases hm:Qx ⟨sq,true,true,sat,smn,sdt,sdn⟩ ⟨aq,false,true,aat,amn,adt,true⟩ with _ | _
          ·go_wp2_with(go_at_call 140;((with_reducible refine(Qy ⟨sq,true,true,sat,smn,sdt,sdn⟩ ⟨aq,false,true,aat,amn,adt,true⟩ _ hws hwa).mono ?_);rintro e w3 ⟨rfl,hb3⟩;rw [hm]))
           go_roundw
           case rel=>exact⟨j+1,(y1,y2),rfl,rfl,by go_num,by omega,hbn.trans (hb3.mono (by simp;omega)),by
            have h:=HR'.out
            simp only [Fg,hm,Bool.and_false,Bool.false_and] at h
            exact h⟩
           case measure=>simp [intOf];omega
          ·have key:∀ b:Bool,(!y2 || decide (aq<y1))=b→Hid ((l.drop (j+1)).foldl (Fg ⟨sq,true,true,sat,smn,sdt,sdn⟩) (if b then (aq,true) else (y1,y2))=x):=fun b hb=>by
            have h:=HR'.out
            simp only [Fg,hm,qF hsa,Bool.not_false,Bool.and_true,Bool.true_and,hb] at h
            exact h
           have Key:=qA key
           clear key HR'
           rcases y2 with _ | _
           ·go_wp2_with(go_at_call 140;((with_reducible refine(Qy ⟨sq,true,true,sat,smn,sdt,sdn⟩ ⟨aq,false,true,aat,amn,adt,true⟩ _ hws hwa).mono ?_);rintro e w3 ⟨rfl,hb3⟩;rw [hm];have hf3:∀ i,w3.cell? ⟨wr.heap.size,i,none⟩=(Acc.cells ⟨aq,false,true,aat,amn,adt,true⟩)[i]? := fun i=>by rw [hb3.cell (by simp),World.cell?_alloc_new]))
            go_roundw
            case rel=>exact⟨j+1,(aq,true),rfl,rfl,by go_num,by omega,hbn.trans (hb3.mono (by simp;omega)),Key.out true rfl⟩
            case measure=>simp [intOf];omega
           ·by_cases hlq:aq<y1
            ·go_wp2_with(go_at_call 140;((with_reducible refine(Qy ⟨sq,true,true,sat,smn,sdt,sdn⟩ ⟨aq,false,true,aat,amn,adt,true⟩ _ hws hwa).mono ?_);rintro e w3 ⟨rfl,hb3⟩;rw [hm];have hf3:∀ i,w3.cell? ⟨wr.heap.size,i,none⟩=(Acc.cells ⟨aq,false,true,aat,amn,adt,true⟩)[i]? := fun i=>by rw [hb3.cell (by simp),World.cell?_alloc_new]))
             go_roundw
             case rel=>exact⟨j+1,(aq,true),rfl,rfl,by go_num,by omega,hbn.trans (hb3.mono (by simp;omega)),Key.out true (by simp [hlq])⟩
             case measure=>simp [intOf];omega
            ·go_wp2_with(go_at_call 140;((with_reducible refine(Qy ⟨sq,true,true,sat,smn,sdt,sdn⟩ ⟨aq,false,true,aat,amn,adt,true⟩ _ hws hwa).mono ?_);rintro e w3 ⟨rfl,hb3⟩;rw [hm];have hf3:∀ i,w3.cell? ⟨wr.heap.size,i,none⟩=(Acc.cells ⟨aq,false,true,aat,amn,adt,true⟩)[i]? := fun i=>by rw [hb3.cell (by simp),World.cell?_alloc_new]))
             go_roundw
             case rel=>exact⟨j+1,(y1,true),rfl,rfl,by go_num,by omega,hbn.trans (hb3.mono (by simp;omega)),Key.out false (by simp [hlq])⟩
             case measure=>simp [intOf];omega
         ·go_wp2_with fail
          go_roundw
          case rel=>exact⟨j+1,(y1,y2),rfl,rfl,by go_num,by omega,hb2.alloc (by omega) _,by
           have h:=HR'.out
           simp only [Fg,qG hsa,Bool.and_false,Bool.false_and] at h
           exact h⟩
          case measure=>simp [intOf];omega
      ·go_wp2_with fail
       go_roundw
       case rel=>exact⟨j+1,(y1,y2),rfl,rfl,by go_num,by omega,hb2.alloc (by omega) _,HR'⟩
       case measure=>simp [intOf];omega
     ·have e:x=(y1,y2):=by
       have h:=HR.out
       rw [List.drop_eq_nil_of_le (by omega)] at h
       exact h.symm
      go_wp2_with fail
      go_ret2
      rw [e]
      exact⟨rfl,hbr2⟩
   ·have HR':Hid (If l seq (l.drop (k+1))=x):=by
     have h:=HR.out
     rw [Hd.out,If,if_neg hst] at h
     exact h
    have hb3:=hbr.alloc hbr.size (.cells (Acc.cells ⟨sq,st,kn,sat,smn,sdt,sdn⟩) 139)
    clear HR Hd Hs
    rcases st with _ | _
    ·clear hst
     go_wp2_with fail
     go_roundw
     case rel=>exact⟨k+1,by go_num,by omega,hb3,HR'⟩
     case measure=>simp [intOf];omega
    ·rcases kn with _ | _
     ·clear hst
      go_wp2_with fail
      go_roundw
      case rel=>exact⟨k+1,by go_num,by omega,hb3,HR'⟩
      case measure=>simp [intOf];omega
     ·have h3:(sq != seq)=true:=by simpa [I3] using hst
      clear hst
      go_wp2_with fail
      go_roundw
      case rel=>exact⟨k+1,by go_num,by omega,hb3,HR'⟩
      case measure=>simp [intOf];omega
  ·have e:x=(0,false):=by
    have h:=HR.out
    rw [List.drop_eq_nil_of_le (by omega)] at h
    exact h.symm
   go_wp2_with fail
   go_ret2
   rw [e]
   exact⟨rfl,hbr⟩
theorem Acz (seq at_ many:Int) (x:Int×Bool) (l:List Uop) {k:Nat} (hk:k<l.length):(l.take (k+1)).foldl (Dj seq at_ many) x=Dj seq at_ many ((l.take k).foldl (Dj seq at_ many) x) (l[k]'hk):=by
 rw [List.take_succ_eq_append_getElem hk,List.foldl_append]
 rfl
section
variable {B:Nat} {w:World} {g p:Nat} {C:Core} {L:Lay} {ps:List Nat} {cs:Array Value}
def Ro (B:Nat) (w:World) (g:Nat) (C':Core) (e:Ending) (w':World):Prop:=e = .returned (.tuple #[])∧Ah B w w'∧∃ L' ps' cs',Af B w' g C' L' ps' cs'
theorem Adr (h:Af B w g C L ps cs) {k0:Nat} (hp:ps[k0]? = some p) (hf:Rl C) (hc:(C.op k0).commit.Wf) (hq:C.seq≤4611686018427387904) (hb1:0≤C.backs) (hb2:C.backs<4611686018427387904) {j:Nat} (hj:Jh C.access (C.op k0).seq=(j:Int)) (hjl:j<C.access.length) :
  Calls Tryz.prog 71 #[.pointer (some ⟨g,0,none⟩), .pointer (some ⟨p,0,none⟩)] w (Ro B w g (E8 C k0)):=by
 obtain⟨hu,hBp,hk,hg⟩:=h.uop_at hp
 obtain⟨a0,hja⟩:∃ a0,C.access[j]? = some a0:=⟨_,qI hjl⟩
 have hjd:C.access.getD j default=a0:=by simp [List.getD,hja]
 unfold E8
 dsimp only
 rw [hj]
 simp only [Int.toNat_natCast]
 rw [hjd]
 generalize C.op k0=u at *
 obtain⟨C1,hC1⟩:∃ C1,C1=({ C with access:=C.access.set j { a0 with known:=true,at_:=u.commit.at_,many:=u.commit.many,data:=u.commit.data } }:Core):=⟨_,rfl⟩
 have hf1:Rl C1:=by rw [hC1];exact hf.setacc hja hc
 have ea:C1.access=C.access.set j { a0 with known:=true,at_:=u.commit.at_,many:=u.commit.many,data:=u.commit.data }:=by rw [hC1]
 have eo:C1.ops=C.ops:=by rw [hC1]
 have eb:C1.backs=C.backs:=by rw [hC1]
 have es:C1.seq=C.seq:=by rw [hC1]
 have eal:C1.access.length=C.access.length:=by rw [ea,List.length_set]
 rw [←hC1,←ea,←eo]
 have hff:=fun hh=>Aat hf1.acc u.seq u.commit.at_ u.commit.many hh
 generalize hx0:Ix C1.access u.seq=x0 at *
 obtain⟨f,hfo⟩:∃ f,f=C1.ops.foldl (Dj u.seq u.commit.at_ u.commit.many) x0:=⟨_,rfl⟩
 rw [←hfo] at hff ⊢
 obtain⟨X,hX⟩:∃ X,X=(if f.2=true then F5 C1 f.1 (C1.ops.getD (I6 C1.ops f.1).toNat Bz).pc else C1):=⟨_,rfl⟩
 rw [←hX]
 have HXT:Hid (f.2=true→X=F5 C1 f.1 (C1.ops.getD (I6 C1.ops f.1).toNat Bz).pc):=qA fun e=>by rw [hX,if_pos e]
 have HXF:Hid (f.2=false→X=C1):=qA fun e=>by rw [hX,if_neg (by rw [e];decide)]
 clear hX
 have h22:w.cell? ⟨p,22,none⟩=some (.int .u32 u.commit.at_):=hu.cell 22
 have h23:w.cell? ⟨p,23,none⟩=some (.int .i64 u.commit.many):=hu.cell 23
 have h24:w.cell? ⟨p,24,none⟩=some (.int .u32 u.commit.data):=hu.cell 24
 have c0:w.cell? ⟨p,0,none⟩=some (.int .i64 u.seq):=hu.cell 0
 have zp:=hu.lt
 have zg:=h.lt
 obtain⟨ga,cA,cur,hAv,hbA,hBA,hrA,hszA⟩:=W3 h.rows.access (by omega)
 have c336:w.cell? ⟨g,336,none⟩=some (.slice (some ⟨ga,0,none⟩) C.access.length cA):=by rw [←hAv];exact h.access
 have hna:p≠ga:=Bm hu hBA (by decide)
 have HAV:=qA hAv
 have HOP:=qA (show C1.ops[k0]? = some u by rw [eo];exact hg)
 have hs2:=hc.at_
 have hs3:0≤u.commit.many∧u.commit.many≤4:=by have:=hc.many;omega
 generalize u.commit.at_=at_ at *
 generalize u.commit.many=many at *
 generalize u.commit.data=data at *
 have CA:=qA (fun W (hb:Below w.heap.size w W)=>show Calls Tryz.prog 97 #[.pointer (some ⟨g,0,none⟩), .int .i64 u.seq] W fun e w'=>e = .returned (.int .i64 (j:Int))∧Below W.heap.size W w' by
  have:=Ahc (h.ext hb) u.seq (by have:=hf.lens.2.2;omega)
  rw [hj] at this
  exact this)
 have HI:=qA h
 have HP:=qA hu
 have HC1:=qA hC1
 have HJA:=qA hja
 have HF1:=qA hf1
 have HFF:=qA hff
 have HFO:=qA hfo
 have HX0:=qA hx0
 have HEAL:=qA eal
 have HAJ:=qA (show C1.access[j]? = some ({ a0 with known:=true,at_:=at_,many:=many,data:=data }:Acc) by rw [ea];exact List.getElem?_set_self hjl)
 have hlen1:=hf1.lens
 have hbk:0≤C1.backs∧C1.backs<4611686018427387904:=by rw [eb];exact⟨hb1,hb2⟩
 have hsq:C1.seq≤9223372036854775807:=by rw [es];omega
 have HBK:=qA (qL hbk hsq)
 have HUF:=qA hf1.uf
 clear h hu hg hf hc hAv hbA hBA hrA hszA ea eo eb es eal hC1 hf1 hja hj hjd hq hb1 hb2 hff hfo hx0 hbk hsq
 go_enter Tryz.func71,Tryz.ntmps71
 go_upto_region 0 with(fail)
 go_simp
 refine Ad 3319 264 3583 [0,1,2,3,4,5,6,7,8,9,10,11] (by kernel_rfl) (by kernel_rfl) (by kernel_rfl) rfl ?_
 refine rR (fun wq hwq=>i2 (hwq.at_ zg c336) (hwq.at_ zp c0)) ?_
 refine oB (fun w6 hw6 K1 hK1=>?_)
 have hb6:Below w.heap.size w w6:=by rw [hw6];exact(qB _ _).drew
 clear hw6
 go_wp2_with(go_at_call 97;(with_reducible refine(CA.out w6 hb6).mono ?_);rintro e w7 ⟨rfl,hb7⟩)
 replace hb7:=hb6.trans (hb7.mono hb6.size)
 refine hK1 _ _ hb7 ?_
 simp only [Act.put,sA,sS,sZ]
 clear hK1 K1
 refine rO ?_
 refine Aj ?_
 rintro w8 hw8
 rw [←hw8] at hb7
 clear hw8 hb6 CA c336 c0
 replace h22:=(hb7.cell (p:=⟨p,22,none⟩) zp).trans h22
 replace h23:=(hb7.cell (p:=⟨p,23,none⟩) zp).trans h23
 replace h24:=(hb7.cell (p:=⟨p,24,none⟩) zp).trans h24
 replace zp:=qE zp hb7.size
 have HJ8:=qA (qL ((HI.out.ext hb7).setaccI HJA.out) (Ah.below (B:=B) hb7))
 clear hb7 HI HP zg
 go_upto_region 1 with(fail)
 go_simp
 refine Ad 920379135 270592 920649727 [0,1,2,3,4,5,6,7,8,9,10,11,12,13,14,15,16,17,18,19,20,21,22,23,24,25,26,27,28,29,30] (by kernel_rfl) (by kernel_rfl) (by kernel_rfl) rfl ?_
 refine rR (fun wq hwq=>i2 (hwq.at_ zp h22) (i2 (hwq.at_ zp h23) (hwq.at_ zp h24))) ?_
 replace HJ8:Hid (Af B w8.drew g { C with access:=C.access.set j a0 } L ps cs∧Ah B w w8.drew):=qA ⟨HJ8.out.1.ext (qB _ _).drew,HJ8.out.2.trans (Ah.below (qB _ _).drew)⟩
 clear h22 h23 h24 zp
 refine oS (fun w9 hw9 K1 hK1=>?_)
 rw [←hw9] at HJ8
 clear hw9
 obtain⟨⟨h9,t9⟩,k1,f1,z1⟩:=(HJ8).out.1.setaccN HAV.out hjl (i:=2) (by decide) (x := .bool true) (a':={ a0 with known:=true }) rfl
 have HJ9:=qA (qL h9 ((HJ8).out.2.trans t9))
 clear h9 t9 HJ8
 go_wp2_with(fail)
 refine hK1 undef _ (fun _=>True) trivial ?_
 simp only [Act.put,sA,sS,sZ]
 clear hK1 K1 k1 f1 z1
 refine rO ?_
 refine oS (fun w10 hw10 K1 hK1=>?_)
 rw [←hw10] at HJ9
 clear hw10
 obtain⟨⟨h10,t10⟩,k1,f1,z1⟩:=(HJ9).out.1.setaccN HAV.out hjl (i:=3) (by decide) (x := .int .u32 at_) (a':={ a0 with known:=true,at_:=at_ }) rfl
 have HJ10:=qA (qL h10 ((HJ9).out.2.trans t10))
 clear h10 t10 HJ9
 go_wp2_with(fail)
 refine hK1 undef _ (fun _=>True) trivial ?_
 simp only [Act.put,sA,sS,sZ]
 clear hK1 K1 k1 f1 z1
 refine rO ?_
 refine oS (fun w11 hw11 K1 hK1=>?_)
 rw [←hw11] at HJ10
 clear hw11
 obtain⟨⟨h11,t11⟩,k1,f1,z1⟩:=(HJ10).out.1.setaccN HAV.out hjl (i:=4) (by decide) (x := .int .i64 many) (a':={ a0 with known:=true,at_:=at_,many:=many }) rfl
 have HJ11:=qA (qL h11 ((HJ10).out.2.trans t11))
 clear h11 t11 HJ10
 go_wp2_with(fail)
 refine hK1 undef _ (fun _=>True) trivial ?_
 simp only [Act.put,sA,sS,sZ]
 clear hK1 K1 k1 f1 z1
 refine rO ?_
 refine oS (fun w12 hw12 K1 hK1=>?_)
 rw [←hw12] at HJ11
 clear hw12
 obtain⟨⟨h12,t12⟩,k1,f1,z1⟩:=(HJ11).out.1.setaccN HAV.out hjl (i:=5) (by decide) (x := .int .u32 data) (a':={ a0 with known:=true,at_:=at_,many:=many,data:=data }) rfl
 have HJ12:=qA (qL h12 ((HJ11).out.2.trans t12))
 clear h12 t12 HJ11
 go_wp2_with(fail)
 refine hK1 undef _ (fun _=>True) trivial ?_
 simp only [Act.put,sA,sS,sZ]
 clear hK1 K1 k1 f1 z1
 refine rO ?_
 refine Aj ?_
 rintro w13 hw13
 rw [←hw13] at HJ12
 clear hw13
 have HI13:Hid (Af B w13 g C1 L ps cs):=qA (by rw [HC1.out];exact HJ12.out.1)
 have HT13:Hid (Ah B w w13):=qA HJ12.out.2
 have hal:=HI13.out.rows.access
 have hv1:L.access = .slice (some ⟨ga,0,none⟩) C1.access.length cA:=by rw [HEAL.out];exact HAV.out
 obtain⟨l1,hl1⟩:∃ l1,l1=C1.access:=⟨_,rfl⟩
 have hS:Ee w13 w13.heap.size (some ⟨ga,0,none⟩) C1.access:=by
  rw [hv1] at hal
  exact Ee.own hal
 have hu13:=(HI13.out.rows.uops.at_ k0 u p HOP.out hp).1
 have c336:w13.cell? ⟨g,336,none⟩=some (.slice (some ⟨ga,0,none⟩) C1.access.length cA):=by rw [←hv1];exact HI13.out.access
 have c0:w13.cell? ⟨p,0,none⟩=some (.int .i64 u.seq):=hu13.cell 0
 have zp:=hu13.lt
 have zg:=HI13.out.lt
 have CW:=qA (fun W (hb:Below w13.heap.size w13 W)=>Ag5 (some ⟨ga,0,none⟩) cA C1.access u.seq W (by unfold maxLen;omega) (HF1.out.wf HBK.out.2) ((hS.below hb).mono hb.size))
 rw [HX0.out] at CW
 clear HJ12 hal hS hu13 hl1
 go_upto_region 2 with(fail)
 go_simp
 refine Ad 15991 136 16127 [0,1,2,3,4,5,6,7,8,9,10,11,12,13] (by kernel_rfl) (by kernel_rfl) (by kernel_rfl) rfl ?_
 refine rR (fun wq hwq=>i2 (hwq.at_ zg c336) (hwq.at_ zp c0)) ?_
 refine oS (fun w14 hw14 K1 hK1=>?_)
 have hb14:Below w13.heap.size w13 w14:=by rw [hw14];exact(qB _ _).drew
 clear hw14
 go_wp2_with(go_at_call 105;(with_reducible refine(CW.out w14 hb14).mono ?_);rintro e w15 ⟨rfl,hb15⟩)
 refine hK1 _ _ (fun _=>True) trivial ?_
 simp only [Act.put,sA,sS,sZ]
 clear hK1 K1 CW
 refine rO ?_
 refine Aj ?_
 rintro w16 hw16
 replace hb15:=hb14.trans (hb15.mono hb14.size)
 rw [←hw16] at hb15
 clear hw16 hb14 c336 c0 zp zg l1
 have HI16:=qA (HI13.out.ext hb15)
 have HT16:=qA (HT13.out.trans (Ah.below (B:=B) hb15))
 clear hb15 HI13 HT13
 obtain⟨A,n,hvo,hno,hno2,hno3⟩:=Fc HI16.out.rows.ptrs
 have c335:w16.cell? ⟨g,335,none⟩=some (.slice A ps.length n):=by rw [←hvo];exact HI16.out.ops
 have zg:=HI16.out.lt
 have hpl:=HI16.out.rows.uops.len
 obtain⟨N,hN⟩:∃ N,N=ps.length:=⟨_,rfl⟩
 have HN:=qA hN
 have HN2:=qA (show N=C1.ops.length by rw [hN];exact hpl)
 have hN32:N≤32:=by have:=hlen1.1;omega
 rw [←hN] at c335 hno
 have HVO:=qA hvo
 have HVO3:=qA hno3
 have HV1:=qA hv1
 clear hN hpl hvo hno3 hv1
 go_upto_region 4 with(fail)
 go_loopw [5,6,65] (fun v5 v6 v65 wr=>∃ (k:Nat) (x:Int) (b:Bool),v65 = .int .i64 k∧v5 = .int .i64 x∧v6 = .bool b∧k≤N∧Below w16.heap.size w16 wr∧Hid ((C1.ops.take k).foldl (Dj u.seq at_ many) x0=(x,b))) (fun _ _ v _=>N+1 - (intOf v).toNat)
 case atStart=>exact⟨0,x0.1,x0.2,rfl,rfl,rfl,Nat.zero_le _,qB _ _,qA rfl⟩
 case round=>
  obtain⟨k,x,b,rfl,rfl,rfl,hk,hb,HK⟩:=hrel
  by_cases hlt:k<N
  ·have hk':k<C1.ops.length:=by rw [←HN2.out];exact hlt
   have hk2:k<ps.length:=by rw [←HN.out];exact hlt
   have hIr:=HI16.out.ext hb
   have hrow:=hIr.rows.ptrs
   rw [HVO.out] at hrow
   obtain⟨bP,oP,rfl,zP,cP⟩:=G2 hrow hk2
   have hst:=Acz u.seq at_ many x0 C1.ops hk'
   rw [HK.out] at hst
   have hvm:C1.ops[k]'hk'∈C1.ops:=List.getElem_mem hk'
   have huv:=hIr.rows.uops.at_ k _ _ (qI hk') (qI hk2)
   have hvf:=HUF.out _ hvm
   generalize C1.ops[k]'hk'=v at *
   generalize ps[k]'hk2=q at *
   have d0:wr.cell? ⟨q,0,none⟩=some (.int .i64 v.seq):=huv.1.cell 0
   have d3:wr.cell? ⟨q,3,none⟩=some (.int .u32 v.pc):=huv.1.cell 3
   have zq:=huv.1.lt
   have hup:=(hIr.rows.uops.at_ k0 u p HOP.out hp).1
   have dp:wr.cell? ⟨p,0,none⟩=some (.int .i64 u.seq):=hup.cell 0
   have zp:=hup.lt
   have hac3:=Jy hIr HV1.out HAJ.out (i:=3) (by decide)
   have hac4:=Jy hIr HV1.out HAJ.out (i:=4) (by decide)
   have da:wr.cell? ⟨ga,j*7+3,none⟩=some (.int .u32 at_):=hac3.1
   have dm:wr.cell? ⟨ga,j*7+4,none⟩=some (.int .i64 many):=hac4.1
   have za:=hac3.2.2
   have hvp:=hvf.pc
   have m1:v.pc%18446744073709551616=v.pc:=by omega
   have m2:at_%18446744073709551616=at_:=by omega
   have m3:many%18446744073709551616=many:=by omega
   have m4:(at_+many)%18446744073709551616=at_+many:=by omega
   have m5:(v.pc+4)%18446744073709551616=v.pc+4:=by omega
   clear hvm huv hvf hup hac3 hac4 hIr hrow hk' hk2 HK
   obtain⟨b1,hb1⟩:∃ b1,b1=decide (v.pc<at_+many):=⟨_,rfl⟩
   obtain⟨b2,hb2⟩:∃ b2,b2=decide (at_<v.pc+4):=⟨_,rfl⟩
   obtain⟨s1,hs1⟩:∃ s1,s1=decide (u.seq<v.seq):=⟨_,rfl⟩
   obtain⟨s2,hs2'⟩:∃ s2,s2=decide (v.seq<x):=⟨_,rfl⟩
   have HS:Hid ((C1.ops.take (k+1)).foldl (Dj u.seq at_ many) x0=if (s1&&(b1&&b2)&&(!b || s2))=true then (v.seq,true) else (x,b)):=qA (by rw [hst,hb1,hb2,hs1,hs2'];rfl)
   clear hst
   have t1:=hb1.symm
   have t2:=hb2.symm
   have t3:=hs1.symm
   have t4:=hs2'.symm
   clear hb1 hb2 hs1 hs2' hvp hs2 hs3
   rcases b1 with _ | _
   focus
    have HS2:Hid ((C1.ops.take (k+1)).foldl (Dj u.seq at_ many) x0=(x,b)):=qA (by rw [HS.out];simp)
    clear HS
   rotate_left 1
   focus
    rcases b2 with _ | _
    focus
     have HS2:Hid ((C1.ops.take (k+1)).foldl (Dj u.seq at_ many) x0=(x,b)):=qA (by rw [HS.out];simp)
     clear HS
    rotate_left 1
    focus
     skip
    rotate_left 1
   rotate_left 2
   all_goals
    go_upto_region 6 with(fail)
    go_simp
    refine Ad 4225752823 69214472 4294967295 [0,1,2,3,4,5,6,7,8,9,10,11,12,13,14,15,16,17,18,19,20,21,22,23,24,25,26,27,28,29,30,31] (by kernel_rfl) (by kernel_rfl) (by kernel_rfl) rfl ?_
    repeat'(first
     |refine oQ rfl rfl ?_
     |(refine' oE _ (by decide) (by decide) (fun wq K hK=>?_) ?_ ?_;rotate_left 1;(· go_wp2_with(fail);all_goals exact hK);rfl)
     |(refine' oR _ (by decide) (by decide) (by decide) (fun wq hwq K hK=>?_) ?_ ?_;rotate_left 1;(· have k3:=hwq.at_ zq d3;have ka:=hwq.at_ za da;have km:=hwq.at_ za dm;go_wp2_with(fail);all_goals exact hK);rfl)
     |((first | refine oT rfl rfl rfl rfl ?_ ?_ | refine oF rfl rfl rfl rfl ?_ ?_)<;>intro hc<;>first | (cases hc;done) | ((try cases hc);simp only [Act.put,sA,sS,sZ]))
     |(refine oU rfl rfl rfl rfl ?_;(try simp only [Act.put,sA,sS,sZ])))
    refine Aj ?_
    intro ws hws
    replace hws:Below wr.heap.size wr ws:=by first | exact hws | (rw [hws];exact(qB _ _).drew)
    replace d0:=(hws.cell (p:=⟨q,0,none⟩) zq).trans d0
    replace dp:=(hws.cell (p:=⟨p,0,none⟩) zp).trans dp
    replace zq:=qE zq hws.size
    replace zp:=qE zp hws.size
    clear d3 da dm za m1 m2 m3 m4 m5
    go_upto_region 7 with(fail)
    go_simp
   focus
    rcases s1 with _ | _
    focus
     skip
    rotate_left 1
    focus
     skip
    rotate_left 1
   rotate_left 2
   focus
    rcases s1 with _ | _
    focus
     skip
    rotate_left 1
    focus
     skip
    rotate_left 1
   rotate_left 2
   focus
    rcases s1 with _ | _
    focus
     have HS2:Hid ((C1.ops.take (k+1)).foldl (Dj u.seq at_ many) x0=(x,b)):=qA (by rw [HS.out];simp)
     clear HS
    rotate_left 1
    focus
     rcases b with _ | _
     focus
      have HS2:Hid ((C1.ops.take (k+1)).foldl (Dj u.seq at_ many) x0=(v.seq,true)):=qA (by rw [HS.out];simp)
      clear HS
     rotate_left 1
     focus
      rcases s2 with _ | _
      focus
       have HS2:Hid ((C1.ops.take (k+1)).foldl (Dj u.seq at_ many) x0=(x,true)):=qA (by rw [HS.out];simp)
       clear HS
      rotate_left 1
      focus
       have HS2:Hid ((C1.ops.take (k+1)).foldl (Dj u.seq at_ many) x0=(v.seq,true)):=qA (by rw [HS.out];simp)
       clear HS
   all_goals
    refine Ad 16252791 524424 16777215 [0,1,2,3,4,5,6,7,8,9,10,11,12,13,14,15,16,17,18,19,20,21,22,23] (by kernel_rfl) (by kernel_rfl) (by kernel_rfl) rfl ?_
    repeat'(first
     |refine oQ rfl rfl ?_
     |(refine' oE _ (by decide) (by decide) (fun wq K hK=>?_) ?_ ?_;rotate_left 1;(· go_wp2_with(fail);all_goals exact hK);rfl)
     |(refine' oR _ (by decide) (by decide) (by decide) (fun wq hwq K hK=>?_) ?_ ?_;rotate_left 1;(· have k0:=hwq.at_ zq d0;have kp:=hwq.at_ zp dp;go_wp2_with(fail);all_goals exact hK);rfl)
     |((first | refine oT rfl rfl rfl rfl ?_ ?_ | refine oF rfl rfl rfl rfl ?_ ?_)<;>intro hc<;>first | (cases hc;done) | ((try cases hc);simp only [Act.put,sA,sS,sZ]))
     |(refine oU rfl rfl rfl rfl ?_;(try simp only [Act.put,sA,sS,sZ])))
    refine Aj ?_
    intro wt hwt
    replace hwt:Below ws.heap.size ws wt:=by first | exact hwt | (rw [hwt];exact(qB _ _).drew)
    have e0:wt.cell? ⟨q,0,none⟩=some (.int .i64 v.seq):=(hwt.cell (p:=⟨q,0,none⟩) zq).trans d0
    have zt:q<wt.heap.size:=qE zq hwt.size
    go_wp2_with(fail)
    go_roundw
    case rel=>exact⟨k+1,_,_,rfl,rfl,by go_num,by omega,(hb.trans (hws.mono hb.size)).trans (hwt.mono (qD hb.size hws.size)),HS2⟩
    case measure=>simp [intOf];omega
  ·obtain rfl:k=N:=by omega
   have e1:decide ((k:Int)<k)=false:=by simp
   have hfx:f=(x,b):=by
    have h1:=HK.out
    rw [HN2.out,List.take_length] at h1
    rw [HFO.out,h1]
   subst hfx
   clear HK HFO HN HN2 hno hk hlt c335
   rcases b with _ | _
   ·have HX:Hid (X=C1):=qA (HXF.out rfl)
    clear HXF HXT HFF
    go_wp2_with(fail)
    refine bodyPost_end (results_none rfl _ _ _) rfl ?_
    exact⟨rfl,HT16.out.trans (Ah.below hb),L,ps,cs,by rw [HX.out];exact HI16.out.ext hb⟩
   ·have HX:=qA (HXT.out rfl)
    obtain⟨k2,hk2,hk2l⟩:=HFF.out rfl
    clear HXF HXT HFF
    have hIr:=HI16.out.ext hb
    have hrow:=hIr.rows.ptrs
    have hpl:k2<ps.length:=by rw [hIr.rows.uops.len];exact hk2l
    rw [HVO.out] at hrow
    obtain⟨bP,oP,rfl,zP,cP⟩:=G2 hrow hpl
    have huv:=(hIr.rows.uops.at_ k2 _ _ (qI hk2l) (qI hpl)).1
    have hgd:C1.ops.getD k2 Bz=C1.ops[k2]'hk2l:=by simp [List.getD,qI hk2l]
    rw [hk2,Int.toNat_natCast,hgd] at HX
    generalize C1.ops[k2]'hk2l=v at *
    generalize ps[k2]'hpl=q at *
    have d3:wr.cell? ⟨q,3,none⟩=some (.int .u32 v.pc):=huv.cell 3
    have zq:=huv.lt
    have d335:wr.cell? ⟨g,335,none⟩=some (.slice (some ⟨bP,oP,none⟩) ps.length n):=by rw [←HVO.out];exact hIr.ops
    have zg2:=hIr.lt
    have CF:=qA (fun W (hb:Below wr.heap.size wr W)=>show Calls Tryz.prog 100 #[.pointer (some ⟨g,0,none⟩), .int .i64 x] W fun e w'=>e = .returned (.int .i64 (k2:Int))∧Below W.heap.size W w' by
     have:=Aaq (hIr.ext hb) x (by omega)
     rw [hk2] at this
     exact this)
    have CB:=qA (fun W (hb:Below wr.heap.size wr W)=>Nh (hIr.ext hb) x v.pc HBK.out.1.1 HBK.out.1.2 (by omega) (by omega) (by omega) (by have:=HF1.out.free;omega) (HF1.out.found x) HF1.out.undo)
    have HTr:=qA (HT16.out.trans (Ah.below (B:=B) hb))
    clear hIr hrow huv hgd hk2 zg hb HI16 HT16
    go_upto_region 11 with(fail)
    go_simp
    refine Ad 6879 9248 16127 [0,1,2,3,4,5,6,7,8,9,10,11,12,13,14] (by kernel_rfl) (by kernel_rfl) (by kernel_rfl) rfl ?_
    refine rR (fun wq hwq=>hwq.at_ zg2 d335) ?_
    refine oB (fun w17 hw17 K1 hK1=>?_)
    have hb17:Below wr.heap.size wr w17:=by rw [hw17];exact(qB _ _).drew
    clear hw17
    go_wp2_with(go_at_call 100;(with_reducible refine(CF.out w17 hb17).mono ?_);rintro e w18 ⟨rfl,hb18⟩)
    replace hb18:=hb17.trans (hb18.mono hb17.size)
    refine hK1 _ _ hb18 ?_
    simp only [Act.put,sA,sS,sZ]
    clear hK1 K1 CF hb17
    refine rR (fun wq hwq=>i2 (hwq.at_ zP cP) (hwq.at_ zq d3)) ?_
    refine oS (fun w19 hw19 K1 hK1=>?_)
    rw [←hw19] at hb18
    clear hw19
    go_wp2_with(go_at_call 69;(with_reducible refine(CB.out w19 hb18).mono ?_);rintro e w20 ⟨rfl,ht20,L20,cs20,h20⟩)
    refine hK1 _ _ (fun _=>True) trivial ?_
    simp only [Act.put,sA,sS,sZ]
    clear hK1 K1 CB
    refine Aj ?_
    rintro w21 hw21
    rw [←hw21] at ht20 h20
    clear hw21
    go_wp2_with(fail)
    refine bodyPost_end (results_none rfl _ _ _) rfl ?_
    exact⟨rfl,(HTr.out.trans (Ah.below hb18)).trans ht20,L20,_,cs20,by rw [HX.out];exact h20⟩
end
theorem Aft {C:Core} (h:C.still=true∨C.names.free=[]):Bv C=(false,C):=by
 unfold Bv
 rw [if_pos h]
theorem Aal {C:Core} (h:¬ (C.still=true∨C.names.free=[])) (hp:I8 C.slots C.window C.seq=none):Bv C=(false,C):=by
 unfold Bv
 rw [if_neg h,hp]
theorem Yy {C:Core} (h:¬ (C.still=true∨C.names.free=[])) {sl:List Slt} (hp:I8 C.slots C.window C.seq=some sl) {i:Ins} {c:Int} (hs:Je C=(i,c)) (hc:c≠0) :
  Bv C=(false,Ep { C with slots:=sl,seq:=C.seq+1,taken:=C.taken+1,ops:=C.ops++[{ Bz with seq:=C.seq,pc:=C.pc,cause:=c,ins:=i,commit:=By C.pc c }],still:=true } C.ops.length):=by
 unfold Bv
 rw [if_neg h,hp]
 dsimp only
 rw [hs,if_pos hc]
def Me (C:Core) (i:Ins):Uop:={ Bz with seq:=C.seq,pc:=C.pc,ins:=i,a:=C.names.regs.getD i.rs1.toNat 0,b:=C.names.regs.getD i.rs2.toNat 0,dest:=(takeC C i).2.1,old:=(takeC C i).2.2 }
def Acw (C:Core) (sl:List Slt) (i:Ins):Core:=
 { C with slots:=sl,seq:=C.seq+1,taken:=C.taken+1,names:=(takeC C i).1,there:=if Bg i=true then C.there.set (takeC C i).2.1.toNat false else C.there,access:=if (Bp i || A0 i)=true then C.access++[(⟨C.seq,A0 i,false,0,0,0,false⟩:Acc)] else C.access,ops:=C.ops++[Me C i] }
theorem Xg {C:Core} (h:¬ (C.still=true∨C.names.free=[])) {sl:List Slt} (hp:I8 C.slots C.window C.seq=some sl) {i:Ins} (hs:Je C=(i,0)) :
  Bv C=(!Ba i,{ Acw C sl i with ops:=C.ops++[{ Me C i with next:=(Dd C i C.pc).1 }],script:=(Dd C i C.pc).2,pc:=(Dd C i C.pc).1,still:=Ba i }):=by
 unfold Bv
 rw [if_neg h,hp]
 dsimp only
 rw [hs,if_neg (fun hh=>hh rfl)]
 rfl
section
variable {B:Nat} {w:World} {g p:Nat} {C:Core} {L:Lay} {ps:List Nat} {cs:Array Value}
def Rk (B:Nat) (w:World) (g:Nat) (X:Bool×Core) (e:Ending) (w':World):Prop:=e = .returned (.bool X.1)∧Ah B w w'∧∃ L' ps' cs',Af B w' g X.2 L' ps' cs'
theorem Mw (sq pc:Int):Tryz.prog.built 107 [(0, .int .i64 sq),(3, .int .u32 pc)]=some (Uop.cells { Bz with seq:=sq,pc:=pc }):=by kernel_rfl
theorem Sp (pc c:Int):Tryz.prog.built 65 [(0, .int .u32 pc),(1, .int .u32 pc),(2, .int .i64 2),(3, .int .i64 c)]=some (By pc c).cells:=by kernel_rfl
theorem Ahk (h:Af B w g C L ps cs) (hn:C.still=true∨C.names.free=[]) :
  Calls Tryz.prog 40 #[.pointer (some ⟨g,0,none⟩)] w (Rk B w g (Bv C)):=by
 rw [Aft hn]
 have c339:=h.cell h.cells.still
 have c141:=h.nfree
 have zg:=h.lt
 have HI:=qA h
 clear h
 rcases hs:C.still with _ | _
 ·rw [hs] at c339 hn
  have hfr:C.names.free=[]:=by rcases hn with hn | hn;cases hn;exact hn
  rw [hfr] at c141
  have e0:((([]:List Int).length:Int)==0)=true:=rfl
  clear hn hfr
  go_enter Tryz.func40,Tryz.ntmps40
  go_wp2_with(fail)
  go_ret
  exact⟨rfl,Ah.refl _ _,L,ps,cs,HI.out⟩
 ·rw [hs] at c339
  clear hn
  go_enter Tryz.func40,Tryz.ntmps40
  go_wp2_with(fail)
  go_ret
  exact⟨rfl,Ah.refl _ _,L,ps,cs,HI.out⟩
theorem Acx (h:Af B w g C L ps cs) (hf:Rl C) (hst:C.still=false) (hfr:C.names.free≠[]) (hp:I8 C.slots C.window C.seq=none) :
  Calls Tryz.prog 40 #[.pointer (some ⟨g,0,none⟩)] w (Rk B w g (Bv C)):=by
 rw [Aal (fun hh=>by rcases hh with hh | hh;rw [hst] at hh;cases hh;exact hfr hh) hp]
 have c339:w.cell? ⟨g,339,none⟩=some (.bool false):=by
  have:=h.cell h.cells.still
  rw [hst] at this
  exact this
 have c141:=h.nfree
 have e0:((C.names.free.length:Int)==0)=false:=by
  have:C.names.free.length≠0:=fun e=>hfr (qN e)
  simpa using this
 have c334:=h.slots
 have c0:w.cell? ⟨g,0,none⟩=some (.int .i64 C.window):=h.cell h.cells.window
 have c337:w.cell? ⟨g,337,none⟩=some (.int .i64 C.seq):=h.cell h.cells.seq
 have zg:=h.lt
 obtain⟨AS,cS,hsv,hSS,hSn,hS1,hS2⟩:=Hq h.rows.slots
 rw [hsv] at c334
 have hsl:=hf.lens.2.1
 have CP0:=qA (fun W (hb:Below w.heap.size w W)=>Rb AS cS C.slots C.window C.seq W (by omega) ((hSS.below hb).mono hb.size) hSn)
 rw [hp] at CP0
 have HI:=qA h
 clear h hf hst hfr hp hSS hSn
 go_enter Tryz.func40,Tryz.ntmps40
 go_upto_region 3 with(fail)
 go_simp
 refine Ad 511735 4360 516095 [0,1,2,3,4,5,6,7,8,9,10,11,12,13,14,15,16,17,18] (by kernel_rfl) (by kernel_rfl) (by kernel_rfl) rfl ?_
 refine rR (fun wq hwq=>i2 (hwq.at_ zg c334) (i2 (hwq.at_ zg c0) (hwq.at_ zg c337))) ?_
 refine oS (fun w1 hw1 K1 hK1=>?_)
 have hb1:Below w.heap.size w w1:=by rw [hw1];exact(qB _ _).drew
 clear hw1
 go_wp2_with(go_at_call 74;(with_reducible refine(CP0.out w1 hb1).mono ?_);intro e w2 hpost;obtain⟨hb2,rfl⟩:=hpost)
 refine hK1 _ _ (fun _=>True) trivial ?_
 simp only [Act.put,sA,sS,sZ]
 clear hK1 K1
 refine rO ?_
 refine Aj ?_
 rintro w3 hw3
 replace hb2:=hb1.trans (hb2.mono hb1.size)
 go_wp2_with(fail)
 go_ret
 exact⟨rfl,Ah.below hb2,L,ps,cs,HI.out.ext hb2⟩
end
end Go.Proofs.YtapgojgcmlnbgaaGreatDoor
namespace Go.Proofs.YtapgojgcmlnbgaaGreatDoor
open Go Go.RowKit
theorem Ie {P:Program} {w:World} {o:Oper} {a:Act} {K:Act→World→Prop} {Q:Exit→Act→World→Prop} (s x:Operand) (t:TypeId)
  (ho:o.op = .call { callee := .builtin .append,args:=#[s,x],argTypes:=#[t,t] })
  (base:Nat) (e:TypeId) (i:TypeInfo) (z:Value) (size bytes:Nat) (ht:P.underlying t=some (.slice e)) (hi:P.info? e=some i) (hz:i.zero=some z)
  (hsize:i.size=size) (hby:i.bytes=bytes) (hzs:z.cells.size=size) (hsz:0<size)
  (v:Value) (n:Nat) (xs:List Value) (hs:a.eval s=v) (hown:w.ownsRow base e size v n xs)
  (ad:Addr) (m c:Nat) (news:List Value) (hx:a.eval x = .slice (some ad) m c) (hl:news.length=m*size) (hnews:∀ j u,news[j]? = some u→w.cell? (ad.add j)=some u) (h1:∀ u∈news,u.oneCell'=true)
  (h63:n+m≤maxLen) (hbytes:(n+m)*bytes≤140737488355328) (hbase:base≤w.heap.size)
  (h:∀ v' w',w'.ownsRow base e size v' (n+m) (xs++news)→w.grownBy w' v.ownBlock→(v'.ownBlock=v.ownBlock∨∀ k,v'.ownBlock=some k→w.heap.size≤k)→K (a.put o.dst v') w'):o.wp P a w K Q:=by
 obtain⟨v',w',hr,h2,h3,h4⟩:=run_append_own (P:=P) w base t o.type e i z size bytes ht hi hz hsize hby hzs hsz v n xs hown ad m c news hl hnews h1 h63 hbytes hbase
 have h5:=Yk w base t o.type e i z size bytes ht hi hz hsize hby hzs hsz v n xs hown ad m c news hl hnews h1 h63 hbytes v' w' hr
 unfold Oper.wp execOp
 simp only [ho,resolve,invoke,builtin,Sem.run_bind,Sem.run_pure,Result.andThen_ok,List.map_toArray,List.map_cons,List.map_nil,hs,hx,hr]
 exact h v' w' h2 h3 h5
section
variable {B:Nat} {w:World} {g p:Nat} {C:Core} {L:Lay} {ps:List Nat} {cs:Array Value}
theorem C9.snoc {us:List Uop} (h:C9 w B us ps) {u:Uop} (hB:Blk w p 107 u.cells) (hb:B≤p) (hn:p ∉ ps):C9 w B (us++[u]) (ps++[p]):=by
 refine⟨by simp [h.len],fun i v q hv hq=>?_,List.nodup_append.2 ⟨h.nodup,by simp,fun a ha b hb2 e=>by simp at hb2;subst hb2;subst e;exact hn ha⟩⟩
 by_cases hi:i<us.length
 ·rw [qQ hi] at hv
  rw [qQ (by rw [h.len];exact hi)] at hq
  exact h.at_ i v q hv hq
 ·have hi2:i=us.length:=by
   have:=(qJ.1 hv).1
   simp at this
   omega
  subst hi2
  rw [qR (qC _),Nat.sub_self] at hv
  rw [←h.len,qR (qC _),Nat.sub_self] at hq
  cases hv
  cases hq
  exact⟨hB,hb⟩
theorem Af.pushed (h:Af B w g C L ps cs) {w':World} (hg:w.grownBy w' L.ops.ownBlock) {v':Value} {ps':List Nat} {ops':List Uop} (hrow:B8 w' B v' ps') (hu:C9 w' B ops' ps')
  (hv:v'.ownBlock=L.ops.ownBlock∨∀ k,v'.ownBlock=some k→w.heap.size≤k) (hp:∀ p∈ps',p∈ps∨(C.names.free≠[]→∀ ad,L.freeA=some ad→ad.block≠p)) {v2:Value} {sl:List Slt} (ho:w'.ownsRow B 166 2 v2 sl.length (Ay sl)) :
  (Af B ((w'.setCell ⟨g,334,none⟩ v2).setCell ⟨g,335,none⟩ v') g { C with slots:=sl,ops:=ops' } { L with slots:=v2,ops:=v' } ps' ((cs.setIfInBounds 334 v2).setIfInBounds 335 v')∧Ah B w ((w'.setCell ⟨g,334,none⟩ v2).setCell ⟨g,335,none⟩ v')) ∧
  w'.cell? ⟨g,334,none⟩=some L.slots∧w'.cell? ⟨g,335,none⟩=some L.ops∧w'.frozen? ⟨g,334,none⟩=false∧w'.frozen? ⟨g,335,none⟩=false∧g<w'.heap.size:=by
 have hb:Blk w' g 86 cs:=h.blk.grown hg (by
  rcases h.rows.ptrs.other h.blk (by decide) with e | e
  ·rw [e];simp
  ·exact fun e'=>e e'.symm)
 have hr:=(h.rows.ptr h.low hg hrow hu hv hp).slot ho
 have ht:Ah B w w':=Ah.grown hg fun k hk=>by
  obtain⟨cur,hc⟩:=Kx h.rows.ptrs hk
  exact⟨(h.rows.ptrs.lt k hk).1,_,_,_,hc,rfl⟩
 have hg2:=(grownBy_setCell w' ⟨g,334,none⟩ v2).trans (grownBy_setCell (w'.setCell ⟨g,334,none⟩ v2) ⟨g,335,none⟩ v')
 have hlow:=qD h.low hg.size
 exact⟨⟨⟨qD hlow hg2.size,(hb.set 334 v2).set 335 v',(h.cells.set_slots v2 sl).set_ops v' ops',hr.core hlow hb hg2⟩,
  ht.trans (Ah.grown hg2 fun k hk=>by cases hk;exact⟨h.rows.base,_,_,_,hb,rfl⟩)⟩,(hb.cell 334).trans h.cells.slots,(hb.cell 335).trans h.cells.ops,hb.frozen 334,hb.frozen 335,hb.lt⟩
theorem Q9 {v:Value} (h:B8 w B v ps):∃ A n c,v = .slice A n c:=by
 obtain⟨A,c,h,_⟩:=Fc h
 exact⟨A,_,c,h⟩
theorem Vo {l:List Slt} {room seq:Int} {sl:List Slt} (h:I8 l room seq=some sl):sl.length=l.length+1:=by
 unfold I8 at h
 split at h
 ·cases h
 ·cases h
  simp
theorem Af.fresh (h:Af B w g C L ps cs) (hp:w.heap.size≤p):B≤p∧p ∉ ps∧(C.names.free≠[]→∀ ad,L.freeA=some ad→ad.block≠p):=
 ⟨qD h.low hp,fun hm=>by have:=h.rows.uops.lt hm;omega,fun hf ad e hh=>by have:=h.rows.names.free_lt hf ad e;omega⟩
theorem O4 {C C':Core} (h1:C'.script=C.script) (h2:C'.table=C.table) (i:Ins) (pc:Int):Dd C' i pc=Dd C i pc:=by
 unfold Dd
 rw [h1,h2]
end
end Go.Proofs.YtapgojgcmlnbgaaGreatDoor
