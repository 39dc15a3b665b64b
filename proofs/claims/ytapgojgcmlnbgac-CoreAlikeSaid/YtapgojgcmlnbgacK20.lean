/- Parts of a proof. -/
import Derived.Test.YtapgojgcmlnbgacK16
import Derived.Test.YtapgojgcmlnbgacK00
import Derived.Test.YtapgojgcmlnbgacK18
import Derived.Test.YtapgojgcmlnbgacK02
import Derived.Test.YtapgojgcmlnbgacProg
import Derived.WalkLawsBesides
import Derived.WalkSpells
import Derived.Lib.Hide
import Derived.Outline
import Derived.Deep.Cut
import Derived.Test.YtapgojgcmlnbgacK10
import Derived.Deep.RegionWith
import Derived.Deep.RegionLaw
import Derived.WalkKit
import Derived.Deep.LoopGhost
import Derived.Lib.Walk
import Derived.Sort.Row
import Derived.Lib.SlicesMore
import Derived.BigRegion
import Derived.RegionCalls
import Derived.Lib.OwnBridge
set_option linter.unusedSimpArgs false
set_option linter.unusedVariables false
set_option maxRecDepth 100000
set_option maxHeartbeats 16000000
namespace Go.Proofs.Ytapgojgcmlnbgac
open Go.RowKit
def comsV (l:List Com):List Value:=l.flatMap fun c=>c.cells.toList
theorem com_len (c:Com):c.cells.toList.length=11:=rfl
theorem comsV_len:∀ l:List Com,(comsV l).length=l.length*11
 |[]=>rfl
 |c::l=>by
  have ih:=comsV_len l
  unfold comsV at ih ⊢
  rw [List.flatMap_cons,List.length_append,ih,com_len,List.length_cons]
  omega
theorem comsV_append (l k:List Com):comsV (l++k)=comsV l++comsV k:=by unfold comsV;rw [List.flatMap_append]
theorem comsV_one (c:Com):comsV [c]=c.cells.toList:=by unfold comsV;simp
theorem comsV_at:∀ (l:List Com) (k:Nat) (c:Com),l[k]? = some c→((comsV l).drop (k*11)).take 11=c.cells.toList
 |[],_,_,h=>by cases h
 |d::l,0,c,h=>by
  cases h
  show((comsV (d::l)).drop 0).take 11=_
  have e:comsV (d::l)=d.cells.toList++comsV l:=by unfold comsV;rw [List.flatMap_cons]
  rw [e,List.drop_zero]
  exact List.take_left' (com_len d)
 |d::l,k+1,c,h=>by
  have e:comsV (d::l)=d.cells.toList++comsV l:=by unfold comsV;rw [List.flatMap_cons]
  rw [e,show(k+1)*11=11+k*11 by omega,←List.drop_drop,List.drop_left' (com_len d)]
  exact comsV_at l k c (by simpa using h)
theorem comsV_oneCell (l:List Com):∀ u∈comsV l,u.oneCell'=true:=by
 intro u hu
 unfold comsV at hu
 obtain⟨c,_,hc⟩:=List.mem_flatMap.1 hu
 have:=cells_one c
 rw [Array.all_eq_true_iff_forall_mem] at this
 exact this u (by simpa using hc)
def ComsAt (w:World) (B:Nat) (A:Option Addr) (l:List Com):Prop:=
 l≠[]→∃ g cur,A=some ⟨g,0,none⟩∧g<B∧Blk w g 65 cur∧l.length*11≤cur.size∧cur.toList.take (l.length*11)=comsV l
theorem ComsAt.below {w w':World} {B:Nat} {A:Option Addr} {l:List Com} (h:ComsAt w B A l) (hb:Below B w w'):ComsAt w' B A l:=fun hne=>by
 obtain⟨g,cur,h1,h2,h3,h4,h5⟩:=h hne
 exact⟨g,cur,h1,h2,h3.below hb h2,h4,h5⟩
theorem ComsAt.mono {w:World} {B B':Nat} {A:Option Addr} {l:List Com} (h:ComsAt w B A l) (hB:B≤B'):ComsAt w B' A l:=fun hne=>by
 obtain⟨g,cur,h1,h2,h3,h4,h5⟩:=h hne
 exact⟨g,cur,h1,Nat.lt_of_lt_of_le h2 hB,h3,h4,h5⟩
theorem ComsAt.own {w:World} {base:Nat} {A:Option Addr} {cap n:Nat} {l:List Com} (h:w.ownsRow base 65 11 (.slice A n cap) n (comsV l)):ComsAt w w.heap.size A l:=fun hne=>by
 have hn:n=l.length:=by have:=h.1;rw [comsV_len] at this;omega
 have h0:0<l.length:=List.length_pos_iff.2 hne
 subst hn
 rcases h.2 with⟨_,h2⟩ | ⟨g,c,cur,hv,_,hh,hc,_,hs,ht⟩
 ·omega
 ·injection hv with hv1 hv2 hv3
  subst hv1
  have hB:Blk w g 65 cur:=hh
  exact⟨g,cur,rfl,hB.lt,hB,by rw [hs];exact Nat.mul_le_mul_right 11 hc,ht⟩
theorem ComsAt.len {w:World} {base:Nat} {A:Option Addr} {cap n:Nat} {l:List Com} (h:w.ownsRow base 65 11 (.slice A n cap) n (comsV l)):n=l.length:=by
 have:=h.1;rw [comsV_len] at this;omega
theorem ComsAt.cells {w:World} {B:Nat} {A:Option Addr} {l:List Com} (h:ComsAt w B A l):∀ ad,A=some ad→∀ j u,(comsV l)[j]? = some u→w.cell? (ad.add j)=some u:=by
 intro ad hA j u hu
 have hne:l≠[]:=by intro e;subst e;cases hu
 obtain⟨g,cur,h1,h2,h3,h4,h5⟩:=h hne
 rw [h1] at hA
 cases hA
 rw [Addr.add_lit,Nat.zero_add,h3.cell,←Array.getElem?_toList,←hu,←h5,List.getElem?_take]
 rw [if_pos]
 have:=(List.getElem?_eq_some_iff.1 hu).1
 rw [comsV_len] at this
 exact this
theorem ComsAt.at_ {w:World} {B:Nat} {A:Option Addr} {l:List Com} (h:ComsAt w B A l) {k:Nat} (hk:k<l.length) :
  ∃ g cur,A=some ⟨g,0,none⟩∧g<B∧Blk w g 65 cur∧k*11+11≤cur.size∧cur.extract (k*11) (k*11+11)=(l[k]'hk).cells:=by
 have hne:l≠[]:=by intro e;subst e;simp at hk
 obtain⟨g,cur,h1,h2,h3,h4,h5⟩:=h hne
 have hk11:k*11+11≤l.length*11:=by omega
 refine⟨g,cur,h1,h2,h3,by omega,?_⟩
 apply Array.toList_inj.1
 rw [Array.toList_extract,List.extract_eq_take_drop,show k*11+11 - k*11=11 by omega,←comsV_at l k _ (List.getElem?_eq_getElem hk),←h5,List.drop_take,List.take_take]
 congr 1
 omega
theorem lit_cells (w:World) (cs:Array Value) (t:TypeId):∀ ad,some (⟨w.heap.size,0,none⟩:Addr)=some ad→∀ j v,cs.toList[j]? = some v→(w.alloc (.cells cs t)).cell? (ad.add j)=some v:=by
 intro ad h j v hj
 cases h
 rw [Addr.add_lit,Nat.zero_add,World.cell?_alloc_new]
 simpa using hj
theorem neq_self' {P:Program} {t:TypeId} {cs:Array Value} (w:World) (h:(binOp .eql t (.agg cs) (.agg cs)).run P w = .ok (.bool true) w):(binOp .neq t (.agg cs) (.agg cs)).run P w = .ok (.bool false) w:=by
 rw [run_eql_struct] at h
 rw [run_neq_struct]
 generalize hr:(Op.equalIn 10000 t (.agg cs) (.agg cs)).run P w=r at h ⊢
 cases r with
 |ok b w'=>
  simp only [Result.andThen_ok] at h ⊢
  injection h with h1 h2
  injection h1 with h1
  subst h1 h2
  rfl
 |_=>cases h
theorem wp_neq_self' {P:Program} {o:Oper} {a:Act} {w:World} {K:Act→World→Prop} {Q:Exit→Act→World→Prop} (t:TypeId) (x y:Operand) (r:TypeId) (ho:o.op = .binOp .neq t x y r) (cs:Array Value) (hx:a.eval x = .agg cs) (hy:a.eval y = .agg cs)
  (hg:P.eqGuardType P.depth t=false) (hs:(binOp .neq t (.agg cs) (.agg cs)).run P w = .ok (.bool false) w) (hk:K (a.put o.dst (.bool false)) w):o.wp P a w K Q:=by
 have hq:=run_eqGuard_agg (P:=P) (w:=w) .neq t x y cs cs hg
 unfold Oper.wp execOp
 simp only [ho,hx,hy,hs,hq,Sem.run_bind,Sem.run_pure,Result.andThen_ok]
 exact hk
theorem coms_info:(Try.prog.info? 65).map (fun i=>(i.zero,i.size,i.bytes))=some (some (.agg com0.cells),11,64):=by kernel_rfl
def slotsV (l:List Slt):List Value:=l.flatMap fun s=>[.int .i64 s.seq, .bool s.done]
theorem slotsV_len:∀ l:List Slt,(slotsV l).length=l.length*2
 |[]=>rfl
 |s::l=>by
  have ih:=slotsV_len l
  unfold slotsV at ih ⊢
  rw [List.flatMap_cons,List.length_append,ih,List.length_cons]
  simp
  omega
theorem slotsV_append (l k:List Slt):slotsV (l++k)=slotsV l++slotsV k:=by unfold slotsV;rw [List.flatMap_append]
theorem slotsV_at:∀ (l:List Slt) (k:Nat) (s:Slt),l[k]? = some s→(slotsV l)[k*2]? = some (.int .i64 s.seq)∧(slotsV l)[k*2+1]? = some (.bool s.done)
 |[],_,_,h=>by cases h
 |d::l,0,s,h=>by cases h;exact⟨rfl,rfl⟩
 |d::l,k+1,s,h=>by
  have e:slotsV (d::l) = .int .i64 d.seq :: .bool d.done::slotsV l:=rfl
  rw [e,show(k+1)*2=k*2+1+1 by omega,List.getElem?_cons_succ,List.getElem?_cons_succ,List.getElem?_cons_succ,List.getElem?_cons_succ]
  exact slotsV_at l k s (by simpa using h)
theorem slotsV_oneCell (l:List Slt):∀ u∈slotsV l,u.oneCell'=true:=by
 intro u hu
 unfold slotsV at hu
 obtain⟨s,_,hs⟩:=List.mem_flatMap.1 hu
 simp at hs
 rcases hs with rfl | rfl<;>rfl
def SlotsAt (w:World) (B:Nat) (A:Option Addr) (l:List Slt):Prop:=
 l≠[]→∃ b o,A=some ⟨b,o,none⟩∧b<B∧∀ j u,(slotsV l)[j]? = some u→w.cell? ⟨b,o+j,none⟩=some u
theorem SlotsAt.below {w w':World} {B:Nat} {A:Option Addr} {l:List Slt} (h:SlotsAt w B A l) (hb:Below B w w'):SlotsAt w' B A l:=fun hne=>by
 obtain⟨b,o,hA,hB,hc⟩:=h hne
 exact⟨b,o,hA,hB,fun j u hj=>(hb.cell (p:=⟨b,o+j,none⟩) hB).trans (hc j u hj)⟩
theorem SlotsAt.mono {w:World} {B B':Nat} {A:Option Addr} {l:List Slt} (h:SlotsAt w B A l) (hB:B≤B'):SlotsAt w B' A l:=fun hne=>by
 obtain⟨b,o,hA,hb,hc⟩:=h hne
 exact⟨b,o,hA,by omega,hc⟩
theorem SlotsAt.at_ {w:World} {B:Nat} {A:Option Addr} {l:List Slt} (h:SlotsAt w B A l) {k:Nat} (hk:k<l.length) :
  ∃ b o,A=some ⟨b,o,none⟩∧b<B∧w.cell? ⟨b,o+k*2,none⟩=some (.int .i64 (l[k]'hk).seq)∧w.cell? ⟨b,o+k*2+1,none⟩=some (.bool (l[k]'hk).done):=by
 have hne:l≠[]:=by intro e;subst e;simp at hk
 obtain⟨b,o,hA,hb,hc⟩:=h hne
 obtain⟨h1,h2⟩:=slotsV_at l k _ (List.getElem?_eq_getElem hk)
 exact⟨b,o,hA,hb,hc _ _ h1,by rw [Nat.add_assoc];exact hc _ _ h2⟩
theorem SlotsAt.cells {w:World} {B:Nat} {A:Option Addr} {l:List Slt} (h:SlotsAt w B A l):∀ ad,A=some ad→∀ j u,(slotsV l)[j]? = some u→w.cell? (ad.add j)=some u:=by
 intro ad hA j u hu
 have hne:l≠[]:=by intro e;subst e;cases hu
 obtain⟨b,o,h1,_,hc⟩:=h hne
 rw [h1] at hA
 cases hA
 rw [Addr.add_lit]
 exact hc j u hu
theorem SlotsAt.own {w:World} {base:Nat} {A:Option Addr} {cap n:Nat} {l:List Slt} (h:w.ownsRow base 105 2 (.slice A n cap) n (slotsV l)):SlotsAt w w.heap.size A l:=fun hne=>by
 have hn:n=l.length:=by have:=h.1;rw [slotsV_len] at this;omega
 have h0:0<l.length:=List.length_pos_iff.2 hne
 subst hn
 have hcell:=fun(g:Nat) (hg:(Value.slice A l.length cap).ownBlock=some g)=>h.cells (g:=g) hg
 rcases h.2 with⟨_,h2⟩ | ⟨g,c,cur,hv,_,hh,_⟩
 ·omega
 ·injection hv with hv1 hv2 hv3
  subst hv1
  refine⟨g,0,rfl,(Array.getElem?_eq_some_iff.1 hh).1,fun j u hj=>?_⟩
  have:=hcell g rfl j u hj
  rwa [Addr.add_lit] at this
theorem cloneSlots_any_info:(Try.prog.info? 105).map (fun i=>(i.zero,i.size,i.bytes))=some (some (.agg #[.int .i64 0, .bool false]),2,16):=by kernel_rfl
theorem cloneSlots_any (A:Option Addr) (n cap:Nat) (cs:List Value) (w:World) (hl:n*16≤140737488355328) (hlen:cs.length=n*2) (h1:∀ u∈cs,u.oneCell'=true)
  (hc:∀ ad,A=some ad→∀ j u,cs[j]? = some u→w.cell? (ad.add j)=some u) (hnil:A=none→n=0) :
  Calls Try.prog 42 #[.slice A n cap] w fun e w'=>∃ v,e = .returned v∧w'.ownsRow w.heap.size 105 2 v n cs∧Below w.heap.size w w':=by
 rcases A with _ | ad
 ·obtain rfl:=hnil rfl
  obtain rfl:cs=[]:=List.eq_nil_of_length_eq_zero (by simpa using hlen)
  have hn:=Lib.run_eql_slice_nil (P:=Try.prog) w 56 105 none 0 cap 0 0 Try.underlying56
  go_enter Try.func42,Try.ntmps42
  go_wp2
  go_ret
  exact⟨_,rfl,World.ownsRow_nil _ _ _ _,Below.refl _ _⟩
 ·have hn:=Lib.run_eql_slice_nil (P:=Try.prog) w 56 105 (some ad) n cap 0 0 Try.underlying56
  obtain⟨i0,hi,hz0,hz1,hz2⟩:=info_parts cloneSlots_any_info
  have Hc:=Lib.hid (hc ad rfl)
  clear hc hnil
  have hown0:=World.ownsRow_lit (base:=w.heap.size) (e:=105) (size:=2) w #[] 0 (Nat.le_refl _) (by unfold maxLen;omega) rfl
  go_enter Try.func42,Try.ntmps42
  go_wp2_with(at_builtin;refine wpList_append_own _ rfl (.tmp 5) (.tmp 6) 56 rfl w.heap.size 105 i0 _ 2 16 Try.underlying56 hi hz0 hz1 hz2 rfl (by decide) _ 0 [] rfl hown0 ad n cap cs rfl hlen (fun j u hu=>(World.cell?_alloc_lt _ _ _ (World.block_lt_of_cell? _ _ (Hc.out j u hu))).trans (Hc.out j u hu)) h1 (by unfold maxLen;omega) (by omega) (by simp) ?_;intro v1 w1 hown1 hg1 hat1)
  go_ret
  refine⟨v1,rfl,by simpa using hown1,((Below.refl _ _).alloc (Nat.le_refl _) _).grown hg1 (by simp) (fun k hk=>?_)⟩
  cases hk
  exact Nat.le_refl _
theorem pushLit_any (s:Slt) (seq:Int) (g:Nat) (w:World) (hg:w.cell? ⟨g,0,none⟩=some (.int .i64 seq)) (hgl:g<w.heap.size) :
  Calls Try.prog 66 #[.agg #[.int .i64 s.seq, .bool s.done], .pointer (some ⟨g,0,none⟩)] w fun e w'=>e = .returned (.bool (decide (seq≤s.seq)))∧Below w.heap.size w w':=by
 obtain⟨sq,dn⟩:=s
 dsimp only
 go_enter Try.func66,Try.ntmps66
 go_upto_region 1 with(fail)
 go_simp
 refine wp_gen fun wa hq=>?_
 have hB:Blk wa w.heap.size 105 #[.int .i64 sq, .bool dn]:=by rw [hq];exact Blk.new w _ _
 have hbl:Below w.heap.size w wa:=by rw [hq];exact(Below.refl _ _).alloc (Nat.le_refl _) _
 clear hq
 have c0:wa.cell? ⟨w.heap.size,0,none⟩=some (.int .i64 sq):=hB.cell 0
 have c1:=(hbl.cell (p:=⟨g,0,none⟩) hgl).trans hg
 go_wp2
 go_ret
 exact⟨rfl,hbl⟩
theorem idxP_any {α:Type} (p:α→Bool) (l:List α):decide (0≤idxP p l 0)=l.any p:=by
 rcases idxP_cases p l 0 with⟨h1,h2⟩ | ⟨j,x,h1,h2,h3,_⟩
 ·have h1':idxP p l 0 = -1:=h1
  rw [h1']
  have:l.any p=false:=by rw [List.any_eq_false];intro x hx;rw [h2 x hx];simp
  rw [this]
  rfl
 ·have h1':idxP p l 0=j:=by simpa using h1
  rw [h1']
  have:l.any p=true:=List.any_eq_true.2 ⟨x,List.mem_of_getElem? h2,h3⟩
  rw [this]
  exact decide_eq_true (by omega)
theorem idxP_drop {α:Type} (p:α→Bool) (l:List α) {k:Nat} (hk:k<l.length) (z:Int):idxP p (l.drop k) z=if p (l[k]'hk)=true then z else idxP p (l.drop (k+1)) (z+1):=by
 rw [List.drop_eq_getElem_cons hk]
 rfl
theorem indexFunc_any (A:Option Addr) (cap:Nat) (l:List Slt) (seq:Int) (g:Nat) (w:World) (hl:l.length≤140737488355328) (hA:SlotsAt w w.heap.size A l) (hg:w.cell? ⟨g,0,none⟩=some (.int .i64 seq)) (hgl:g<w.heap.size) :
  Calls Try.prog 84 #[.slice A l.length cap, .func (.func 66) #[] #[.pointer (some ⟨g,0,none⟩)]] w fun e w'=>e = .returned (.int .i64 (idxP (fun s=>decide (seq≤s.seq)) l 0))∧Below w.heap.size w w':=by
 obtain⟨X,hX⟩:∃ X,idxP (fun s:Slt=>decide (seq≤s.seq)) l 0=X:=⟨_,rfl⟩
 rw [hX]
 obtain⟨N,hN⟩:∃ N,N=l.length:=⟨_,rfl⟩
 rw [←hN] at hl ⊢
 have HA:=Lib.hid hA
 have HN:=Lib.hid hN
 have HX:Hid (idxP (fun s:Slt=>decide (seq≤s.seq)) (l.drop 0) ((0:Nat):Int)=X):=Lib.hid (by simpa using hX)
 have HG:=Lib.hid hg
 clear hA hN hX hg
 go_enter Try.func84,Try.ntmps84
 go_upto_region 2 with(fail)
 go_loopw [8] (fun v wr=>∃ k:Nat,v = .int .i64 k∧k≤N∧Below w.heap.size w wr∧Hid (idxP (fun s:Slt=>decide (seq≤s.seq)) (l.drop k) k=X)) (fun v _=>N+1 - (intOf v).toNat)
 case atStart=>exact⟨0,rfl,Nat.zero_le _,Below.refl _ _,HX⟩
 case round=>
  clear HX
  obtain⟨k,rfl,hk,hb,Hk⟩:=hrel
  by_cases hlt:k<N
  ·have hk':k<l.length:=by rw [←HN.out];exact hlt
   obtain⟨b,o,rfl,hgB,c0,c1⟩:=(HA.out.below hb).at_ hk'
   have hd:=idxP_drop (fun s:Slt=>decide (seq≤s.seq)) l hk' (k:Int)
   have CP:=Lib.hid (fun W h1 h2=>pushLit_any (l[k]'hk') seq g W h1 h2)
   generalize l[k]'hk'=s at *
   obtain⟨sq,dn⟩:=s
   dsimp only at c0 c1 hd
   have hgr:=(hb.cell (p:=⟨g,0,none⟩) hgl).trans HG.out
   have hglr:g<wr.heap.size:=Nat.lt_of_lt_of_le hgl hb.size
   have HGR:=Lib.hid hgr
   clear hgr
   by_cases hs:seq≤sq
   ·have Hd:Hid ((k:Int)=X):=Lib.hid (by rw [if_pos (by simpa using hs)] at hd;rw [←Hk.out,hd])
    have t1:decide (seq≤sq)=true:=decide_eq_true hs
    clear hd Hk hs
    go_wp2_with(go_at_call 66;(with_reducible refine(CP.out _ HGR.out hglr).mono ?_);rintro e w2 ⟨rfl,hb2⟩)
    go_ret
    exact⟨by rw [←Hd.out];rfl,hb.trans (hb2.mono hb.size)⟩
   ·have Hd:Hid (idxP (fun s:Slt=>decide (seq≤s.seq)) (l.drop (k+1)) ((k+1:Nat):Int)=X):=Lib.hid (by rw [if_neg (by simpa using hs)] at hd;rw [←Hk.out,hd];rfl)
    have t1:decide (seq≤sq)=false:=decide_eq_false hs
    clear hd Hk hs
    go_wp2_with(go_at_call 66;(with_reducible refine(CP.out _ HGR.out hglr).mono ?_);rintro e w2 ⟨rfl,hb2⟩)
    go_roundw
    case rel=>exact⟨k+1,by go_num,by omega,hb.trans (hb2.mono hb.size),Hd⟩
    case measure=>simp [intOf];omega
  ·obtain rfl:k=N:=by omega
   have e1:decide ((k:Int)<k)=false:=by simp
   have Hd:Hid ((-1:Int)=X):=Lib.hid (by rw [←Hk.out,HN.out,List.drop_length];rfl)
   clear Hk
   go_wp2
   go_ret
   exact⟨by rw [←Hd.out];rfl,hb⟩
theorem containsFunc_any (A:Option Addr) (cap:Nat) (l:List Slt) (seq:Int) (g:Nat) (w:World) (hl:l.length≤140737488355328) (hA:SlotsAt w w.heap.size A l) (hg:w.cell? ⟨g,0,none⟩=some (.int .i64 seq)) (hgl:g<w.heap.size) :
  Calls Try.prog 65 #[.slice A l.length cap, .func (.func 66) #[] #[.pointer (some ⟨g,0,none⟩)]] w fun e w'=>e = .returned (.bool (l.any fun s=>decide (seq≤s.seq)))∧Below w.heap.size w w':=by
 have CI:=Lib.hid (indexFunc_any A cap l seq g w hl hA hg hgl)
 have hx:=idxP_any (fun s:Slt=>decide (seq≤s.seq)) l
 generalize idxP (fun s:Slt=>decide (seq≤s.seq)) l 0=X at *
 generalize (l.any fun s=>decide (seq≤s.seq))=Y at *
 generalize l.length=N at *
 clear hA hg
 go_enter Try.func65,Try.ntmps65
 go_wp2_with(go_at_call 84;(with_reducible refine CI.out.mono ?_);rintro e w2 ⟨rfl,hb2⟩)
 go_ret
 refine⟨?_,hb2⟩
 first | rfl | (rw [←hx];rfl) | (rw [hx])
def SlotsPost (w:World) (l:List Slt) (v:Value) (w':World):Prop:=
 w'.ownsRow w.heap.size 105 2 v l.length (slotsV l)
theorem lit_slot (w:World) (seq:Int) (t:TypeId):∀ ad,some (⟨w.heap.size,0,none⟩:Addr)=some ad→∀ j v,(slotsV [⟨seq,false⟩])[j]? = some v→(w.alloc (.cells #[.int .i64 seq, .bool false] t)).cell? (ad.add j)=some v:=by
 intro ad h j v hj
 cases h
 rw [Addr.add_lit,Nat.zero_add,World.cell?_alloc_new]
 have e:slotsV [⟨seq,false⟩]=[.int .i64 seq, .bool false]:=rfl
 rw [e] at hj
 simpa using hj
theorem own_low {w:World} {base base':Nat} {e:TypeId} {size:Nat} {v:Value} {n:Nat} {xs:List Value} (h:w.ownsRow base e size v n xs) (hb:base'≤base):w.ownsRow base' e size v n xs:=
 ⟨h.1,h.2.imp id fun⟨g,cap,cur,e,l,r⟩=>⟨g,cap,cur,e,Nat.le_trans hb l,r⟩⟩
theorem step_of {P:Program} {ops:Array Oper} {o:Oper} {a:Act} {w:World} {K:Act→World→Prop} {Q:Exit→Act→World→Prop} {E:Prop} (hg:o.guard=none) (h:o.wp P a w K Q):if Region.wanted o (yielded ops a.tmps)=true then Oper.wp P o a w K Q else E:=by
 have hw:Region.wanted o (yielded ops a.tmps)=true:=by simp [Region.wanted,hg]
 rw [if_pos hw]
 exact h
theorem lit_slot_kept {W w5:World} {w:World} {seq:Int} {t:TypeId} (hW:W=w.alloc (.cells #[.int .i64 seq, .bool false] t)) (hb:Below W.heap.size W w5):∀ ad,some (⟨w.heap.size,0,none⟩:Addr)=some ad→∀ j v,(slotsV [⟨seq,false⟩])[j]? = some v→w5.cell? (ad.add j)=some v:=by
 intro ad h j v hj
 have h1:=lit_slot w seq t ad h j v hj
 rw [←hW] at h1
 have h2:=World.block_lt_of_cell? _ _ h1
 exact(hb.cell h2).trans h1
theorem push_any (A:Option Addr) (cap:Nat) (l:List Slt) (room seq:Int) (w:World) (hl:l.length*16≤140737488351232) (hA:SlotsAt w w.heap.size A l) (hnil:A=none→l=[]∧cap=0) :
  Calls Try.prog 36 #[.slice A l.length cap, .int .i64 room, .int .i64 seq] w fun e w'=>Below w.heap.size w w'∧match pushP l room seq with
   |none=>e = .returned (.tuple #[.slice none 0 0, .bool false])
   |some k=>∃ v,e = .returned (.tuple #[v, .bool true])∧SlotsPost w k v w':=by
 have hx:pushP l room seq=if room≤l.length∨(l.any fun s=>decide (seq≤s.seq))=true then none else some (l++[⟨seq,false⟩]):=rfl
 by_cases hr:room≤(l.length:Int)
 ·rw [hx,if_pos (Or.inl hr)]
  have t1:decide (room≤(l.length:Int))=true:=decide_eq_true hr
  generalize l.length=N at *
  clear hx hr hA hnil
  go_enter Try.func36,Try.ntmps36
  go_upto_region 1 with(fail)
  go_simp
  refine wp_gen fun wa hq=>?_
  have hbl:Below w.heap.size w wa:=by rw [hq];exact(Below.refl _ _).alloc (Nat.le_refl _) _
  clear hq
  go_wp2
  go_ret2
  exact⟨hbl,rfl⟩
 ·have t1:decide (room≤(l.length:Int))=false:=decide_eq_false hr
  have CC:=Lib.hid (fun W hW hg hgl=>containsFunc_any A cap l seq w.heap.size W (by omega) hW hg hgl)
  rcases hany:(l.any fun s=>decide (seq≤s.seq)) with _ | _
  ·rw [hany] at CC
   rw [hx,hany,if_neg (by simp;omega)]
   clear hx hr hany
   have CL:=Lib.hid (fun W hW=>cloneSlots_any A l.length cap (slotsV l) W (by omega) (slotsV_len l) (slotsV_oneCell l) hW (fun e=>by rw [(hnil e).1];rfl))
   obtain⟨i0,hi,hz0,hz1,hz2⟩:=info_parts cloneSlots_any_info
   go_enter Try.func36,Try.ntmps36
   go_upto_region 1 with(fail)
   go_simp
   refine wp_gen fun wa hq=>?_
   have hB:Blk wa w.heap.size 3 #[.int .i64 seq]:=by rw [hq];exact Blk.new w _ _
   have hbl:Below w.heap.size w wa:=by rw [hq];exact(Below.refl _ _).alloc (Nat.le_refl _) _
   clear hq
   have hAa:=(hA.below hbl).mono hbl.size
   have c0:wa.cell? ⟨w.heap.size,0,none⟩=some (.int .i64 seq):=hB.cell 0
   have zB:=hB.lt
   go_upto_region 3 with(go_at_call 65;(with_reducible refine(CC.out _ hAa c0 zB).mono ?_);rintro e w2 ⟨rfl,hb2⟩)
   try go_simp
   replace hbl:=hbl.trans (hb2.mono hbl.size)
   replace hB:=hB.ext hb2
   have hA2:=(hAa.below hb2).mono hb2.size
   clear hAa hb2 CC t1 c0 zB
   have CLg:Hid (∀ W,Below w2.heap.size w2 W→Calls Try.prog 42 #[.slice A l.length cap] W fun e w'=>∃ v,e = .returned v∧w'.ownsRow w2.heap.size 105 2 v l.length (slotsV l)∧Below w2.heap.size w2 w'∧Below W.heap.size W w'):=Lib.hid (fun W hb=>by
    refine(CL.out W ((hA2.below hb).cells)).mono ?_
    rintro e w' ⟨v,rfl,ho,hb'⟩
    refine⟨v,rfl,?_,hb.trans (hb'.mono hb.size),hb'⟩
    exact⟨ho.1,ho.2.imp id fun⟨g,cap,cur,e,l,r⟩=>⟨g,cap,cur,e,Nat.le_trans hb.size l,r⟩⟩)
   have hseq:w2.cell? ⟨w.heap.size,0,none⟩=some (.int .i64 seq):=hB.cell 0
   have zB:=hB.lt
   clear CL
   go_region_law (refine step_of rfl ?_;first
    |(refine wp_append_any (.tmp 18) (.tmp 21) 56 rfl w2.heap.size 105 i0 _ 2 16 Try.underlying56 hi hz0 hz1 hz2 rfl (by decide) (.slice A5 l.length c5) l.length (slotsV l) rfl (hown5.alloc _) (some ⟨w5.heap.size,0,none⟩) 1 1 (slotsV [⟨seq,false⟩]) rfl rfl (fun h=>by cases h) (lit_slot w5 seq _) (slotsV_oneCell _) (by unfold maxLen;omega) (by omega) (by have:=hb5.size;simp;omega) ?_;intro v6 w6 hown6 hg6)
    |(refine wp_append_any (.tmp 18) (.tmp 21) 56 rfl w2.heap.size 105 i0 _ 2 16 Try.underlying56 hi hz0 hz1 hz2 rfl (by decide) (.slice A5 l.length c5) l.length (slotsV l) rfl hown5 (some ⟨w2.drew.heap.size,0,none⟩) 1 1 (slotsV [⟨seq,false⟩]) rfl rfl (fun h=>by cases h) (lit_slot_kept rfl hb6) (slotsV_oneCell _) (by unfold maxLen;omega) (by omega) (by have:=hb5.size;simp;omega) ?_;intro v6 w6 hown6 hg6)
    |(go_wp2_with(go_at_call 42;refine(CLg.out _ (by first | exact(Below.refl _ _).drew | exact((Below.refl _ _).drew.alloc (Nat.le_refl _) _))).mono ?_;rintro e w5 ⟨v5,rfl,hown5,hb5,hb6⟩;have hseq5:=(hb5.cell (p:=⟨w.heap.size,0,none⟩) zB).trans hseq;obtain⟨A5,c5,rfl⟩:=own_value hown5)))
   all_goals
    have hb9:Below w2.heap.size w2 w6:=by
     first
     |exact hb5.grown hg6 (by have:=hb5.size;omega) (fun k hk=>(hown5.lt k hk).1)
     |exact(hb5.alloc hb5.size _).grown hg6 (by have:=hb5.size;simp;omega) (fun k hk=>(hown5.lt k hk).1)
    go_wp2
    go_ret2
    refine⟨hbl.trans (hb9.mono hbl.size),v6,rfl,?_⟩
    unfold SlotsPost
    rw [slotsV_append,List.length_append]
    exact own_low hown6 hbl.size
  ·rw [hany] at CC
   rw [hx,hany,if_pos (Or.inr rfl)]
   clear hx hr hany
   go_enter Try.func36,Try.ntmps36
   go_upto_region 1 with(fail)
   go_simp
   refine wp_gen fun wa hq=>?_
   have hB:Blk wa w.heap.size 3 #[.int .i64 seq]:=by rw [hq];exact Blk.new w _ _
   have hbl:Below w.heap.size w wa:=by rw [hq];exact(Below.refl _ _).alloc (Nat.le_refl _) _
   clear hq
   have hAa:=(hA.below hbl).mono hbl.size
   have c0:wa.cell? ⟨w.heap.size,0,none⟩=some (.int .i64 seq):=hB.cell 0
   have zB:=hB.lt
   go_wp2_with(go_at_call 65;(with_reducible refine(CC.out _ hAa c0 zB).mono ?_);rintro e w2 ⟨rfl,hb2⟩)
   go_ret2
   exact⟨hbl.trans (hb2.mono hbl.size),rfl⟩
def isS (seq:Int) (s:Slt):Bool:=decide (s=⟨seq,false⟩)
theorem slotsV_set (l:List Slt) (j:Nat) (seq:Int) (h:l[j]? = some ⟨seq,false⟩):slotsV (l.set j ⟨seq,true⟩)=(slotsV l).set (j*2+1) (.bool true):=by
 induction l generalizing j with
 |nil=>cases h
 |cons s l ih=>
  have e:∀ (s:Slt) (l:List Slt),slotsV (s::l) = .int .i64 s.seq :: .bool s.done::slotsV l:=fun _ _=>rfl
  cases j with
  |zero=>
   cases h
   rfl
  |succ j=>
   rw [List.set_cons_succ,e,e,ih j (by simpa using h),show(j+1)*2+1=j*2+1+1+1 by omega]
   rfl
theorem index_any (A:Option Addr) (cap:Nat) (l:List Slt) (seq:Int) (w:World) (hl:l.length≤140737488355328) (hA:SlotsAt w w.heap.size A l) :
  Calls Try.prog 79 #[.slice A l.length cap, .agg #[.int .i64 seq, .bool false]] w fun e w'=>e = .returned (.int .i64 (idxP (isS seq) l 0))∧Below w.heap.size w w':=by
 obtain⟨X,hX⟩:∃ X,idxP (isS seq) l 0=X:=⟨_,rfl⟩
 rw [hX]
 obtain⟨N,hN⟩:∃ N,N=l.length:=⟨_,rfl⟩
 rw [←hN] at hl ⊢
 have HA:=Lib.hid hA
 have HN:=Lib.hid hN
 have HX:Hid (idxP (isS seq) (l.drop 0) ((0:Nat):Int)=X):=Lib.hid (by simpa using hX)
 clear hA hN hX
 go_enter Try.func79,Try.ntmps79
 go_upto_region 1 with(fail)
 go_simp
 refine wp_gen fun wa hq=>?_
 have hB:Blk wa w.heap.size 105 #[.int .i64 seq, .bool false]:=by rw [hq];exact Blk.new w _ _
 have hbl:Below w.heap.size w wa:=by rw [hq];exact(Below.refl _ _).alloc (Nat.le_refl _) _
 clear hq
 have hA0:=Lib.hid ((HA.out.below hbl).mono hbl.size)
 go_upto_region 2 with(fail)
 go_loopw [8] (fun v wr=>∃ k:Nat,v = .int .i64 k∧k≤N∧Below wa.heap.size wa wr∧Hid (idxP (isS seq) (l.drop k) k=X)) (fun v _=>N+1 - (intOf v).toNat)
 case atStart=>exact⟨0,rfl,Nat.zero_le _,Below.refl _ _,HX⟩
 case round=>
  clear HX
  obtain⟨k,rfl,hk,hb,Hk⟩:=hrel
  by_cases hlt:k<N
  ·have hk':k<l.length:=by rw [←HN.out];exact hlt
   obtain⟨b,o,rfl,hgB,c0,c1⟩:=(hA0.out.below hb).at_ hk'
   have hd:=idxP_drop (isS seq) l hk' (k:Int)
   have hBr:=hB.ext hb
   generalize l[k]'hk'=s at *
   obtain⟨sq,dn⟩:=s
   dsimp only at c0 c1
   have z1:b<wr.heap.size:=Nat.lt_of_lt_of_le hgB hb.size
   by_cases hs:isS seq ⟨sq,dn⟩=true
   ·obtain⟨rfl,rfl⟩:sq=seq∧dn=false:=by unfold isS at hs;simpa using hs
    have Hd:Hid ((k:Int)=X):=Lib.hid (by rw [if_pos hs] at hd;rw [←Hk.out,hd])
    have e1:(sq==sq)=true:=by simp
    clear hd Hk hs
    go_upto_region 4 with(fail)
    refine wp_region_below (by kernel_rfl) (by kernel_rfl) ?_
    repeat'(first
     |refine wpMix_plain rfl ?_
     |(refine' wpMixW_quiet _ (fun wq hwq K hK=>?_) ?_ ?_;rotate_left 1;(· have k0:=hwq.at_ z1 c0;have k1:=hwq.at_ z1 c1;have q0:wq.cell? ⟨w.heap.size,0,none⟩=some (.int .i64 sq):=(hBr.ext hwq).cell 0;have q1:wq.cell? ⟨w.heap.size,1,none⟩=some (.bool false):=(hBr.ext hwq).cell 1;go_wp2_with(fail);all_goals exact hK _ hwq);rfl)
     |((first | refine wpMix_guardT rfl rfl rfl ?_ ?_ | refine wpMix_guardF rfl rfl rfl ?_ ?_)<;>intro hc<;>first | (cases hc;done) | ((try cases hc);simp only [Act.put,sA,sS,sZ]))
     |refine wpMix_guardU rfl rfl rfl ?_)
    all_goals
     refine wpMix_nil ?_
     intro w9 hw9
     go_wp2
     go_ret
     exact⟨by rw [←Hd.out];rfl,hbl.trans ((hb.trans (hw9.mono hb.size)).mono hbl.size)⟩
   ·have Hd:Hid (idxP (isS seq) (l.drop (k+1)) ((k+1:Nat):Int)=X):=Lib.hid (by rw [if_neg hs] at hd;rw [←Hk.out,hd];rfl)
    have hne:sq=seq→dn=true:=fun e=>by
     subst e
     cases dn with
     |true=>rfl
     |false=>exact absurd (by unfold isS;simp) hs
    clear hd Hk hs
    by_cases hq:sq=seq
    ·obtain rfl:=hne hq
     subst hq
     clear hne
     have e1:(sq==sq)=true:=by simp
     go_upto_region 4 with(fail)
     refine wp_region_below (by kernel_rfl) (by kernel_rfl) ?_
     repeat'(first
      |refine wpMix_plain rfl ?_
      |(refine' wpMixW_quiet _ (fun wq hwq K hK=>?_) ?_ ?_;rotate_left 1;(· have k0:=hwq.at_ z1 c0;have k1:=hwq.at_ z1 c1;have q0:wq.cell? ⟨w.heap.size,0,none⟩=some (.int .i64 sq):=(hBr.ext hwq).cell 0;have q1:wq.cell? ⟨w.heap.size,1,none⟩=some (.bool false):=(hBr.ext hwq).cell 1;go_wp2_with(fail);all_goals exact hK _ hwq);rfl)
      |((first | refine wpMix_guardT rfl rfl rfl ?_ ?_ | refine wpMix_guardF rfl rfl rfl ?_ ?_)<;>intro hc<;>first | (cases hc;done) | ((try cases hc);simp only [Act.put,sA,sS,sZ]))
      |refine wpMix_guardU rfl rfl rfl ?_)
     all_goals
      refine wpMix_nil ?_
      intro w9 hw9
      go_wp2
      go_roundw
      case rel=>exact⟨k+1,by go_num,by omega,hb.trans (hw9.mono hb.size),Hd⟩
      case measure=>simp [intOf];omega
    ·have e1:(seq==sq)=false:=by simp;omega
     clear hne hq
     go_upto_region 4 with(fail)
     refine wp_region_below (by kernel_rfl) (by kernel_rfl) ?_
     repeat'(first
      |refine wpMix_plain rfl ?_
      |(refine' wpMixW_quiet _ (fun wq hwq K hK=>?_) ?_ ?_;rotate_left 1;(· have k0:=hwq.at_ z1 c0;have k1:=hwq.at_ z1 c1;have q0:wq.cell? ⟨w.heap.size,0,none⟩=some (.int .i64 seq):=(hBr.ext hwq).cell 0;have q1:wq.cell? ⟨w.heap.size,1,none⟩=some (.bool false):=(hBr.ext hwq).cell 1;go_wp2_with(fail);all_goals exact hK _ hwq);rfl)
      |((first | refine wpMix_guardT rfl rfl rfl ?_ ?_ | refine wpMix_guardF rfl rfl rfl ?_ ?_)<;>intro hc<;>first | (cases hc;done) | ((try cases hc);simp only [Act.put,sA,sS,sZ]))
      |refine wpMix_guardU rfl rfl rfl ?_)
     all_goals
      refine wpMix_nil ?_
      intro w9 hw9
      go_wp2
      go_roundw
      case rel=>exact⟨k+1,by go_num,by omega,hb.trans (hw9.mono hb.size),Hd⟩
      case measure=>simp [intOf];omega
  ·obtain rfl:k=N:=by omega
   have e1:decide ((k:Int)<k)=false:=by simp
   have Hd:Hid ((-1:Int)=X):=Lib.hid (by rw [←Hk.out,HN.out,List.drop_length];rfl)
   clear Hk
   go_wp2
   go_ret
   exact⟨by rw [←Hd.out];rfl,hbl.trans (hb.mono hbl.size)⟩
def DonePost (w:World) (l:List Slt) (seq:Int) (e:Ending) (w':World):Prop:=
 Below w.heap.size w w'∧match doneP l seq with
   |none=>e = .returned (.tuple #[.slice none 0 0, .bool false])
   |some k=>∃ v,e = .returned (.tuple #[v, .bool true])∧SlotsPost w k v w'
theorem doneP_isS (l:List Slt) (seq:Int):doneP l seq=(if idxP (isS seq) l 0<0 then none else some (l.set (idxP (isS seq) l 0).toNat ⟨seq,true⟩)):=doneP_idx l seq
theorem done_any (A:Option Addr) (cap:Nat) (l:List Slt) (seq:Int) (w:World) (hl:l.length*16≤140737488351232) (hA:SlotsAt w w.heap.size A l) (hnil:A=none→l=[]∧cap=0) :
  Calls Try.prog 56 #[.slice A l.length cap, .int .i64 seq] w (DonePost w l seq):=by
 have CI:=Lib.hid (fun W hW=>index_any A cap l seq W (by omega) hW)
 have hx:=doneP_isS l seq
 rcases idxP_cases (isS seq) l 0 with⟨h1,_⟩ | ⟨j,s,h1,h2,h3,_⟩
 ·have h1':idxP (isS seq) l 0 = -1:=h1
  rw [h1'] at CI hx
  rw [if_pos (by omega)] at hx
  have HX:=Lib.hid hx
  clear hx h1 h1'
  generalize l.length=N at *
  go_enter Try.func56,Try.ntmps56
  go_wp2_with(go_at_call 79;(with_reducible refine(CI.out _ hA).mono ?_);rintro e w2 ⟨rfl,hb2⟩)
  go_ret2
  refine⟨hb2,?_⟩
  rw [HX.out]
  rfl
 ·have h1':idxP (isS seq) l 0=(j:Int):=by simpa using h1
  rw [h1'] at CI hx
  rw [if_neg (by omega),Int.toNat_natCast] at hx
  obtain rfl:s=⟨seq,false⟩:=by unfold isS at h3;simpa using h3
  have hj:j<l.length:=(List.getElem?_eq_some_iff.1 h2).1
  have hset:=slotsV_set l j seq h2
  have HX:=Lib.hid hx
  have HS:=Lib.hid hset
  have CL:=Lib.hid (fun W (hW:SlotsAt W W.heap.size A l)=>cloneSlots_any A l.length cap (slotsV l) W (by omega) (slotsV_len l) (slotsV_oneCell l) hW.cells (fun e=>by rw [(hnil e).1];rfl))
  have hlen:(l.set j ⟨seq,true⟩).length=l.length:=List.length_set
  have HL:=Lib.hid hlen
  have hcv:=(slotsV_at l j _ h2).2
  clear hx h1 h1' hset h2 h3 hlen
  generalize hN:l.length=N at *
  go_enter Try.func56,Try.ntmps56
  go_upto_region 4 with(go_at_call 79;(with_reducible refine(CI.out _ hA).mono ?_);rintro e w2 ⟨rfl,hb2⟩)
  try go_simp
  have hA2:=(hA.below hb2).mono hb2.size
  go_upto_region 5 with(go_at_call 42;(with_reducible refine(CL.out _ hA2).mono ?_);rintro e w3 ⟨v3,rfl,hown3,hb3⟩)
  try go_simp
  obtain⟨g,c3,hv,hgb,hgl⟩:=hown3.form (by omega)
  subst hv
  have hc:w3.cell? ⟨g,j*2+1,none⟩=some (.bool false):=(hown3.cellAt (j*2+1) (by omega)).trans hcv
  have hfz:=hown3.frozenAt (j*2+1)
  have Hown:=Lib.hid hown3
  clear hown3
  go_wp2
  go_ret2
  have e1:=Hown.out.stored (j*2+1) (.bool true)
  have hb9:=(hb2.trans (hb3.mono hb2.size)).setCell (p:=⟨g,j*2+1,none⟩) (by have:=hb2.size;simp;omega) (.bool true)
  refine⟨hb9,?_⟩
  rw [HX.out]
  refine⟨.slice (some ⟨g,0,none⟩) N c3,rfl,?_⟩
  unfold SlotsPost
  rw [HS.out,HL.out]
  exact own_low e1.1 hb2.size
def sliceLen':Value→Nat
 |.slice _ n _=>n
 |_=>0
def PopPost (w:World) (l:List Slt) (most:Int) (e:Ending) (w':World):Prop:=
 Below w.heap.size w w'∧∃ v u,e = .returned (.tuple #[v,u])∧SlotsPost w (l.drop (popK l most)) v w'∧w'.ownsRow w.heap.size 3 1 u (popK l most) (((l.take (popK l most)).map (·.seq)).map (Value.int .i64))
theorem ints_info8:(Try.prog.info? 3).map (fun i=>(i.zero,i.size,i.bytes))=some (some (.int .i64 0),1,8):=by kernel_rfl
theorem popK_drop (l:List Slt) {k:Nat} (hk:k<l.length) (z:Int):popK (l.drop k) z=if 0<z∧(l[k]'hk).done=true then 1+popK (l.drop (k+1)) (z - 1) else 0:=by
 rw [List.drop_eq_getElem_cons hk]
 rfl
theorem SlotsAt.tail {w:World} {B b o:Nat} {s:Slt} {l:List Slt} (h:SlotsAt w B (some ⟨b,o,none⟩) (s::l)):SlotsAt w B (some ⟨b,o+2,none⟩) l:=fun _=>by
 obtain⟨b',o',he,hb,hc⟩:=h (by simp)
 injection he with he
 injection he with h1 h2
 subst h1 h2
 refine⟨b,o+2,rfl,hb,fun j u hj=>?_⟩
 have e:slotsV (s::l) = .int .i64 s.seq :: .bool s.done::slotsV l:=rfl
 have:=hc (j+1+1) u (by rw [e];simpa using hj)
 rw [show o+2+j=o+(j+1+1) by omega]
 exact this
theorem _root_.Go.World.ownsRow.keptBelow {w w':World} {base:Nat} {e:TypeId} {size:Nat} {v:Value} {n:Nat} {xs:List Value} (h:w.ownsRow base e size v n xs) (hb:Below w.heap.size w w') (_hk:∀ j,v.ownBlock=some j→j<w.heap.size):w'.ownsRow base e size v n xs:=
 ⟨h.1,h.2.imp id fun⟨g,cap,cur,hv,l,hh,r⟩=>⟨g,cap,cur,hv,l,by
  have hg:g<w.heap.size:=(Array.getElem?_eq_some_iff.1 hh).1
  rw [←hh]
  exact hb.block g hg,r⟩⟩
theorem pop_any (A:Option Addr) (cap:Nat) (l:List Slt) (most:Int) (w:World) (hl:l.length*16≤140737488351232) (hcap:l.length≤cap) (hcm:cap≤9223372036854775807) (hA:SlotsAt w w.heap.size A l) (hnil:A=none→l=[]∧cap=0) :
  Calls Try.prog 18 #[.slice A l.length cap, .int .i64 most] w (PopPost w l most):=by
 obtain⟨N,hN⟩:∃ N,N=l.length:=⟨_,rfl⟩
 have HN:=Lib.hid hN
 rw [←hN] at hl hcap ⊢
 have H0:Hid (SlotsAt w w.heap.size A (l.drop 0)∧(A=none→N - 0=0∧cap=0)∧popK l most=0+popK (l.drop 0) (most - (0:Nat))):=Lib.hid ⟨by simpa using hA,fun e=>⟨by rw [hN,(hnil e).1];rfl,(hnil e).2⟩,by simp⟩
 clear hA hnil hN
 obtain⟨i0,hi,hz0,hz1,hz2⟩:=info_parts ints_info8
 go_enter Try.func18,Try.ntmps18
 go_upto_region 2 with(fail)
 go_loopw [0,6] (fun v0 v6 wr=>∃ (k:Nat) (A':Option Addr) (c':Nat) (AI:Option Addr) (cI:Nat),v0 = .slice A' (N - k) c'∧v6 = .slice AI k cI∧k≤N∧N - k≤c'∧c'≤9223372036854775807∧Below w.heap.size w wr∧wr.ownsRow w.heap.size 3 1 (.slice AI k cI) k (((l.take k).map (·.seq)).map (Value.int .i64))∧Hid (SlotsAt w w.heap.size A' (l.drop k)∧(A'=none→N - k=0∧c'=0)∧popK l most=k+popK (l.drop k) (most - k))) (fun v0 _ _=>N+1+sliceLen' v0)
 case atStart=>exact⟨0,A,cap,none,0,rfl,rfl,Nat.zero_le _,hcap,hcm,Below.refl _ _,by simpa using World.ownsRow_nil _ _ _ _,H0⟩
 case round=>
  clear H0
  obtain⟨k,A',c',AI,cI,rfl,rfl,hk,hkc,hcm',hb,hI,Hrel⟩:=hrel
  obtain⟨hS,hn,hp⟩:=Hrel.out
  clear Hrel
  by_cases hlt:k<N∧(k:Int)<most
  ·have hk':k<l.length:=by rw [←HN.out];exact hlt.1
   have hk0:0<(l.drop k).length:=by rw [List.length_drop];omega
   obtain⟨b,o,hAe,hgB,c0,c1⟩:=hS.at_ hk0
   have hq:=popK_drop l hk' (most - k)
   have hge:(l.drop k)[0]'hk0=l[k]'hk':=by simp
   rw [hge] at c0 c1
   have htk:(l.take (k+1)).map (·.seq)=(l.take k).map (·.seq)++[(l[k]'hk').seq]:=by rw [List.take_succ_eq_append_getElem hk',List.map_append];rfl
   generalize l[k]'hk'=s at *
   obtain⟨sq,dn⟩:=s
   dsimp only at c0 c1 hq htk
   have e1:decide ((k:Int)<most)=true:=decide_eq_true hlt.2
   have e2:decide (0<N - k)=true:=decide_eq_true (by omega)
   have z1:b<wr.heap.size:=Nat.lt_of_lt_of_le hgB hb.size
   have d0:wr.cell? ⟨b,o,none⟩=some (.int .i64 sq):=(hb.cell (p:=⟨b,o,none⟩) hgB).trans (by simpa using c0)
   have d1:wr.cell? ⟨b,o+1,none⟩=some (.bool dn):=(hb.cell (p:=⟨b,o+1,none⟩) hgB).trans (by simpa using c1)
   clear c0 c1 hge
   subst hAe
   cases dn with
   |true=>
    have HQ:Hid (popK l most=(k+1)+popK (l.drop (k+1)) (most - ((k+1:Nat):Int))):=Lib.hid (by
     rw [hp,hq,if_pos ⟨by omega,rfl⟩,show most - (k:Int) - 1=most - ((k+1:Nat):Int) by omega]
     omega)
    have HS:=Lib.hid hS
    have HT:=Lib.hid htk
    have hk1:k<N:=hlt.1
    clear hp hq hS htk hn hlt
    go_upto_region 4 with(at_builtin;refine wpList_append_any rfl (.tmp 22) (.tmp 27) 29 rfl w.heap.size 3 i0 _ 1 8 Try.underlying29 hi hz0 hz1 hz2 rfl (by decide) (.slice AI k cI) k _ rfl (hI.alloc _) (some ⟨wr.heap.size,0,none⟩) 1 1 [.int .i64 sq] rfl rfl (fun h=>by cases h) (lit_one wr _ _) (by simp;rfl) (by unfold maxLen;omega) (by omega) (by have:=hb.size;simp;omega) ?_;intro v7 w7 hown7 hg7)
    try go_simp
    have b1:1≤N - k:=by omega
    have b2:decide ((N - k:Nat)<1)=false:=decide_eq_false (by omega)
    obtain⟨A7,c7,rfl⟩:=own_value hown7
    have hb7:Below w.heap.size w w7:=(hb.alloc hb.size _).grown hg7 (by have:=hb.size;simp;omega) (fun j hj=>(hI.lt j hj).1)
    have hown8:w7.ownsRow w.heap.size 3 1 (.slice A7 (k+1) c7) (k+1) (((l.take (k+1)).map (·.seq)).map (Value.int .i64)):=by
     rw [HT.out,List.map_append]
     exact hown7
    have hS2:SlotsAt w w.heap.size (if c'=1 then some ⟨b,o,none⟩ else some ⟨b,o+2,none⟩) (l.drop (k+1)):=by
     by_cases h1:c'=1
     ·have:l.drop (k+1)=[]:=List.drop_eq_nil_of_le (by rw [←HN.out];omega)
      rw [this]
      exact fun h=>absurd rfl h
     ·rw [if_neg h1]
      have:=HS.out
      rw [List.drop_eq_getElem_cons hk'] at this
      exact this.tail
    have HF:=Lib.hid (And.intro hS2 (And.intro (show(if c'=1 then some (⟨b,o,none⟩:Addr) else some ⟨b,o+2,none⟩)=none→N - (k+1)=0∧c' - 1=0 from fun e=>by split at e<;>cases e) HQ.out))
    clear hS2 HS hg7 hown7 hI
    have hNk:N - (k+1)=N - k - 1:=by omega
    go_wp2
    go_roundw
    case rel=>exact⟨k+1,_,c' - 1,A7,c7,by rw [hNk],rfl,by omega,by omega,by omega,hb7,hown8,HF.out.imp id id |> Lib.hid⟩
    case measure=>simp [sliceLen'];omega
   |false=>
    have hp0:popK l most=k:=by rw [hp,hq,if_neg (by simp)];omega
    have b1:0<N - k:=by have:=hlt.1;omega
    clear hq htk hlt
    have HP:=Lib.hid hp0
    have hSl:(slotsV (l.drop k)).length=(N - k)*2:=by rw [slotsV_len,List.length_drop,←HN.out]
    have CL:=Lib.hid (fun W (hW:SlotsAt W W.heap.size (some ⟨b,o,none⟩) (l.drop k))=>cloneSlots_any (some ⟨b,o,none⟩) (N - k) c' (slotsV (l.drop k)) W (by omega) hSl (slotsV_oneCell _) hW.cells (fun e=>(hn e).1))
    have hSr:=(hS.below hb).mono hb.size
    clear hp0 hp hS hn hSl
    go_wp2_with(go_at_call 42;(with_reducible refine(CL.out _ hSr).mono ?_);rintro e w5 ⟨v5,rfl,hown5,hb5⟩)
    go_ret2
    refine⟨hb.trans (hb5.mono hb.size),v5, .slice AI k cI,rfl,?_,?_⟩
    ·unfold SlotsPost
     rw [HP.out,List.length_drop,←HN.out]
     exact own_low hown5 hb.size
    ·rw [HP.out]
     have hk2:∀ j,(Value.slice AI k cI).ownBlock=some j→j<wr.heap.size:=fun j hj=>(hI.lt j hj).2
     exact hI.keptBelow hb5 hk2
  ·by_cases hm:(k:Int)<most
   ·have hkN:k=N:=by omega
    have hp0:popK l most=k:=by
     rw [hp,List.drop_eq_nil_of_le (by rw [←HN.out];omega)]
     rfl
    have e1:decide ((k:Int)<most)=true:=decide_eq_true hm
    have e2:decide (0<N - k)=false:=decide_eq_false (by omega)
    clear hlt hm hkN
    have HP:=Lib.hid hp0
    have hSl:(slotsV (l.drop k)).length=(N - k)*2:=by rw [slotsV_len,List.length_drop,←HN.out]
    have CL:=Lib.hid (fun W (hW:SlotsAt W W.heap.size A' (l.drop k))=>cloneSlots_any A' (N - k) c' (slotsV (l.drop k)) W (by omega) hSl (slotsV_oneCell _) hW.cells (fun e=>(hn e).1))
    have hSr:=(hS.below hb).mono hb.size
    clear hp0 hp hS hn hSl
    go_wp2_with(go_at_call 42;(with_reducible refine(CL.out _ hSr).mono ?_);rintro e w5 ⟨v5,rfl,hown5,hb5⟩)
    go_ret2
    refine⟨hb.trans (hb5.mono hb.size),v5, .slice AI k cI,rfl,?_,?_⟩
    ·unfold SlotsPost
     rw [HP.out,List.length_drop,←HN.out]
     exact own_low hown5 hb.size
    ·rw [HP.out]
     have hk2:∀ j,(Value.slice AI k cI).ownBlock=some j→j<wr.heap.size:=fun j hj=>(hI.lt j hj).2
     exact hI.keptBelow hb5 hk2
   ·have hp0:popK l most=k:=by rw [hp,popK_neg _ (by omega)];omega
    have e1:decide ((k:Int)<most)=false:=decide_eq_false hm
    clear hlt hm
    have HP:=Lib.hid hp0
    have hSl:(slotsV (l.drop k)).length=(N - k)*2:=by rw [slotsV_len,List.length_drop,←HN.out]
    have CL:=Lib.hid (fun W (hW:SlotsAt W W.heap.size A' (l.drop k))=>cloneSlots_any A' (N - k) c' (slotsV (l.drop k)) W (by omega) hSl (slotsV_oneCell _) hW.cells (fun e=>(hn e).1))
    have hSr:=(hS.below hb).mono hb.size
    clear hp0 hp hS hn hSl
    go_wp2_with(go_at_call 42;(with_reducible refine(CL.out _ hSr).mono ?_);rintro e w5 ⟨v5,rfl,hown5,hb5⟩)
    go_ret2
    refine⟨hb.trans (hb5.mono hb.size),v5, .slice AI k cI,rfl,?_,?_⟩
    ·unfold SlotsPost
     rw [HP.out,List.length_drop,←HN.out]
     exact own_low hown5 hb.size
    ·rw [HP.out]
     have hk2:∀ j,(Value.slice AI k cI).ownBlock=some j→j<wr.heap.size:=fun j hj=>(hI.lt j hj).2
     exact hI.keptBelow hb5 hk2
def CutPost (w:World) (l:List Slt) (seq:Int) (e:Ending) (w':World):Prop:=
 Below w.heap.size w w'∧∃ v u,e = .returned (.tuple #[v,u])∧SlotsPost w (cutL l seq) v w'∧w'.ownsRow w.heap.size 3 1 u (cutO l seq).length ((cutO l seq).map (Value.int .i64))
theorem cutL_take (l:List Slt) (seq:Int) {k:Nat} (hk:k<l.length):cutL (l.take (k+1)) seq=if (l[k]'hk).seq<seq then cutL (l.take k) seq++[l[k]'hk] else cutL (l.take k) seq:=by
 unfold cutL
 rw [List.take_succ_eq_append_getElem hk,List.filter_append]
 by_cases h:(l[k]'hk).seq<seq
 ·rw [if_pos h];simp [h]
 ·rw [if_neg h];simp [h]
theorem lit_slt (w:World) (sq:Int) (dn:Bool) (t:TypeId):∀ ad,some (⟨w.heap.size,0,none⟩:Addr)=some ad→∀ j v,(slotsV [⟨sq,dn⟩])[j]? = some v→(w.alloc (.cells #[.int .i64 sq, .bool dn] t)).cell? (ad.add j)=some v:=by
 intro ad h j v hj
 cases h
 rw [Addr.add_lit,Nat.zero_add,World.cell?_alloc_new]
 have e:slotsV [⟨sq,dn⟩]=[.int .i64 sq, .bool dn]:=rfl
 rw [e] at hj
 simpa using hj
theorem own_apart {w:World} {b1 b2:Nat} {e1 e2:TypeId} {s1 s2:Nat} {v1 v2:Value} {n1 n2:Nat} {x1 x2:List Value} (h1:w.ownsRow b1 e1 s1 v1 n1 x1) (h2:w.ownsRow b2 e2 s2 v2 n2 x2) (he:e1≠e2):v1.ownBlock=none∨v1.ownBlock≠v2.ownBlock:=by
 rcases h1.2 with⟨rfl,_⟩ | ⟨g1,c1,cur1,rfl,_,hh1,_⟩
 ·exact Or.inl rfl
 ·rcases h2.2 with⟨rfl,_⟩ | ⟨g2,c2,cur2,rfl,_,hh2,_⟩
  ·right;intro h;cases h
  ·right
   intro h
   have hg:g1=g2:=by simpa [Value.ownBlock] using h
   subst hg
   rw [hh1] at hh2
   injection hh2 with hh2
   injection hh2 with _ hh2
   exact he hh2
theorem slotInt_ne:105≠3:=by decide
end Go.Proofs.Ytapgojgcmlnbgac
namespace Go.Proofs.Ytapgojgcmlnbgac
open Go.RowKit Go.Sort Go.Lib
theorem swapped {w wr:World} {n blk off:Nat} {dk:Array Int} {i j:Nat} (hi:i<dk.size) (hj:j<dk.size) (hwr:wr=putRow (Value.int .i64) (Sort.ahead w n) blk off dk)
  {x y:Value} (hx:x=Value.int .i64 dk[j]!) (hy:y=Value.int .i64 dk[i]!):((wr.setCell ⟨blk,off+i,none⟩ x).setCell ⟨blk,off+j,none⟩ y).drew=putRow (Value.int .i64) (Sort.ahead w (n+1)) blk off (swp dk i j):=by
 subst hwr;subst hx;subst hy
 rw [putRow_swp (Value.int .i64) _ blk off dk i j hi hj,←ahead_drew]
 rfl
theorem reverse_arr (blk off cap:Nat) (d:Array Int) (w:World) (hH:Holds (Value.int .i64) w blk off d) (hsz:d.size≤9223372036854775807) :
  Calls Try.prog 80 #[.slice (some ⟨blk,off,none⟩) d.size cap] w fun e w'=>e = .returned (.tuple #[])∧∃ n,w'=putRow (Value.int .i64) (Sort.ahead w n) blk off d.reverse:=by
 go_enter Try.func80,Try.ntmps80
 go_wp2
 go_loopg [2,3] d.size (fun k s2 s3 wr=>∃ (i jn:Nat) (jz:Int) (dk:Array Int) (n:Nat),s2 = .int .i64 i∧s3 = .int .i64 jz∧((i:Int)<jz→jz=jn∧jn<d.size)∧(¬ (i:Int)<jz→¬ i<jn)∧jn - i≤k ∧
  dk.size=d.size∧wr=putRow (Value.int .i64) (Sort.ahead w n) blk off dk∧reverseLoop i jn dk=reverseLoop 0 (d.size - 1) d)
 case atStart=>exact⟨0,d.size - 1,(d.size:Int) - 1,d,0,rfl,rfl,fun h=>⟨by omega,by omega⟩,fun h=>by omega,by omega,rfl,(putRow_self (Value.int .i64) w blk off d hH).symm,rfl⟩
 case round=>
  obtain⟨i,jn,jz,dk,n,rfl,rfl,h1,h2,hk,hds,hwr,heq⟩:=hrel
  by_cases hlt:(i:Int)<jz
  ·obtain⟨rfl,hjn⟩:=h1 hlt
   have hij:i<jn:=by omega
   have hHk:Holds (Value.int .i64) wr blk off dk:=by rw [hwr];exact holds_putRow (Value.int .i64) _ blk off d dk (holds_ahead (Value.int .i64) w n blk off d hH) hds
   obtain⟨ci,fi⟩:=hHk i (by omega)
   obtain⟨cj,fj⟩:=hHk jn (by omega)
   have A:Aside (wr=putRow (Value.int .i64) (Sort.ahead w n) blk off dk):=hwr
   clear hwr hHk hH h1 h2
   go_wp2_with fail
   go_region
   go_wp2
   go_roundg (jn - 1 - (i+1))
   case measure=>omega
   case rel=>
    rw [reverseLoop,if_pos hij] at heq
    exact⟨i+1,jn - 1,(jn:Int) - 1,swp dk i jn,n+1,by simp,rfl,fun h=>⟨by omega,by omega⟩,fun h=>by omega,Nat.le_refl _,by rw [size_swp];exact hds,
     swapped (by omega) (by omega) A.out (by first | rfl | simp [getElem!_pos,show jn<dk.size by omega]) (by first | rfl | simp [getElem!_pos,show i<dk.size by omega]),heq⟩
  ·have hnot:=h2 hlt
   go_wp2
   go_end0
   refine⟨rfl,n,?_⟩
   rw [reverseLoop,if_neg hnot] at heq
   rw [←Lib.reverseLoop_reverse,←heq]
theorem reverse_any (blk off cap:Nat) (zs:List Int) (w:World) (hH:Holds (Value.int .i64) w blk off zs.toArray) (hsz:zs.length≤9223372036854775807) :
  Calls Try.prog 80 #[.slice (some ⟨blk,off,none⟩) zs.length cap] w fun e w'=>e = .returned (.tuple #[])∧∃ n,w'=putRow (Value.int .i64) (Sort.ahead w n) blk off zs.reverse.toArray:=by
 have h:=reverse_arr blk off cap zs.toArray w hH (by simpa using hsz)
 simpa using h
theorem reverse_none (a:Option Addr) (cap:Nat) (w:World) :
  Calls Try.prog 80 #[.slice a 0 cap] w fun e w'=>e = .returned (.tuple #[])∧w'=w:=by
 go_enter Try.func80,Try.ntmps80
 go_wp2
 go_loopg [2,3] 0 (fun _ s2 s3 wr=>s2 = .int .i64 0∧s3 = .int .i64 (-1)∧wr=w)
 case atStart=>exact⟨rfl,rfl,rfl⟩
 case round=>
  obtain⟨rfl,rfl,rfl⟩:=hrel
  go_wp2
  go_end0
  exact⟨rfl,rfl⟩
end Go.Proofs.Ytapgojgcmlnbgac
namespace Go.Proofs.Ytapgojgcmlnbgac
open Go.RowKit
def goneF (l:List Slt) (seq:Int) (k:Nat):List Int:=((l.take k).filter fun s=>decide (seq≤s.seq)).map (·.seq)
theorem goneF_succ (l:List Slt) (seq:Int) {k:Nat} (hk:k<l.length):goneF l seq (k+1)=if (l[k]'hk).seq<seq then goneF l seq k else goneF l seq k++[(l[k]'hk).seq]:=by
 unfold goneF
 rw [List.take_succ_eq_append_getElem hk,List.filter_append,List.map_append]
 by_cases h:(l[k]'hk).seq<seq
 ·rw [if_pos h];simp [h]
 ·rw [if_neg h];simp [show seq≤(l[k]'hk).seq by omega]
theorem goneF_all (l:List Slt) (seq:Int):(goneF l seq l.length).reverse=cutO l seq:=by
 unfold goneF cutO
 rw [List.take_length]
theorem reverse_own {w:World} {base:Nat} {v:Value} {n:Nat} {zs:List Int} (h:w.ownsRow base 3 1 v n (zs.map (Value.int .i64))) (hn:n≤9223372036854775807) :
  Calls Try.prog 80 #[v] w fun e w'=>e = .returned (.tuple #[])∧w'.ownsRow base 3 1 v n (zs.reverse.map (Value.int .i64))∧w.grownBy w' v.ownBlock:=by
 by_cases hv:v = .slice none 0 0
 ·subst hv
  have h0:n=0:=by
   rcases h.2 with⟨_,h0⟩ | ⟨g,c,cur,e,_⟩
   ·exact h0
   ·cases e
  subst h0
  have hz:zs=[]:=List.eq_nil_of_length_eq_zero (by simpa using h.1)
  subst hz
  refine(reverse_none none 0 w).mono ?_
  rintro e w' ⟨rfl,rfl⟩
  exact⟨rfl,World.ownsRow_nil _ _ _ _,⟨rfl,rfl,rfl,Nat.le_refl _,fun _ _ _=>rfl⟩⟩
 ·obtain⟨g,cap,rfl,hbg,_,_,_,hlen,hH⟩:=Lib.holds_of_ownsRow h hv
  have hrev:=reverse_any g 0 cap zs w hH (by omega)
  rw [hlen] at hrev
  refine hrev.mono ?_
  rintro e w' ⟨rfl,q,rfl⟩
  have hy:zs.reverse.length=n:=by simpa using hlen
  have h1:=Lib.ownsRow_putRow (q:=q) (ys:=zs.reverse) h hy (Nat.le_refl n)
  rw [List.take_of_length_le (Nat.le_of_eq hy)] at h1
  refine⟨rfl,h1,⟨rfl,rfl,rfl,by simp [Sort.putRow,Sort.mapBlock,Sort.ahead],fun k _ hk=>?_⟩⟩
  have hgk:g≠k:=fun e=>hk (by subst e;rfl)
  simp [Sort.putRow,Sort.mapBlock,Sort.ahead,Array.getElem?_modify,hgk]
theorem cut_any (A:Option Addr) (cap:Nat) (l:List Slt) (seq:Int) (w:World) (hl:l.length*16≤140737488351232) (hA:SlotsAt w w.heap.size A l) :
  Calls Try.prog 57 #[.slice A l.length cap, .int .i64 seq] w (CutPost w l seq):=by
 obtain⟨N,hN⟩:∃ N,N=l.length:=⟨_,rfl⟩
 have HN:=Lib.hid hN
 rw [←hN] at hl ⊢
 have HA:=Lib.hid hA
 clear hA hN
 obtain⟨i0,hi,hz0,hz1,hz2⟩:=info_parts ints_info8
 obtain⟨j0,hj,hy0,hy1,hy2⟩:=info_parts cloneSlots_any_info
 go_enter Try.func57,Try.ntmps57
 go_upto_region 4 with(fail)
 go_loopw [6,7,12] (fun v6 v7 v8 wr=>∃ (k nl no:Nat) (xl xo:List Value) (AL:Option Addr) (cL:Nat) (AO:Option Addr) (cO:Nat),v6 = .slice AL nl cL∧v7 = .slice AO no cO∧v8 = .int .i64 k∧k≤N∧nl≤k∧no≤k∧Below w.heap.size w wr∧wr.ownsRow w.heap.size 105 2 (.slice AL nl cL) nl xl∧wr.ownsRow w.heap.size 3 1 (.slice AO no cO) no xo∧Hid (xl=slotsV (cutL (l.take k) seq))∧Hid (xo=(goneF l seq k).map (Value.int .i64))) (fun _ _ v8 _=>N+1 - (intOf v8).toNat)
 case atStart=>exact⟨0,0,0,[],[],none,0,none,0,rfl,rfl,rfl,Nat.zero_le _,Nat.le_refl _,Nat.le_refl _,Below.refl _ _,World.ownsRow_nil _ _ _ _,World.ownsRow_nil _ _ _ _,Lib.hid rfl,Lib.hid rfl⟩
 case round=>
  obtain⟨k,nl,no,xl,xo,AL,cL,AO,cO,rfl,rfl,rfl,hk,hnl,hno,hb,hL,hO,Hxl,Hxo⟩:=hrel
  by_cases hlt:k<N
  ·have hk':k<l.length:=by rw [←HN.out];exact hlt
   obtain⟨b,o,hAe,hgB,c0,c1⟩:=(HA.out.below hb).at_ hk'
   have hcl:=cutL_take l seq hk'
   have hgk:=goneF_succ l seq hk'
   generalize l[k]'hk'=s at *
   obtain⟨sq,dn⟩:=s
   dsimp only at c0 c1 hcl hgk
   subst hAe
   clear hk'
   go_upto_region 6 with(fail)
   try go_simp
   refine wp_gen fun wa hq=>?_
   have hB:Blk wa wr.heap.size 105 #[.int .i64 sq, .bool dn]:=by rw [hq];exact Blk.new wr _ _
   have hbl:Below wr.heap.size wr wa:=by rw [hq];exact(Below.refl _ _).alloc (Nat.le_refl _) _
   clear hq c0 c1
   have hLa:=hL.keptBelow hbl (fun j hj=>(hL.lt j hj).2)
   have hOa:=hO.keptBelow hbl (fun j hj=>(hO.lt j hj).2)
   have hba:Below w.heap.size w wa:=hb.trans (hbl.mono hb.size)
   have c0:wa.cell? ⟨wr.heap.size,0,none⟩=some (.int .i64 sq):=hB.cell 0
   have c1:wa.cell? ⟨wr.heap.size,1,none⟩=some (.bool dn):=hB.cell 1
   clear hB hbl hL hO
   by_cases h1:sq<seq
   ·rw [if_pos h1] at hcl hgk
    have e1:decide (sq<seq)=true:=decide_eq_true h1
    have HL1:=Lib.hid hcl
    have HO1:=Lib.hid hgk
    clear hcl hgk h1
    go_wp2_with(at_builtin;refine wpList_append_any rfl (.tmp 20) (.tmp 22) 56 rfl w.heap.size 105 j0 _ 2 16 Try.underlying56 hj hy0 hy1 hy2 rfl (by decide) (.slice AL nl cL) nl xl rfl (hLa.alloc _) (some ⟨wa.heap.size,0,none⟩) 1 1 (slotsV [⟨sq,dn⟩]) rfl rfl (fun h=>by cases h) (lit_slt wa sq dn _) (slotsV_oneCell _) (by unfold maxLen;omega) (by omega) (by have:=hba.size;simp;omega) ?_;intro v6' w6 hL6 hg6;obtain⟨AL6,cL6,rfl⟩:=own_value hL6)
    have hb6:Below w.heap.size w w6:=(hba.alloc hba.size _).grown hg6 (by have:=hba.size;simp;omega) (fun j hj=>(hLa.lt j hj).1)
    have hO6:=(hOa.alloc _).kept hg6 (own_apart hOa hLa slotInt_ne.symm)
    go_roundw
    case rel=>exact⟨k+1,nl+1,no,xl++slotsV [⟨sq,dn⟩],xo,AL6,cL6,AO,cO,rfl,rfl,by go_num,by omega,by omega,by omega,hb6,hL6,hO6,Lib.hid (by rw [HL1.out,Hxl.out,slotsV_append]),Lib.hid (by rw [HO1.out,Hxo.out])⟩
    case measure=>simp [intOf];omega
   ·rw [if_neg h1] at hcl hgk
    have e1:decide (sq<seq)=false:=decide_eq_false h1
    have HL1:=Lib.hid hcl
    have HO1:=Lib.hid hgk
    clear hcl hgk h1
    go_wp2_with(at_builtin;refine wpList_append_any rfl (.tmp 24) (.tmp 27) 29 rfl w.heap.size 3 i0 _ 1 8 Try.underlying29 hi hz0 hz1 hz2 rfl (by decide) (.slice AO no cO) no xo rfl (hOa.alloc _) (some ⟨wa.heap.size,0,none⟩) 1 1 [.int .i64 sq] rfl rfl (fun h=>by cases h) (lit_one wa _ _) (by simp;rfl) (by unfold maxLen;omega) (by omega) (by have:=hba.size;simp;omega) ?_;intro v7' w7 hO7 hg7;obtain⟨AO7,cO7,rfl⟩:=own_value hO7)
    have hb7:Below w.heap.size w w7:=(hba.alloc hba.size _).grown hg7 (by have:=hba.size;simp;omega) (fun j hj=>(hOa.lt j hj).1)
    have hL7:=(hLa.alloc _).kept hg7 (own_apart hLa hOa slotInt_ne)
    go_roundw
    case rel=>exact⟨k+1,nl,no+1,xl,xo++[.int .i64 sq],AL,cL,AO7,cO7,rfl,rfl,by go_num,by omega,by omega,by omega,hb7,hL7,hO7,Lib.hid (by rw [HL1.out,Hxl.out]),Lib.hid (by rw [HO1.out,Hxo.out,List.map_append];rfl)⟩
    case measure=>simp [intOf];omega
  ·obtain rfl:k=N:=by omega
   have e1:¬ k<k:=by omega
   have Q1:Hid (xl=slotsV (cutL l seq)):=Lib.hid (by rw [Hxl.out,HN.out,List.take_length])
   have hO2:wr.ownsRow w.heap.size 3 1 (.slice AO no cO) no ((goneF l seq k).map (Value.int .i64)):=by rw [←Hxo.out];exact hO
   have hrev:=reverse_own hO2 (by omega)
   clear Hxl Hxo
   go_wp2_with(with_reducible refine hrev.mono ?_;rintro e w2 ⟨rfl,hO9,hg9⟩;have hL9:=hL.kept hg9 (own_apart hL hO slotInt_ne);have hb9:=hb.grown hg9 hb.size (fun j hj=>(hO.lt j hj).1);clear hg9)
   rw [HN.out,goneF_all] at hO9
   go_ret2
   refine⟨hb9, .slice AL nl cL, .slice AO no cO,rfl,?_,?_⟩
   ·unfold SlotsPost
    have hn:nl=(cutL l seq).length:=by have:=hL9.1;rw [Q1.out,slotsV_len] at this;omega
    rw [←hn,←Q1.out]
    exact hL9
   ·have hn:no=(cutO l seq).length:=by have:=hO9.1;rw [List.length_map] at this;omega
    rw [←hn]
    exact hO9
end Go.Proofs.Ytapgojgcmlnbgac
