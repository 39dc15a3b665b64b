/- Parts of a proof. -/
import Derived.Test.YtapgojgcmlnbgaaGreatDoorTZ
import Derived.Test.YtapgojgcmlnbgaaGreatDoorT01
import Derived.Test.YtapgojgcmlnbgaaGreatDoorT00
import Derived.Lib.Hide
import Derived.Laws.AppendOwnNone
import Derived.Deep.AppendLies
import Derived.Test.YtapgojgcmlnbgaaGreatDoorProg
import Derived.WalkLawsBesides
import Derived.WalkSpells
import Derived.Outline
import Derived.Deep.Cut
set_option linter.unusedSimpArgs false
set_option linter.unusedVariables false
set_option maxRecDepth 100000
set_option maxHeartbeats 16000000
namespace Go.Proofs.YtapgojgcmlnbgaaGreatDoor
open Go
section
variable {P:Program} {ops:Array Oper}
def Na (P:Program) (o:Oper) (a:Act) (C:World→Prop) (R:World→World→Prop) (v:Value):Prop:=
 ∀ w,C w→o.wp P a w (fun a' w'=>a'=a.put o.dst v∧R w w') (fun _ _ _=>False)
def SOk (P:Program) (o:Oper) (a:Act) (C:World→Prop) (K:Act→World→Prop):Prop:=
 ∀ w,C w→o.wp P a w (fun a' w'=>(∃ v,a'=a.put o.dst v)∧K a' w') (fun _ _ _=>False)
theorem Na.of_put {oi oj:Oper} {v u:Value} {a:Act} {C:World→Prop} {R:World→World→Prop} (hap:oi.apart ops oj=true) (hsj:∀ cs b,oj.op ≠ .select cs b)
  (h:Na P oj (a.put oi.dst v) C R u):Na P oj a C R u:=by
 obtain⟨h1,h2,h3⟩:=Oper.apart_spec hap
 intro w hw
 have h:=h w hw
 unfold Oper.wp at *
 rw [execOp_put oj hsj a oi.dst v h1] at h
 generalize (execOp a.eval oj).run P w=r at *
 cases r with
 |ok n w'=>
  cases n<;>simp only [Oper.upon] at h ⊢
  case value z=>exact⟨Gh h2 h.1,h.2⟩
  case skip=>exact⟨Gh h2 h.1,h.2⟩
  case defer d=>exact(G3 (a:=a.put oi.dst v) h.1).elim
  case enter f args=>
   refine Calls.mono h fun e w'' he=>?_
   cases e with
   |returned z=>exact⟨Gh h2 he.1,he.2⟩
   |panicked c=>exact he
   |outgrown=>exact he
  case row row args=>exact Rows.mono h fun z w'' he=>⟨Gh h2 he.1,he.2⟩
 |halt x w'=>cases x<;>simp only [Oper.upon] at h
theorem Na.put {oi oj:Oper} {v u:Value} {a:Act} {C:World→Prop} {R:World→World→Prop} (hap:oi.apart ops oj=true) (hsi:∀ cs b,oi.op ≠ .select cs b)
  (h:Na P oi a C R v):Na P oi (a.put oj.dst u) C R v:=by
 obtain⟨h1,h2,h3⟩:=Oper.apart_spec hap
 have h2':∀ d,oj.dst=some d→oi.dst≠some d:=fun d hd he=>h2 d he hd
 intro w hw
 have h:=h w hw
 unfold Oper.wp at *
 rw [execOp_put oi hsi a oj.dst u h3]
 generalize (execOp a.eval oi).run P w=r at *
 have key:∀ z,a.put oi.dst z=a.put oi.dst v→(a.put oj.dst u).put oi.dst z=(a.put oj.dst u).put oi.dst v:=fun z hz=>by
  rw [Act.put_comm a u z h2',Act.put_comm a u v h2',hz]
 cases r with
 |ok n w'=>
  cases n<;>simp only [Oper.upon] at h ⊢
  case value z=>exact⟨key z h.1,h.2⟩
  case skip=>exact⟨key _ h.1,h.2⟩
  case defer d=>exact(G3 h.1).elim
  case enter f args=>
   refine Calls.mono h fun e w'' he=>?_
   cases e with
   |returned z=>exact⟨key z he.1,he.2⟩
   |panicked c=>exact he
   |outgrown=>exact he
  case row row args=>exact Rows.mono h fun z w'' he=>⟨key z he.1,he.2⟩
 |halt x w'=>cases x<;>simp only [Oper.upon] at h
theorem SOk.of_put {oi oj:Oper} {v:Value} {a:Act} {C:World→Prop} {K K':Act→World→Prop} (hap:oi.apart ops oj=true) (hsj:∀ cs b,oj.op ≠ .select cs b)
  (hK:∀ u w',K ((a.put oi.dst v).put oj.dst u) w'→K' (a.put oj.dst u) w') (h:SOk P oj (a.put oi.dst v) C K):SOk P oj a C K':=by
 obtain⟨h1,h2,h3⟩:=Oper.apart_spec hap
 intro w hw
 have h:=h w hw
 unfold Oper.wp at *
 rw [execOp_put oj hsj a oi.dst v h1] at h
 generalize (execOp a.eval oj).run P w=r at *
 cases r with
 |ok n w'=>
  cases n<;>simp only [Oper.upon] at h ⊢
  case value z=>exact⟨⟨_,rfl⟩,hK _ _ h.2⟩
  case skip=>exact⟨⟨_,rfl⟩,hK _ _ h.2⟩
  case defer d=>
   obtain⟨⟨u,hu⟩,_⟩:=h
   exact(G3 (a:=a.put oi.dst v) hu).elim
  case enter f args=>
   refine Calls.mono h fun e w'' he=>?_
   cases e with
   |returned z=>exact⟨⟨_,rfl⟩,hK _ _ he.2⟩
   |panicked c=>exact he
   |outgrown=>exact he
  case row row args=>exact Rows.mono h fun z w'' he=>⟨⟨_,rfl⟩,hK _ _ he.2⟩
 |halt x w'=>cases x<;>simp only [Oper.upon] at h
theorem SOk.mono {o:Oper} {a:Act} {C C':World→Prop} {K K':Act→World→Prop} (hC:∀ w,C' w→C w) (hK:∀ a w,K a w→K' a w) (h:SOk P o a C K):SOk P o a C' K':=
 fun w hw=>Oper.wp_mono (fun a' w' ⟨h1,h2⟩=>⟨h1,hK a' w' h2⟩) (h w (hC w hw))
def Zo (ops:Array Oper) (j i:Nat):Bool:=(Lg ops ops.size (((ops[j]?).map Lq).getD 0)).testBit i
def Mz (ops:Array Oper) (m:Nat) (j:Nat):Bool:=(List.range ops.size).all fun i=>i==j || m.testBit i || Zo ops j i || Zo ops i j
theorem Ri {listed:Array Bool} {i j:Nat} (hd:Down ops listed) (hr:j∈Region.ready .any ops listed) (hw:Zo ops j i=true):listed.getD i false=true:=by
 obtain⟨_,o,ho,hall⟩:=mem_ready.1 hr
 unfold Zo at hw
 rw [ho,Option.map_some,Option.getD_some] at hw
 refine Lh hd ops.size (Lq o) ?_ i hw
 intro b hm
 obtain⟨e,he,hb,rfl⟩:=K8 hm
 exact hall e he hb
theorem Vp {listed:Array Bool} {j:Nat} (h:j∈Region.ready .any ops listed):listed.getD j false=false:=by
 have hjun:=(mem_ready.1 h).1
 rcases Nat.lt_or_ge j listed.size with h' | h'
 ·simp [h'] at hjun ⊢;exact hjun
 ·simp [Array.getElem?_eq_none h']
theorem Ub {listed:Array Bool} {m i j:Nat} (hd:Down ops listed) (hi:i∈Region.ready .any ops listed) (hj:j∈Region.ready .any ops listed) (hne:j≠i) (hm:m.testBit i=false) (h:Mz ops m j=true):False:=by
 obtain⟨_,o,ho,_⟩:=mem_ready.1 hi
 unfold Mz at h
 rw [List.all_eq_true] at h
 have:=h i (List.mem_range.2 (Array.getElem?_eq_some_iff.1 ho).1)
 simp only [Bool.or_eq_true,beq_iff_eq,hm,Bool.false_eq_true,or_false] at this
 rcases this with(h1 | h1) | h1
 ·exact hne h1.symm
 ·have:=Ri hd hj h1
  rw [Vp hi] at this;cases this
 ·have:=Ri hd hi h1
  rw [Vp hj] at this;cases this
def opO (P:Program) (ops:Array Oper) (EM GM:Nat) (i:Nat) (K:Act→(World→Prop)→(World→Prop)→Prop) (a:Act) (G C:World→Prop):Prop:=
 ∃ o,ops[i]? = some o ∧
  ((Region.wanted o (yielded ops a.tmps)=true ∧
   ((EM.testBit i=true∧∃ v,Na P o a (fun _=>True) (fun w w'=>w'=w) v∧K (a.put o.dst v) G C) ∨
    (EM.testBit i=false∧GM.testBit i=true∧∃ v,Na P o a G (fun w w'=>w'=w) v∧K (a.put o.dst v) G C) ∨
    (EM.testBit i=false∧GM.testBit i=false∧∃ v,Na P o a G (fun _ w'=>G w') v∧K (a.put o.dst v) G G) ∨
    (EM.testBit i=false∧GM.testBit i=false∧Mz ops EM i=true∧SOk P o a C (fun a' w'=>∃ G' C',(∀ w,C' w→G' w)∧C' w'∧K a' G' C')) ∨
    (EM.testBit i=false∧GM.testBit i=false∧Mz ops (EM ||| GM) i=true∧SOk P o a C (fun a' w'=>∃ C',(∀ w,C' w→G w)∧C' w'∧K a' G C')))) ∨
   (Region.wanted o (yielded ops a.tmps)=false∧K (a.put o.dst undef) G C))
def P7 (P:Program) (ops:Array Oper) (EM GM:Nat) (Q:Exit→Act→World→Prop):Nat→Array Bool→Act→(World→Prop)→(World→Prop)→Prop
 |0,listed,a,_,C=>Region.ready .any ops listed=[]∧∀ w,C w→Q .normal a w
 |fuel+1,listed,a,G,C=>
  (Region.ready .any ops listed=[]→∀ w,C w→Q .normal a w) ∧
  ∀ i∈Region.ready .any ops listed,opO P ops EM GM i (fun a' G' C'=>P7 P ops EM GM Q fuel (listed.setIfInBounds i true) a' G' C') a G C
theorem Ad6 {EM GM:Nat} {Q:Exit→Act→World→Prop}:∀ (fuel:Nat) (listed:Array Bool) (a:Act) (G C:World→Prop) (w:World),(∀ w,C w→G w)→C w →
  P7 P ops EM GM Q fuel listed a G C→wpAny P .any ops Q fuel listed a w:=by
 intro fuel
 induction fuel with
 |zero=>intro listed a G C w _ hC h;exact⟨h.1,h.2 w hC⟩
 |succ fuel ih=>
  intro listed a G C w hG hC h
  refine⟨fun h0=>h.1 h0 w hC,fun i hi=>?_⟩
  obtain⟨o,ho,h1⟩:=h.2 i hi
  unfold wpOp
  simp only [ho]
  rcases h1 with⟨hw,h1⟩ | ⟨hw,h1⟩
  ·rw [if_pos hw]
   refine .inl ?_
   rcases h1 with⟨_,v,hq,hk⟩ | ⟨_,_,v,hq,hk⟩ | ⟨_,_,v,hq,hk⟩ | ⟨_,_,_,hq⟩ | ⟨_,_,_,hq⟩
   ·refine Oper.wp_mono ?_ (Hy (hq w trivial))
    rintro a' w' ⟨rfl,rfl⟩
    exact ih _ _ _ _ _ hG hC hk
   ·refine Oper.wp_mono ?_ (Hy (hq w (hG w hC)))
    rintro a' w' ⟨rfl,rfl⟩
    exact ih _ _ _ _ _ hG hC hk
   ·refine Oper.wp_mono ?_ (Hy (hq w (hG w hC)))
    rintro a' w' ⟨rfl,hC'⟩
    exact ih _ _ _ _ _ (fun _ h=>h) hC' hk
   ·refine Oper.wp_mono ?_ (Hy (hq w hC))
    rintro a' w' ⟨_,G',C',hG',hC',hk⟩
    exact ih _ _ _ _ _ hG' hC' hk
   ·refine Oper.wp_mono ?_ (Hy (hq w hC))
    rintro a' w' ⟨_,C',hG',hC',hk⟩
    exact ih _ _ _ _ _ hG' hC' hk
  ·rw [if_neg (by rw [hw];simp)]
   exact ih _ _ _ _ _ hG hC h1
inductive Reads (P:Program) (ops:Array Oper) (EM GM:Nat) (i:Nat) (o:Oper) (v:Value) (a:Act) (G:World→Prop):(World→Prop)→(World→Prop)→Prop
 |skip {C}:Region.wanted o (yielded ops a.tmps)=false→v=undef→Reads P ops EM GM i o v a G C C
 |ever {C}:Region.wanted o (yielded ops a.tmps)=true→EM.testBit i=true→Na P o a (fun _=>True) (fun w w'=>w'=w) v→Reads P ops EM GM i o v a G C C
 |reads {C}:Region.wanted o (yielded ops a.tmps)=true→EM.testBit i=false→GM.testBit i=true→Na P o a G (fun w w'=>w'=w) v→Reads P ops EM GM i o v a G C C
 |calls {C}:Region.wanted o (yielded ops a.tmps)=true→EM.testBit i=false→GM.testBit i=false→Na P o a G (fun _ w'=>G w') v→Reads P ops EM GM i o v a G C G
theorem Reads.opO {EM GM i:Nat} {o:Oper} {v:Value} {a:Act} {G C C2:World→Prop} {K:Act→(World→Prop)→(World→Prop)→Prop} (hi:ops[i]? = some o) (hy:Reads P ops EM GM i o v a G C C2) (h:K (a.put o.dst v) G C2):opO P ops EM GM i K a G C:=by
 refine⟨o,hi,?_⟩
 cases hy with
 |skip hw hv=>subst hv;exact .inr ⟨hw,h⟩
 |ever hw he hq=>exact .inl ⟨hw, .inl ⟨he,v,hq,h⟩⟩
 |reads hw he hg hq=>exact .inl ⟨hw, .inr (.inl ⟨he,hg,v,hq,h⟩)⟩
 |calls hw he hg hq=>exact .inl ⟨hw, .inr (.inr (.inl ⟨he,hg,v,hq,h⟩))⟩
theorem Zr {EM GM:Nat} {Q:Exit→Act→World→Prop} {i:Nat} {oi:Oper} {v:Value} (hi:ops[i]? = some oi) (hsel:∀ (j:Nat) (o:Oper) cs b,ops[j]? = some o→o.op ≠ .select cs b) :
  ∀ (fuel:Nat) (listed:Array Bool) (a:Act) (G C C2:World→Prop),Down ops listed→(∀ w,C w→G w) →
   (∀ j oj,ops[j]? = some oj→j≠i→listed.getD j true=false→(∀ e∈oj.after,Region.binds .any e=true→e.on≠i)→oi.apart ops oj=true) →
   i∈Region.ready .any ops listed→Reads P ops EM GM i oi v a G C C2 →
   P7 P ops EM GM Q fuel (listed.setIfInBounds i true) (a.put oi.dst v) G C2→P7 P ops EM GM Q (fuel+1) listed a G C:=by
 intro fuel
 induction fuel with
 |zero=>
  intro listed a G C C2 _ _ _ hr hy H
  refine⟨fun h=>(by rw [h] at hr;cases hr),fun j hj=>?_⟩
  by_cases hji:j=i
  ·subst hji;exact hy.opO hi H
  ·have:=ready_mono hj hji
   rw [H.1] at this
   cases this
 |succ fuel ih=>
  intro listed a G C C2 hdown hGC hfree hr hy H
  refine⟨fun h=>(by rw [h] at hr;cases hr),fun j hj=>?_⟩
  by_cases hji:j=i
  ·subst hji;exact hy.opO hi H
  ·obtain⟨oj,hoj,h1⟩:=H.2 j (ready_mono hj hji)
   obtain⟨hjun,oj',hoj',hall⟩:=mem_ready.1 hj
   rw [hoj] at hoj'
   cases hoj'
   have hiun:=Vp hr
   have hnot:∀ e∈oj.after,Region.binds .any e=true→e.on≠i:=fun e he hb heq=>by
    have h1:=hall e he hb
    rw [heq,hiun] at h1
    cases h1
   have hap:=hfree j oj hoj hji hjun hnot
   obtain⟨p1,p2,p3⟩:=Oper.apart_spec hap
   have hsi:=fun cs b=>hsel i oi cs b hi
   have hsj:=fun cs b=>hsel j oj cs b hoj
   have hfree':∀ k ok,ops[k]? = some ok→k≠i→(listed.setIfInBounds j true).getD k true=false →
     (∀ e∈ok.after,Region.binds .any e=true→e.on≠i)→oi.apart ops ok=true:=fun k ok hk hki hun hno=>by
    refine hfree k ok hk hki ?_ hno
    by_cases hjk:j=k
    ·subst hjk;exact hjun
    ·rw [getD_set_ne true hjk] at hun;exact hun
   have putR:∀ (G' C' C2':World→Prop) (u:Value),Reads P ops EM GM i oi v a G' C' C2'→Reads P ops EM GM i oi v (a.put oj.dst u) G' C' C2':=fun G' C' C2' u hh=>by
    cases hh with
    |skip hw hv=>exact .skip (by rw [wanted_put oi a oj.dst u p3];exact hw) hv
    |ever hw he hq=>exact .ever (by rw [wanted_put oi a oj.dst u p3];exact hw) he (hq.put hap hsi)
    |reads hw he hg hq=>exact .reads (by rw [wanted_put oi a oj.dst u p3];exact hw) he hg (hq.put hap hsi)
    |calls hw he hg hq=>exact .calls (by rw [wanted_put oi a oj.dst u p3];exact hw) he hg (hq.put hap hsi)
   have step:∀ u (G' C' C2':World→Prop),(∀ w,C' w→G' w)→Reads P ops EM GM i oi v a G' C' C2'→P7 P ops EM GM Q fuel ((listed.setIfInBounds i true).setIfInBounds j true) ((a.put oi.dst v).put oj.dst u) G' C2' →
     P7 P ops EM GM Q (fuel+1) (listed.setIfInBounds j true) (a.put oj.dst u) G' C':=fun u G' C' C2' hGC' hR hu=>by
    refine ih (listed.setIfInBounds j true) (a.put oj.dst u) G' C' C2' (hdown.set hj) hGC' hfree' (ready_mono hr (Ne.symm hji)) (putR _ _ _ u hR) ?_
    rw [Array.setIfInBounds_comm _ _ hji,←Act.put_comm a v u p2]
    exact hu
   rw [wanted_put oj a oi.dst v p1] at h1
   refine⟨oj,hoj,?_⟩
   rcases h1 with⟨hw,h1⟩ | ⟨hw,hk⟩
   ·refine .inl ⟨hw,?_⟩
    rcases h1 with⟨he,u,hq,hk⟩ | ⟨he,hg,u,hq,hk⟩ | ⟨he,hg,u,hq,hk⟩ | ⟨he,hg,hc,hq⟩ | ⟨he,hg,hc,hq⟩
    ·exact .inl ⟨he,u,hq.of_put hap hsj,step u G C C2 hGC hy hk⟩
    ·exact .inr (.inl ⟨he,hg,u,hq.of_put hap hsj,step u G C C2 hGC hy hk⟩)
    ·refine .inr (.inr (.inl ⟨he,hg,u,hq.of_put hap hsj,?_⟩))
     cases hy with
     |skip hw hv=>exact step u G G G (fun _ h=>h) (.skip hw hv) hk
     |ever hw he hq=>exact step u G G G (fun _ h=>h) (.ever hw he hq) hk
     |reads hw he hg hq=>exact step u G G G (fun _ h=>h) (.reads hw he hg hq) hk
     |calls hw he hg hq=>exact step u G G G (fun _ h=>h) (.calls hw he hg hq) hk
    ·refine .inr (.inr (.inr (.inl ⟨he,hg,hc,?_⟩)))
     cases hy with
     |skip hw hv=>exact(hq.of_put hap hsj (fun u w' ⟨G',C',h1,h2,h3⟩=>⟨G',C',h1,h2,step u G' C' C' h1 (.skip hw hv) h3⟩))
     |ever hw he hq'=>exact(hq.of_put hap hsj (fun u w' ⟨G',C',h1,h2,h3⟩=>⟨G',C',h1,h2,step u G' C' C' h1 (.ever hw he hq') h3⟩))
     |reads hw he hg hq=>exact(Ub hdown hr hj hji he hc).elim
     |calls hw he hg hq=>exact(Ub hdown hr hj hji he hc).elim
    ·refine .inr (.inr (.inr (.inr ⟨he,hg,hc,?_⟩)))
     cases hy with
     |skip hw hv=>exact(hq.of_put hap hsj (fun u w' ⟨C',h1,h2,h3⟩=>⟨C',h1,h2,step u G C' C' h1 (.skip hw hv) h3⟩))
     |ever hw he hq'=>exact(hq.of_put hap hsj (fun u w' ⟨C',h1,h2,h3⟩=>⟨C',h1,h2,step u G C' C' h1 (.ever hw he hq') h3⟩))
     |reads hw he hg hq'=>exact(hq.of_put hap hsj (fun u w' ⟨C',h1,h2,h3⟩=>⟨C',h1,h2,step u G C' C' h1 (.reads hw he hg hq') h3⟩))
     |calls hw he hg hq=>exact(Ub hdown hr hj hji (by rw [Nat.testBit_or,he,hg];rfl) hc).elim
   ·exact .inr ⟨hw,step undef G C C2 hGC hy hk⟩
def Agg (ops:Array Oper) (m:Nat):List Nat→Array Bool→Bool
 |[],listed=>(Region.ready .any ops listed).isEmpty
 |i::ord,listed=>(Region.ready .any ops listed).contains i&&Region.free .any ops listed i&&(m.testBit i || Region.ready .any ops listed==[i])&&Agg ops m ord (listed.setIfInBounds i true)
def Gx:List Oper→Nat→Option Oper
 |[],_=>none
 |o::_,0=>some o
 |_::l,n+1=>Gx l n
theorem Iq:∀ (l:List Oper) (n:Nat),Gx l n=l[n]?
 |[],_=>rfl
 |_::_,0=>rfl
 |_::l,n+1=>by simpa [Gx] using Iq l n
def wpO (P:Program) (l:List Oper) (EM GM m:Nat) (Q:Exit→Act→World→Prop):List Nat→Act→(World→Prop)→(World→Prop)→Prop
 |[],a,_,C=>∀ w,C w→Q .normal a w
 |i::ord,a,G,C=>∃ o,Gx l i=some o ∧
  ((Region.wanted o (yielded l.toArray a.tmps)=true ∧
   ((EM.testBit i=true∧m.testBit i=true∧∃ v,Na P o a (fun _=>True) (fun w w'=>w'=w) v∧wpO P l EM GM m Q ord (a.put o.dst v) G C) ∨
    (EM.testBit i=false∧GM.testBit i=true∧m.testBit i=true∧∃ v,Na P o a G (fun w w'=>w'=w) v∧wpO P l EM GM m Q ord (a.put o.dst v) G C) ∨
    (EM.testBit i=false∧GM.testBit i=false∧m.testBit i=true∧∃ v,Na P o a G (fun _ w'=>G w') v∧wpO P l EM GM m Q ord (a.put o.dst v) G G) ∨
    (EM.testBit i=false∧GM.testBit i=false∧m.testBit i=false∧Mz l.toArray EM i=true∧SOk P o a C (fun a' w'=>∃ G' C',(∀ w,C' w→G' w)∧C' w'∧wpO P l EM GM m Q ord a' G' C')) ∨
    (EM.testBit i=false∧GM.testBit i=false∧m.testBit i=false∧Mz l.toArray (EM ||| GM) i=true∧SOk P o a C (fun a' w'=>∃ C',(∀ w,C' w→G w)∧C' w'∧wpO P l EM GM m Q ord a' G C')))) ∨
   (Region.wanted o (yielded l.toArray a.tmps)=false∧wpO P l EM GM m Q ord (a.put o.dst undef) G C))
end
theorem V6 {P:Program} {l:List Oper} {EM GM m:Nat} {Q:Exit→Act→World→Prop} (hs:Region.noSelect l.toArray=true):∀ (ord:List Nat) (listed:Array Bool) (a:Act) (G C:World→Prop),(∀ w,C w→G w) →
  Down l.toArray listed→Agg l.toArray m ord listed=true→wpO P l EM GM m Q ord a G C→P7 P l.toArray EM GM Q ord.length listed a G C
 |[],_,_,_,_,_,_,hB,h=>⟨by simpa [Agg] using hB,h⟩
 |i::ord,listed,a,G,C,hGC,hd,hB,h=>by
  obtain⟨o,ho,h⟩:=h
  have h0:l.toArray[i]? = some o:=by rw [Iq] at ho;simpa using ho
  simp only [Agg,Bool.and_eq_true] at hB
  obtain⟨⟨⟨hr,hf⟩,hm⟩,hB'⟩:=hB
  have hr:i∈Region.ready .any l.toArray listed:=by simpa using hr
  have hd':=hd.set hr
  have next:=fun a' G' C' hG' (hm:wpO P l EM GM m Q ord a' G' C')=>V6 hs ord (listed.setIfInBounds i true) a' G' C' hG' hd' hB' hm
  have first:=fun v C2 (hG2:∀ w,C2 w→G w) (hy:Reads P l.toArray EM GM i o v a G C C2) hm=>Zr (Q:=Q) h0 (Region.noSelect_spec hs) ord.length listed a G C C2 hd hGC (Region.free_spec h0 hf) hr hy (next (a.put o.dst v) G C2 hG2 hm)
  have solo:m.testBit i=false→∀ j∈Region.ready .any l.toArray listed,j=i:=fun h1 j hj=>by
   rw [h1,Bool.false_or] at hm
   rw [eq_of_beq hm,List.mem_singleton] at hj
   exact hj
  rcases h with⟨hw,h⟩ | ⟨hw,hm⟩
  ·rcases h with⟨he,_,v,hq,hm⟩ | ⟨he,hg,_,v,hq,hm⟩ | ⟨he,hg,_,v,hq,hm⟩ | ⟨he,hg,hmm,hc,hq⟩ | ⟨he,hg,hmm,hc,hq⟩
   ·exact first v C hGC (.ever hw he hq) hm
   ·exact first v C hGC (.reads hw he hg hq) hm
   ·exact first v G (fun _ h=>h) (.calls hw he hg hq) hm
   ·refine⟨fun hn=>(by rw [hn] at hr;cases hr),fun j hj=>?_⟩
    obtain rfl:=solo hmm j hj
    exact⟨o,h0, .inl ⟨hw, .inr (.inr (.inr (.inl ⟨he,hg,hc,hq.mono (fun _ h=>h) fun a' w' ⟨G',C',h1,h2,h3⟩=>⟨G',C',h1,h2,next a' G' C' h1 h3⟩⟩)))⟩⟩
   ·refine⟨fun hn=>(by rw [hn] at hr;cases hr),fun j hj=>?_⟩
    obtain rfl:=solo hmm j hj
    exact⟨o,h0, .inl ⟨hw, .inr (.inr (.inr (.inr ⟨he,hg,hc,hq.mono (fun _ h=>h) fun a' w' ⟨C',h1,h2,h3⟩=>⟨C',h1,h2,next a' G C' h1 h3⟩⟩)))⟩⟩
  ·exact first undef C hGC (.skip hw rfl) hm
theorem Db {P:Program} {id:Nat} {Q:Exit→Act→World→Prop} {a:Act} {w:World} (EM GM m:Nat) (ord:List Nat) (G C:World→Prop) {l:List Oper} (hm:P.follows .mixedOrders=true) (hs:Region.noSelect l.toArray=true)
  (hB:Agg l.toArray m ord (Array.replicate l.length false)=true) (hn:ord.length=l.length) (hGC:∀ w,C w→G w) (hC:C w.drew)
  (h:wpO P l EM GM m Q ord a G C):(Code.region id l.toArray true).wp P Q a w:=by
 refine wp_region_any hm (Ad6 (EM:=EM) (GM:=GM) _ _ _ G C _ hGC hC ?_)
 have:=V6 hs ord (Array.replicate l.length false) a G C hGC (fun i o _ hl=>?_) hB h
 ·rw [hn] at this
  simpa using this
 ·exfalso
  rcases Nat.lt_or_ge i l.length with h' | h'
  ·simp [h'] at hl
  ·simp [Nat.not_lt.2 h'] at hl
theorem Ad {P:Program} {id:Nat} {Q:Exit→Act→World→Prop} {a:Act} {w:World} (EM GM m:Nat) (ord:List Nat) {l:List Oper} (hm:P.follows .mixedOrders=true) (hs:Region.noSelect l.toArray=true)
  (hB:Agg l.toArray m ord (Array.replicate l.length false)=true) (hn:ord.length=l.length)
  (h:wpO P l EM GM m Q ord a (fun w'=>RowKit.Below w.heap.size w w') (fun w'=>w'=w.drew)):(Code.region id l.toArray true).wp P Q a w:=
 Db EM GM m ord (fun w'=>RowKit.Below w.heap.size w w') (fun w'=>w'=w.drew) hm hs hB hn (fun w' hw=>by rw [hw];exact(RowKit.Below.refl _ _).drew) rfl h
section
variable {P:Program} {l:List Oper} {EM GM m:Nat} {Q:Exit→Act→World→Prop} {i:Nat} {ord:List Nat} {o:Oper} {a:Act} {G C:World→Prop}
def To (P:Program) (l:List Oper) (EM GM m:Nat) (Q:Exit→Act→World→Prop) (i:Nat) (o:Oper) (ord:List Nat) (a:Act) (G C:World→Prop):Prop:=
 ((EM.testBit i=true∧m.testBit i=true∧∃ v,Na P o a (fun _=>True) (fun w w'=>w'=w) v∧wpO P l EM GM m Q ord (a.put o.dst v) G C) ∨
  (EM.testBit i=false∧GM.testBit i=true∧m.testBit i=true∧∃ v,Na P o a G (fun w w'=>w'=w) v∧wpO P l EM GM m Q ord (a.put o.dst v) G C) ∨
  (EM.testBit i=false∧GM.testBit i=false∧m.testBit i=true∧∃ v,Na P o a G (fun _ w'=>G w') v∧wpO P l EM GM m Q ord (a.put o.dst v) G G) ∨
  (EM.testBit i=false∧GM.testBit i=false∧m.testBit i=false∧Mz l.toArray EM i=true∧SOk P o a C (fun a' w'=>∃ G' C',(∀ w,C' w→G' w)∧C' w'∧wpO P l EM GM m Q ord a' G' C')) ∨
  (EM.testBit i=false∧GM.testBit i=false∧m.testBit i=false∧Mz l.toArray (EM ||| GM) i=true∧SOk P o a C (fun a' w'=>∃ C',(∀ w,C' w→G w)∧C' w'∧wpO P l EM GM m Q ord a' G C')))
theorem Aj (h:∀ w,C w→Q .normal a w):wpO P l EM GM m Q [] a G C:=h
theorem oQ (ho:Gx l i=some o) (hg:o.guard=none) (h:To P l EM GM m Q i o ord a G C):wpO P l EM GM m Q (i::ord) a G C:=
 ⟨o,ho, .inl ⟨by simp [Region.wanted,hg],h⟩⟩
theorem oT {g d:Nat} {b:Bool} (ho:Gx l i=some o) (hg:o.guard=some (g,true)) (hd:(Gx l g).bind (·.dst)=some d) (hv:a.tmps[d]? = some (.bool b))
  (h1:b=true→To P l EM GM m Q i o ord { tmps:=a.tmps.setIfInBounds d (.bool true),defers:=a.defers } G C)
  (h2:b=false→wpO P l EM GM m Q ord (Act.put { tmps:=a.tmps.setIfInBounds d (.bool false),defers:=a.defers } o.dst undef) G C):wpO P l EM GM m Q (i::ord) a G C:=by
 have hw:=Ot (ops:=l.toArray) hg (by rw [Iq] at hd;simpa using hd) hv
 cases b
 ·have h:=h2 rfl
  rw [Ja hv] at h
  exact⟨o,ho, .inr ⟨hw,h⟩⟩
 ·have h:=h1 rfl
  rw [Ja hv] at h
  exact⟨o,ho, .inl ⟨hw,h⟩⟩
theorem oF {g d:Nat} {b:Bool} (ho:Gx l i=some o) (hg:o.guard=some (g,false)) (hd:(Gx l g).bind (·.dst)=some d) (hv:a.tmps[d]? = some (.bool b))
  (h1:b=false→To P l EM GM m Q i o ord { tmps:=a.tmps.setIfInBounds d (.bool false),defers:=a.defers } G C)
  (h2:b=true→wpO P l EM GM m Q ord (Act.put { tmps:=a.tmps.setIfInBounds d (.bool true),defers:=a.defers } o.dst undef) G C):wpO P l EM GM m Q (i::ord) a G C:=by
 have hw:=Ot (ops:=l.toArray) hg (by rw [Iq] at hd;simpa using hd) hv
 cases b
 ·have h:=h1 rfl
  rw [Ja hv] at h
  exact⟨o,ho, .inl ⟨hw,h⟩⟩
 ·have h:=h2 rfl
  rw [Ja hv] at h
  exact⟨o,ho, .inr ⟨hw,h⟩⟩
theorem oU {g d:Nat} {want:Bool} (ho:Gx l i=some o) (hg:o.guard=some (g,want)) (hd:(Gx l g).bind (·.dst)=some d) (hv:a.tmps[d]? = some undef)
  (h:wpO P l EM GM m Q ord (a.put o.dst undef) G C):wpO P l EM GM m Q (i::ord) a G C:=by
 have hd':(l.toArray[g]?).bind (·.dst)=some d:=by rw [Iq] at hd;simpa using hd
 exact⟨o,ho, .inr ⟨by unfold Region.wanted yielded;simp at hd';simp [hg,hd',hv,undef],h⟩⟩
theorem oE (a':Act) (he:EM.testBit i=true) (hm:m.testBit i=true) (h:∀ w,∀ K:Act→World→Prop,K a' w→o.wp P a w K (fun _ _ _=>False)) (ha:a'=a.put o.dst (a'.tmps.getD (o.dst.getD 0) undef))
  (hr:wpO P l EM GM m Q ord a' G C):To P l EM GM m Q i o ord a G C:=
 .inl ⟨he,hm,_,fun w _=>h w _ ⟨ha,rfl⟩,ha▸hr⟩
theorem oR (a':Act) (he:EM.testBit i=false) (hg:GM.testBit i=true) (hm:m.testBit i=true) (h:∀ w,G w→∀ K:Act→World→Prop,K a' w→o.wp P a w K (fun _ _ _=>False)) (ha:a'=a.put o.dst (a'.tmps.getD (o.dst.getD 0) undef))
  (hr:wpO P l EM GM m Q ord a' G C):To P l EM GM m Q i o ord a G C:=
 .inr (.inl ⟨he,hg,hm,_,fun w hw=>h w hw _ ⟨ha,rfl⟩,ha▸hr⟩)
theorem oC (a':Act) (he:EM.testBit i=false) (hg:GM.testBit i=false) (hm:m.testBit i=true) (h:∀ w,G w→∀ K:Act→World→Prop,(∀ w',G w'→K a' w')→o.wp P a w K (fun _ _ _=>False)) (ha:a'=a.put o.dst (a'.tmps.getD (o.dst.getD 0) undef))
  (hr:wpO P l EM GM m Q ord a' G G):To P l EM GM m Q i o ord a G C:=
 .inr (.inr (.inl ⟨he,hg,hm,_,fun w hw=>h w hw _ fun _ hw'=>⟨ha,hw'⟩,ha▸hr⟩))
theorem Ag4 (he:EM.testBit i=false) (hg:GM.testBit i=false) (hm:m.testBit i=false) (hc:Mz l.toArray EM i=true)
  (h:∀ w,C w→∀ K:Act→World→Prop,(∀ v w' (G':World→Prop),G' w'→wpO P l EM GM m Q ord (a.put o.dst v) G' (fun x=>x=w')→K (a.put o.dst v) w')→o.wp P a w K (fun _ _ _=>False)):To P l EM GM m Q i o ord a G C:=
 .inr (.inr (.inr (.inl ⟨he,hg,hm,hc,fun w hw=>h w hw _ fun v w' G' hG hm=>⟨⟨v,rfl⟩,G',fun x=>x=w',fun _ hx=>hx▸hG,rfl,hm⟩⟩)))
theorem Ab7 (he:EM.testBit i=false) (hg:GM.testBit i=false) (hm:m.testBit i=false) (hc:Mz l.toArray (EM ||| GM) i=true)
  (h:∀ w,C w→∀ K:Act→World→Prop,(∀ v w',G w'→wpO P l EM GM m Q ord (a.put o.dst v) G (fun x=>x=w')→K (a.put o.dst v) w')→o.wp P a w K (fun _ _ _=>False)):To P l EM GM m Q i o ord a G C:=
 .inr (.inr (.inr (.inr ⟨he,hg,hm,hc,fun w hw=>h w hw _ fun v w' hG hm=>⟨⟨v,rfl⟩,fun x=>x=w',fun _ hx=>hx▸hG,rfl,hm⟩⟩)))
end
attribute [irreducible] wpO To
end Go.Proofs.YtapgojgcmlnbgaaGreatDoor
namespace Go.Proofs.YtapgojgcmlnbgaaGreatDoor
open Go Go.RowKit
section
variable {P:Program} {l:List Oper} {EM GM m:Nat} {Q:Exit→Act→World→Prop} {i:Nat} {o:Oper} {ord:List Nat} {a:Act} {G C:World→Prop}
theorem oP (a':Act) (h:∀ w,G w→∀ K:Act→World→Prop,K a' w→o.wp P a w K (fun _ _ _=>False)) (ha:a'=a.put o.dst (a'.tmps.getD (o.dst.getD 0) undef)) (hr:wpO P l EM GM m Q ord a' G C)
  (he:EM.testBit i=false:=by decide) (hg:GM.testBit i=true:=by decide) (hm:m.testBit i=true:=by decide):To P l EM GM m Q i o ord a G C:=oR a' he hg hm h ha hr
theorem oS (h:∀ w,C w→∀ K:Act→World→Prop,(∀ v w' (G':World→Prop),G' w'→wpO P l EM GM m Q ord (a.put o.dst v) G' (fun x=>x=w')→K (a.put o.dst v) w')→o.wp P a w K (fun _ _ _=>False))
  (he:EM.testBit i=false:=by decide) (hg:GM.testBit i=false:=by decide) (hm:m.testBit i=false:=by decide) (hc:Mz l.toArray EM i=true:=by kernel_rfl):To P l EM GM m Q i o ord a G C:=Ag4 he hg hm hc h
theorem oB (h:∀ w,C w→∀ K:Act→World→Prop,(∀ v w',G w'→wpO P l EM GM m Q ord (a.put o.dst v) G (fun x=>x=w')→K (a.put o.dst v) w')→o.wp P a w K (fun _ _ _=>False))
  (he:EM.testBit i=false:=by decide) (hg:GM.testBit i=false:=by decide) (hm:m.testBit i=false:=by decide) (hc:Mz l.toArray (EM ||| GM) i=true:=by kernel_rfl):To P l EM GM m Q i o ord a G C:=Ab7 he hg hm hc h
end
theorem rO {P W:Prop} (hP:P) (h:Hid P→W:=by
  intro hP
  repeat'(first
   |refine oQ rfl rfl ?_
   |(refine' oE _ (by decide) (by decide) (fun wq K hK=>?_) ?_ ?_;rotate_left 1;(· go_wp2_with(fail);all_goals exact hK);rfl)
   |(refine oT rfl rfl rfl rfl (fun _=>?_) (fun hc=>by cases hc);simp only [Act.put,sA,sS,sZ])
   |(refine oF rfl rfl rfl rfl (fun _=>?_) (fun hc=>by cases hc);simp only [Act.put,sA,sS,sZ])
   |(refine oT rfl rfl rfl rfl (fun hc=>by cases hc) (fun _=>?_);simp only [Act.put,sA,sS,sZ])
   |(refine oF rfl rfl rfl rfl (fun hc=>by cases hc) (fun _=>?_);simp only [Act.put,sA,sS,sZ])
   |(refine oU rfl rfl rfl rfl ?_;(try simp only [Act.put,sA,sS,sZ])))
  exact hP.out):W:=h (qA hP)
theorem rR {P W:Prop} {B:Nat} {w:World} {F:World→Prop} (hF:∀ wq,Below B w wq→F wq) (hP:P) (h:Hid (∀ wq,Below B w wq→F wq)→Hid P→W:=by
  intro hF hP
  repeat'(first
   |refine oQ rfl rfl ?_
   |(refine' oE _ (by decide) (by decide) (fun wq K hK=>?_) ?_ ?_;rotate_left 1;(· go_wp2_with(fail);all_goals exact hK);rfl)
   |(refine' oR _ (by decide) (by decide) (by decide) (fun wq hwq K hK=>?_) ?_ ?_;rotate_left 1;(· have hf:=hF.out wq hwq;(repeat (obtain⟨_,hf⟩:=(hf:_∧_)));go_wp2_with(fail);all_goals exact hK);rfl)
   |(refine oT rfl rfl rfl rfl (fun _=>?_) (fun hc=>by cases hc);simp only [Act.put,sA,sS,sZ])
   |(refine oF rfl rfl rfl rfl (fun _=>?_) (fun hc=>by cases hc);simp only [Act.put,sA,sS,sZ])
   |(refine oT rfl rfl rfl rfl (fun hc=>by cases hc) (fun _=>?_);simp only [Act.put,sA,sS,sZ])
   |(refine oF rfl rfl rfl rfl (fun hc=>by cases hc) (fun _=>?_);simp only [Act.put,sA,sS,sZ])
   |(refine oU rfl rfl rfl rfl ?_;(try simp only [Act.put,sA,sS,sZ])))
  exact hP.out):W:=h (qA hF) (qA hP)
theorem rZ {P W:Prop} (hP:P) (h:Hid P→W:=by
  intro hP
  first
   |refine oQ rfl rfl ?_
   |(refine' oE _ (by decide) (by decide) (fun wq K hK=>?_) ?_ ?_;rotate_left 1;(· go_wp2_with(fail);all_goals exact hK);rfl)
   |(refine oT rfl rfl rfl rfl (fun _=>?_) (fun hc=>by cases hc);simp only [Act.put,sA,sS,sZ])
   |(refine oF rfl rfl rfl rfl (fun _=>?_) (fun hc=>by cases hc);simp only [Act.put,sA,sS,sZ])
   |(refine oT rfl rfl rfl rfl (fun hc=>by cases hc) (fun _=>?_);simp only [Act.put,sA,sS,sZ])
   |(refine oF rfl rfl rfl rfl (fun hc=>by cases hc) (fun _=>?_);simp only [Act.put,sA,sS,sZ])
   |(refine oU rfl rfl rfl rfl ?_;(try simp only [Act.put,sA,sS,sZ]))
  repeat'(first
   |refine oQ rfl rfl ?_
   |(refine' oE _ (by decide) (by decide) (fun wq K hK=>?_) ?_ ?_;rotate_left 1;(· go_wp2_with(fail);all_goals exact hK);rfl)
   |(refine oT rfl rfl rfl rfl (fun _=>?_) (fun hc=>by cases hc);simp only [Act.put,sA,sS,sZ])
   |(refine oF rfl rfl rfl rfl (fun _=>?_) (fun hc=>by cases hc);simp only [Act.put,sA,sS,sZ])
   |(refine oT rfl rfl rfl rfl (fun hc=>by cases hc) (fun _=>?_);simp only [Act.put,sA,sS,sZ])
   |(refine oF rfl rfl rfl rfl (fun hc=>by cases hc) (fun _=>?_);simp only [Act.put,sA,sS,sZ])
   |(refine oU rfl rfl rfl rfl ?_;(try simp only [Act.put,sA,sS,sZ])))
  exact hP.out):W:=h (qA hP)
theorem i2 {a b:Prop} (x:a) (y:b):a∧b:=⟨x,y⟩
theorem Fw {P:Program} {w:World} {o:Oper} {a:Act} {K:Act→World→Prop} {Q:Exit→Act→World→Prop} (s x:Operand) (t:TypeId)
  (ho:o.op = .call { callee := .builtin .append,args:=#[s,x],argTypes:=#[t,t] })
  (base:Nat) (e:TypeId) (i:TypeInfo) (z:Value) (size bytes:Nat) (ht:P.underlying t=some (.slice e)) (hi:P.info? e=some i) (hz:i.zero=some z)
  (hsize:i.size=size) (hby:i.bytes=bytes) (hzs:z.cells.size=size) (hsz:0<size)
  (v:Value) (n:Nat) (xs:List Value) (hs:a.eval s=v) (hown:w.ownsRow base e size v n xs)
  (A:Option Addr) (m c:Nat) (news:List Value) (hx:a.eval x = .slice A m c) (hl:news.length=m*size) (hnil:A=none→m=0∧c=0) (hnews:∀ ad,A=some ad→∀ j u,news[j]? = some u→w.cell? (ad.add j)=some u) (h1:∀ u∈news,u.oneCell'=true)
  (h63:n+m≤maxLen) (hbytes:(n+m)*bytes≤140737488355328) (hbase:base≤w.heap.size)
  (h:∀ v' w',w'.ownsRow base e size v' (n+m) (xs++news)→w.grownBy w' v.ownBlock→K (a.put o.dst v') w'):o.wp P a w K Q:=by
 cases A with
 |some ad=>exact wp_append_own w s x t ho base e i z size bytes ht hi hz hsize hby hzs hsz v n xs hs hown ad m c news hx hl (hnews ad rfl) h1 h63 hbytes hbase fun v' w' h2 h3 _=>h v' w' h2 h3
 |none=>
  obtain⟨rfl,rfl⟩:=hnil rfl
  have hnews0:news=[]:=qN (by simpa using hl)
  subst hnews0
  have hrun:=run_append_owned_none (P:=P) (w:=w) base t o.type e i size ht hi v n xs hown
  unfold Oper.wp execOp
  simp only [ho,resolve,invoke,builtin,Sem.run_bind,Sem.run_pure,Result.andThen_ok,List.map_toArray,List.map_cons,List.map_nil,hs,hx,hrun]
  exact h v w (by simpa using hown) ⟨rfl,rfl,rfl,qC _,fun _ _ _=>rfl⟩
theorem B0 {P:Program} {w:World} {ops:Array Oper} {rest:List Oper} {o:Oper} {a:Act} {Q:Exit→Act→World→Prop} (hgd:o.guard=none) (s x:Operand) (t:TypeId)
  (ho:o.op = .call { callee := .builtin .append,args:=#[s,x],argTypes:=#[t,t] })
  (base:Nat) (e:TypeId) (i:TypeInfo) (z:Value) (size bytes:Nat) (ht:P.underlying t=some (.slice e)) (hi:P.info? e=some i) (hz:i.zero=some z)
  (hsize:i.size=size) (hby:i.bytes=bytes) (hzs:z.cells.size=size) (hsz:0<size)
  (v:Value) (n:Nat) (xs:List Value) (hs:a.eval s=v) (hown:w.ownsRow base e size v n xs)
  (A:Option Addr) (m c:Nat) (news:List Value) (hx:a.eval x = .slice A m c) (hl:news.length=m*size) (hnil:A=none→m=0∧c=0) (hnews:∀ ad,A=some ad→∀ j u,news[j]? = some u→w.cell? (ad.add j)=some u) (h1:∀ u∈news,u.oneCell'=true)
  (h63:n+m≤maxLen) (hbytes:(n+m)*bytes≤140737488355328) (hbase:base≤w.heap.size)
  (h:∀ v' w',w'.ownsRow base e size v' (n+m) (xs++news)→w.grownBy w' v.ownBlock→wpList P ops Q rest (a.put o.dst v') w'):wpList P ops Q (o::rest) a w:=
 wpList_plain hgd fun _ hK=>Fw s x t ho base e i z size bytes ht hi hz hsize hby hzs hsz v n xs hs hown A m c news hx hl hnil hnews h1 h63 hbytes hbase fun v' w' h2 h3=>hK _ _ (h v' w' h2 h3)
theorem H8 (w:World) (u:Value) (t:TypeId):∀ ad,some (⟨w.heap.size,0,none⟩:Addr)=some ad→∀ j v,[u][j]? = some v→(w.alloc (.cells #[u] t)).cell? (ad.add j)=some v:=by
 intro ad h j v hj
 cases h
 rw [Addr.add_lit,Nat.zero_add]
 rw [World.cell?_alloc_new]
 simpa using hj
theorem Fs {w:World} {base:Nat} {e:TypeId} {k:IntKind} {v:Value} {n:Nat} {l:List Int} (h:w.ownsRow base e 1 v n (l.map (Value.int k))) :
  ∃ A cap,v = .slice A n cap∧l.length=n∧(A=none→l=[]∧cap=0)∧Ar w w.heap.size k A l∧n≤cap∧∀ ad,A=some ad→base≤ad.block:=by
 have hln:l.length=n:=by simpa using h.1
 have h0:=h
 rcases h.2 with⟨rfl,rfl⟩ | ⟨g,c,cur,rfl,hgb,_,hc,_⟩
 ·obtain rfl:=qN hln
  exact⟨none,0,rfl,rfl,fun _=>⟨rfl,rfl⟩,fun h=>absurd rfl h,qC _,fun _ h=>by cases h⟩
 ·exact⟨_,c,rfl,hln,fun h=>(by cases h),Ar.own h0,hc,fun ad h=>by cases h;exact hgb⟩
theorem Fv {k:IntKind} (l:List Int):∀ u∈l.map (Value.int k),u.oneCell'=true:=by
 intro u hu
 obtain⟨x,_,rfl⟩:=List.mem_map.1 hu
 rfl
theorem Ajz {w:World} {base:Nat} {e:TypeId} {k:IntKind} {v:Value} {n:Nat} {l:List Int} (h:w.ownsRow base e 1 v n (l.map (Value.int k))) (hn:0<n) :
  ∃ g cap cur,v = .slice (some ⟨g,0,none⟩) n cap∧base≤g∧Blk w g e cur∧∀ j,j<n→cur[j]? = some (.int k (l.getD j 0)):=by
 have hln:l.length=n:=by simpa using h.1
 rcases h.2 with⟨_,rfl⟩ | ⟨g,c,cur,rfl,hb,hh,_,_,_,ht⟩
 ·omega
 ·refine⟨g,c,cur,rfl,hb,hh,fun j hj=>?_⟩
  have h1:(cur.toList.take (n*1))[j]? = (l.map (Value.int k))[j]? := by rw [ht]
  rw [List.getElem?_take,if_pos (by omega),List.getElem?_map,qI (l:=l) (by omega)] at h1
  simp [List.getD,qI (show j<l.length by omega)] at h1 ⊢
  exact h1
theorem Ar.setCell {w:World} {B:Nat} {k:IntKind} {A:Option Addr} {l:List Int} (h:Ar w B k A l) {p:Addr} (u:Value) (hne:∀ ad,A=some ad→ad.block≠p.block):Ar (w.setCell p u) B k A l:=fun hl=>by
 obtain⟨b,o,hA,hB,hc⟩:=h hl
 have hb:=hne _ hA
 refine⟨b,o,hA,hB,fun i v hi=>?_⟩
 have:=Below.heap_setCell w p u b hb
 rw [World.cell?_of_block this]
 exact hc i v hi
theorem Ar.grown {w w':World} {B:Nat} {k:IntKind} {A:Option Addr} {l:List Int} {g:Nat} (h:Ar w B k A l) (hB:B≤w.heap.size) (hg:w.grownBy w' (some g)) (hne:∀ ad,A=some ad→ad.block≠g):Ar w' B k A l:=fun hl=>by
 obtain⟨b,o,hA,hb,hc⟩:=h hl
 have hbg:=hne _ hA
 refine⟨b,o,hA,hb,fun i v hi=>?_⟩
 rw [World.cell?_of_block (hg.block b (qE hb hB) (by simp;exact hbg))]
 exact hc i v hi
theorem Cg {w w':World} (h:Below w.heap.size w w'):w.grownBy w' none:=⟨h.os,h.tape,h.output,h.size,fun k hk _=>h.block k hk⟩
end Go.Proofs.YtapgojgcmlnbgaaGreatDoor
namespace Go.Proofs.YtapgojgcmlnbgaaGreatDoor
open Go.RowKit
def Aq.cells (h:Aq):Array Value:=(h.regs.map (Value.int .u32)++[Value.int .u32 h.pc,Value.int .i64 h.state,Value.int .i64 h.cause]).toArray
theorem Aq.cells_size {h:Aq} (hl:h.regs.length=32):h.cells.size=35:=by simp [Aq.cells,hl]
theorem Aq.cells_reg {h:Aq} {i:Nat} (hi:i<h.regs.length):h.cells[i]? = some (.int .u32 (h.regs.getD i 0)):=by
 unfold Aq.cells
 rw [List.getElem?_toArray,qQ (by simpa using hi),List.getElem?_map]
 simp [List.getD,qI hi]
theorem Aq.cells_pc {h:Aq} (hl:h.regs.length=32):h.cells[32]? = some (.int .u32 h.pc)∧h.cells[33]? = some (.int .i64 h.state)∧h.cells[34]? = some (.int .i64 h.cause):=by
 unfold Aq.cells
 refine⟨?_,?_,?_⟩<;>rw [List.getElem?_toArray,qR (by simp [hl])]<;>simp [hl]
theorem Ca {h:Aq} (hl:h.regs.length=32):(Tryz.prog.info? 30).map (·.size)=some h.cells.size:=by rw [Aq.cells_size hl];kernel_rfl
theorem Fp (h:Aq):h.cells.all (·.oneCell')=true:=by
 rw [Array.all_eq_true_iff_forall_mem]
 intro v hv
 unfold Aq.cells at hv
 simp only [List.mem_toArray,List.mem_append,List.mem_map,List.mem_cons,List.not_mem_nil,or_false] at hv
 rcases hv with⟨x,_,rfl⟩ | rfl | rfl | rfl<;>rfl
abbrev Com.cells (c:Com):Array Value:=#[.int .u32 c.pc, .int .u32 c.next, .int .i64 c.state, .int .i64 c.cause, .int .i64 c.rd, .int .u32 c.value, .int .u32 c.at_, .int .i64 c.many, .int .u32 c.data, .bool c.out, .int .u32 c.told]
theorem Ao {a b c d e f g h i j k:Value}:(Tryz.prog.info? 65).map (·.size)=some (#[a,b,c,d,e,f,g,h,i,j,k]:Array Value).size:=by kernel_rfl
theorem Dl {a b c d e f g h i k:Int} {j:Bool}:(#[.int .u32 a, .int .u32 b, .int .i64 c, .int .i64 d, .int .i64 e, .int .u32 f, .int .u32 g, .int .i64 h, .int .u32 i, .bool j, .int .u32 k]:Array Value).all (·.oneCell')=true:=by kernel_rfl
theorem Qs (h:Aq) (w:World) (hl:h.regs.length=32) :
  Calls Tryz.prog 18 #[.agg h.cells] w fun e w'=>e = .returned (.bool (Ip h))∧Below w.heap.size w w':=by
 have c0:=Aq.cells_reg (h:=h) (i:=0) (by omega)
 obtain⟨c1,c2,c3⟩:=Aq.cells_pc hl
 have hx:Ip h=(decide (h.regs.getD 0 0=0)&&((decide (h.state=2)&&decide (1≤h.cause)&&decide (h.cause≤6)) || ((decide (h.state=0) || decide (h.state=1))&&decide (h.cause=0)))):=rfl
 generalize hX:Ip h=X at hx
 generalize h.cells=cs at *
 generalize h.regs.getD 0 0=r at *
 generalize h.state=s at *
 generalize h.cause=c at *
 have HX:=qA hx
 clear hx hX c1
 go_enter Tryz.func18,Tryz.ntmps18
 go_upto_region 1 with(fail)
 go_simp
 refine A1 fun wa hq=>?_
 have hB:Blk wa w.heap.size 30 cs:=by rw [hq];exact Blk.new w _ _
 have hb:Below w.heap.size w wa:=by rw [hq];exact(qB _ _).alloc (qC _) _
 clear hq
 have zB:=hB.lt
 have d0:=hB.cell 0
 rw [c0] at d0
 have d2:=hB.cell 33
 rw [c2] at d2
 have d3:=hB.cell 34
 rw [c3] at d3
 go_wp2_with(fail)
 all_goals
  go_ret
  refine⟨Gi ?_,hb⟩
  rw [HX.out,Bool.eq_iff_iff]
  simp at *
  omega
theorem Ad7 (b:Bool) (w:World):Calls Tryz.prog 128 #[.bool b] w fun e w'=>e = .returned (.int .u32 (if b=true then 1 else 0))∧w=w':=by
 cases b
 all_goals
  go_enter Tryz.func128,Tryz.ntmps128
  go_wp2
  go_ret
  exact⟨rfl,rfl⟩
theorem Ahs (a b:Int) (w:World) (ha0 : -2147483648≤a) (ha1:a≤2147483647) (hb0 : -4294967296≤b) (hb1:b≤4294967296) :
  Calls Tryz.prog 129 #[.int .i64 a, .int .i64 b] w fun e w'=>e = .returned (.int .u32 (a*b / 4294967296%4294967296))∧w=w':=by
 obtain⟨h1,h2⟩:=Za (a:=a) (b:=b) (A:=2147483648) (B:=4294967296) (by omega) (by omega)
 generalize hX:a*b / 4294967296%4294967296=X
 have HX:=qA hX
 clear hX
 go_enter Tryz.func129,Tryz.ntmps129
 go_wp2
 go_ret
 refine⟨?_,rfl⟩
 show Ending.returned (.int .u32 _)=_
 rw [←HX.out]
 refine Dx ?_
 simp only [IntKind.wrap_u64,wrap64]
 generalize a*b=p at h1 h2 ⊢
 omega
theorem Agd (a b:Int) (w:World) (ha0:0≤a) (ha1:a≤4294967295) (hb0:0≤b) (hb1:b≤4294967295) :
  Calls Tryz.prog 130 #[.int .u32 a, .int .u32 b] w fun e w'=>e = .returned (.tuple #[.int .u32 (a*b / 4294967296), .int .u32 (a*b%4294967296)])∧w=w':=by
 obtain⟨h1,h2⟩:=Za (a:=a) (b:=b) (A:=4294967295) (B:=4294967295) (by omega) (by omega)
 have h3:=Int.mul_nonneg ha0 hb0
 go_enter Tryz.func130,Tryz.ntmps130
 go_wp2
 go_ret2
 refine⟨?_,rfl⟩
 show Ending.returned (.tuple #[.int .u32 _, .int .u32 _])=_
 rfl
theorem Uh (a b:Int) (w:World) (ha0 : -2147483648≤a) (ha1:a≤2147483647) (hb0 : -2147483648≤b) (hb1:b≤2147483647) :
  Calls Tryz.prog 153 #[.int .i32 a, .int .i32 b] w fun e w'=>e = .returned (.tuple #[.int .i32 (Aag a b).1, .int .i32 (Aag a b).2])∧Below w.heap.size w w':=by
 by_cases h:b=0
 ·subst h
  go_enter Tryz.func153,Tryz.ntmps153
  go_wp2
  go_ret2
  exact⟨rfl,qB _ _⟩
 by_cases h':b = -1
 ·subst h'
  go_enter Tryz.func153,Tryz.ntmps153
  go_wp2
  go_ret2
  exact⟨rfl,qB _ _⟩
 ·have e:Aag a b=(a.tdiv b,a.tmod b):=by unfold Aag;rw [if_neg h,if_neg h']
  rw [e]
  clear e
  obtain⟨t0,t1⟩:=Aj9 a b ha0 ha1 h h'
  go_enter Tryz.func153,Tryz.ntmps153
  go_wp2
  refine Aw (by kernel_rfl) (by kernel_rfl) ?_
  repeat'(first
   |refine Bt rfl ?_
   |(refine' Bh _ (fun wq hwq K hK=>?_) ?_ ?_;rotate_left 1;(· obtain⟨hcq,hfq⟩:=Jg hwq;go_wp2_with(fail);all_goals exact hK _ hwq);rfl)
   |((first | refine Bj rfl rfl rfl ?_ ?_ | refine Bi rfl rfl rfl ?_ ?_)<;>intro hc<;>first | (cases hc;done) | ((try cases hc);simp only [Act.put,sA,sS,sZ]))
   |refine Bl rfl rfl rfl ?_)
  all_goals
   refine Ck ?_
   intro w4 hw4
   go_wp2
   go_ret2
   refine⟨?_,hw4⟩
   show Ending.returned (.tuple #[.int .i32 _, .int .i32 _])=_
   rfl
theorem Ze (op a b:Int) (w:World) (ha0:0≤a) (ha1:a≤4294967295) (hb0:0≤b) (hb1:b≤4294967295) :
  Calls Tryz.prog 131 #[.int .i64 op, .int .u32 a, .int .u32 b] w fun e w'=>e = .returned (.int .u32 (Abl op a b))∧Below w.heap.size w w':=by
 have l1:=Aeo ha0 ha1
 have l2:=Aen ha0 ha1
 have l3:=Aeo hb0 hb1
 have l4:=Aen hb0 hb1
 have hA:=Jw ha0 ha1
 have hB:=Jw hb0 hb1
 generalize hX:Abl op a b=X
 have HX:=qA hX
 clear hX
 rcases Decidable.em (op=42) with rfl | h
 rotate_left 1
 rcases Decidable.em (op=44) with rfl | h
 rotate_left 1
 by_cases h:op=43
 focus
  subst h
  by_cases h':b=0
  focus
   subst h'
   clear hB
  rotate_left 1
  have h2:1≤b:=by omega
 rotate_left 2
 by_cases h:op=45
 focus
  subst h
  by_cases h':b=0
  focus
   subst h'
   clear hB
  rotate_left 1
  have h2:1≤b:=by omega
 rotate_left 2
 all_goals
  go_enter Tryz.func131,Tryz.ntmps131
  go_wp2_with(go_at_call 153;(first | with_reducible refine(Uh _ _ _ l1 l2 l3 l4).mono ?_ | with_reducible refine(Uh _ 0 _ l1 l2 (by omega) (by omega)).mono ?_);rintro e w1 ⟨rfl,hbw⟩)
  all_goals
   go_ret
   refine⟨?_,hbw⟩
   show Ending.returned (.int .u32 _)=_
   rw [←HX.out]
   refine Dx ?_
 all_goals first
  |exact Akk hb0 hb1
  |exact Akl ha0 ha1 hb0 hb1
  |rfl
  |(unfold Abl;simp [*])
theorem Aeb (op a b:Int) (w:World) (ha0:0≤a) (ha1:a≤4294967295) (hb0:0≤b) (hb1:b≤4294967295) :
  Calls Tryz.prog 88 #[.int .i64 op, .int .u32 a, .int .u32 b] w fun e w'=>e = .returned (.int .u32 (Yi op a b))∧Below w.heap.size w w':=by
 have l1:=Aeo ha0 ha1
 have l2:=Aen ha0 ha1
 have l3:=Aeo hb0 hb1
 have l4:=Aen hb0 hb1
 have hA:=Jw ha0 ha1
 have hB:=Jw hb0 hb1
 have hM:=Ak8 b hb0 hb1
 generalize hX:Yi op a b=X
 have HX:=qA hX
 clear hX
 rcases Decidable.em (op=28) with rfl | h
 rotate_left 1
 rcases Decidable.em (op=29) with rfl | h
 rotate_left 1
 rcases Decidable.em (op=37) with rfl | h
 rotate_left 1
 rcases Decidable.em (op=36) with rfl | h
 rotate_left 1
 rcases Decidable.em (op=33) with rfl | h
 rotate_left 1
 rcases Decidable.em (op=30) with rfl | h
 rotate_left 1
 rcases Decidable.em (op=34) with rfl | h
 rotate_left 1
 rcases Decidable.em (op=35) with rfl | h
 rotate_left 1
 rcases Decidable.em (op=31) with rfl | h
 rotate_left 1
 rcases Decidable.em (op=32) with rfl | h
 rotate_left 1
 rcases Decidable.em (op=38) with rfl | h
 rotate_left 1
 rcases Decidable.em (op=39) with rfl | h
 rotate_left 1
 rcases Decidable.em (op=40) with rfl | h
 rotate_left 1
 rcases Decidable.em (op=41) with rfl | h
 rotate_left 1
 all_goals
  go_enter Tryz.func88,Tryz.ntmps88
  go_wp2_with(first
   |(go_at_call 128;(with_reducible refine(Ad7 _ _).mono ?_);rintro e w1 ⟨rfl,rfl⟩)
   |(go_at_call 129;(with_reducible refine(Ahs _ _ _ l1 l2 (by omega) (by omega)).mono ?_);rintro e w1 ⟨rfl,rfl⟩)
   |(go_at_call 130;(with_reducible refine(Agd a b _ ha0 ha1 hb0 hb1).mono ?_);rintro e w1 ⟨rfl,rfl⟩)
   |(go_at_call 131;(with_reducible refine(Ze _ a b _ ha0 ha1 hb0 hb1).mono ?_);rintro e w1 ⟨rfl,hbw⟩))
  all_goals
   go_ret
   refine⟨?_,by first | exact qB _ _ | exact hbw⟩
   show Ending.returned (.int .u32 _)=_
   rw [←HX.out]
   refine Dx ?_
 all_goals
  unfold Yi
  first
   |(simp [*];done)
   |(show Abl op a b=_;unfold Abl;simp only [*,if_false])
theorem Af5 (op a b:Int) (w:World) (ha0:0≤a) (ha1:a≤4294967295) (hb0:0≤b) (hb1:b≤4294967295) :
  Calls Tryz.prog 87 #[.int .i64 op, .int .u32 a, .int .u32 b] w fun e w'=>e = .returned (.bool (Pp op a b))∧w=w':=by
 have hA:=Jw ha0 ha1
 have hB:=Jw hb0 hb1
 generalize hX:Pp op a b=X
 have HX:=qA hX
 clear hX
 rcases Decidable.em (op=5) with rfl | h
 rotate_left 1
 rcases Decidable.em (op=6) with rfl | h
 rotate_left 1
 rcases Decidable.em (op=7) with rfl | h
 rotate_left 1
 rcases Decidable.em (op=8) with rfl | h
 rotate_left 1
 rcases Decidable.em (op=9) with rfl | h
 rotate_left 1
 rcases Decidable.em (op=10) with rfl | h
 rotate_left 1
 all_goals
  go_enter Tryz.func87,Tryz.ntmps87
  go_wp2
  go_ret
  refine⟨?_,rfl⟩
  rw [←HX.out]
  refine Gi ?_
  first
   |(rw [Bool.eq_iff_iff];simp [Pp];done)
   |(unfold Pp;simp [*])
theorem Dv (A:Option Addr) (len cap:Nat) (p many:Int) (w:World) (h0:0≤p) (h1:p≤4294967295) (h2:0≤many) (h3:many≤4294967295) (hl:len≤9223372036854775807) :
  Calls Tryz.prog 54 #[.slice A len cap, .int .u32 p, .int .u32 many] w fun e w'=>e = .returned (.bool (Cu len p many))∧w=w':=by
 generalize hx:Cu len p many=x
 have Hx:=qA hx
 clear hx
 go_enter Tryz.func54,Tryz.ntmps54
 go_wp2
 all_goals
  go_ret
  refine⟨Gi ?_,rfl⟩
  rw [←Hx.out,Bool.eq_iff_iff]
  unfold Cu
  first | (simp;done) | (simp;omega) | (simp [*];done) | (simp [*];omega)
theorem Jb (op:Int) (w:World) :
  Calls Tryz.prog 86 #[.int .i64 op] w fun e w'=>e = .returned (.int .u32 (Dh op))∧w=w':=by
 generalize hx:Dh op=x
 have Hx:=qA hx
 clear hx
 go_enter Tryz.func86,Tryz.ntmps86
 go_wp2
 all_goals
  go_ret
  refine⟨Dx ?_,rfl⟩
  rw [←Hx.out]
  unfold Dh
  simp only [beq_iff_eq,beq_eq_false_iff_ne,ne_eq] at *
  (repeat' split)<;>first | rfl | omega
theorem Aa8 (A:Option Addr) (cap:Nat) (m:List Int) (op p:Int) (w:World) (h0:0≤p) (h1:p≤4294967295) (hl:m.length≤9223372036854775807) (hb:Bytes m) (hA:Ar w w.heap.size .u8 A m) :
  Calls Tryz.prog 52 #[.slice A m.length cap, .int .i64 op, .int .u32 p] w fun e w'=>e = .returned (.tuple #[.int .u32 (Dg m op p).1, .bool (Dg m op p).2])∧w=w':=by
 obtain⟨n,rfl⟩:=qH h0
 by_cases hok:(decide (11≤op)&&decide (op≤15)&&Cu m.length n (Dh op))=true
 ·have e:Dg m op n=(Lm m op n,true):=by unfold Dg;rw [if_pos hok];rfl
  rw [e]
  have hth:Cu m.length n (Dh op)=true:=by simp at hok;exact hok.2
  have ho:11≤op∧op≤15:=by simp at hok;exact hok.1
  clear hok e
  have hin:(n:Int)+Dh op≤m.length:=by unfold Cu at hth;simp at hth;exact hth.2
  obtain⟨ho1,ho2⟩:=ho
  obtain rfl | rfl | rfl | rfl | rfl:op=11∨op=12∨op=13∨op=14∨op=15:=by omega
  ·
   have s:Dh 11=1:=rfl
   rw [s] at hin hth
   have hn:(n:Int)+(1 - 1)≤4294967295:=by unfold Cu at hth;simp at hth;omega
   obtain⟨b,o,rfl,hbB,hc⟩:=hA.at_ (n:=n) (by omega)
   have c0:=hc n (by omega)
   have b0:=hb.getD n
   have b1:=hb.getD (n+1)
   have b2:=hb.getD (n+2)
   have b3:=hb.getD (n+3)
   have c1:1>1→w.cell? ⟨b,o+(n+1),none⟩=some (.int .u8 (m.getD (n+1) 0)):=fun h=>hc (n+1) (by omega)
   have c2:1>2→w.cell? ⟨b,o+(n+2),none⟩=some (.int .u8 (m.getD (n+2) 0)):=fun h=>hc (n+2) (by omega)
   have c3:1>3→w.cell? ⟨b,o+(n+3),none⟩=some (.int .u8 (m.getD (n+3) 0)):=fun h=>hc (n+3) (by omega)
   have hL:Lm m 11 n=Kt 11 (m.getD n 0) (m.getD (n+1) 0) (m.getD (n+2) 0) (m.getD (n+3) 0):=rfl
   rw [hL]
   clear hL
   generalize m.getD n 0=x0 at c0 b0 ⊢
   generalize m.getD (n+1) 0=x1 at c1 b1 ⊢
   generalize m.getD (n+2) 0=x2 at c2 b2 ⊢
   generalize m.getD (n+3) 0=x3 at c3 b3 ⊢
   obtain⟨p0,q0⟩:=b0
   obtain⟨p1,q1⟩:=b1
   obtain⟨p2,q2⟩:=b2
   obtain⟨p3,q3⟩:=b3
   generalize hX:Kt 11 x0 x1 x2 x3=X
   have HX:=qA hX
   clear hX
   have hS:=qA s
   clear hc s
   go_enter Tryz.func52,Tryz.ntmps52
   go_wp2_with(first
    |(go_at_call 86;refine(Jb _ _).mono ?_;rintro e w1 ⟨rfl,rfl⟩;rw [hS.out])
    |(go_at_call 54;refine(Dv _ _ _ _ 1 _ (by omega) (by omega) (by omega) (by omega) (by omega)).mono ?_;rintro e w1 ⟨rfl,rfl⟩;rw [hth]))
   refine wp_loop_rounds 2 ?_
   repeat any_goals (rw [rounds_succ];go_wp2)
   all_goals
    go_ret2
    refine⟨?_,rfl⟩
    show Ending.returned (.tuple #[.int .u32 _, .bool true])=_
    rw [←HX.out]
    rw [or0 x0 p0 q0,Akc];exact Rc (by unfold Kt;simp only [if_pos];split<;>omega)
  ·
   have s:Dh 12=2:=rfl
   rw [s] at hin hth
   have hn:(n:Int)+(2 - 1)≤4294967295:=by unfold Cu at hth;simp at hth;omega
   obtain⟨b,o,rfl,hbB,hc⟩:=hA.at_ (n:=n) (by omega)
   have c0:=hc n (by omega)
   have b0:=hb.getD n
   have b1:=hb.getD (n+1)
   have b2:=hb.getD (n+2)
   have b3:=hb.getD (n+3)
   have c1:2>1→w.cell? ⟨b,o+(n+1),none⟩=some (.int .u8 (m.getD (n+1) 0)):=fun h=>hc (n+1) (by omega)
   have c2:2>2→w.cell? ⟨b,o+(n+2),none⟩=some (.int .u8 (m.getD (n+2) 0)):=fun h=>hc (n+2) (by omega)
   have c3:2>3→w.cell? ⟨b,o+(n+3),none⟩=some (.int .u8 (m.getD (n+3) 0)):=fun h=>hc (n+3) (by omega)
   have hL:Lm m 12 n=Kt 12 (m.getD n 0) (m.getD (n+1) 0) (m.getD (n+2) 0) (m.getD (n+3) 0):=rfl
   rw [hL]
   clear hL
   generalize m.getD n 0=x0 at c0 b0 ⊢
   generalize m.getD (n+1) 0=x1 at c1 b1 ⊢
   generalize m.getD (n+2) 0=x2 at c2 b2 ⊢
   generalize m.getD (n+3) 0=x3 at c3 b3 ⊢
   obtain⟨p0,q0⟩:=b0
   obtain⟨p1,q1⟩:=b1
   obtain⟨p2,q2⟩:=b2
   obtain⟨p3,q3⟩:=b3
   generalize hX:Kt 12 x0 x1 x2 x3=X
   have HX:=qA hX
   clear hX
   have hS:=qA s
   clear hc s
   go_enter Tryz.func52,Tryz.ntmps52
   go_wp2_with(first
    |(go_at_call 86;refine(Jb _ _).mono ?_;rintro e w1 ⟨rfl,rfl⟩;rw [hS.out])
    |(go_at_call 54;refine(Dv _ _ _ _ 2 _ (by omega) (by omega) (by omega) (by omega) (by omega)).mono ?_;rintro e w1 ⟨rfl,rfl⟩;rw [hth]))
   refine wp_loop_rounds 3 ?_
   repeat any_goals (rw [rounds_succ];go_wp2)
   all_goals
    go_ret2
    refine⟨?_,rfl⟩
    show Ending.returned (.tuple #[.int .u32 _, .bool true])=_
    rw [←HX.out]
    rw [or0 x0 p0 q0,or8 x0 x1 p0 (by omega) p1 q1,Ai1];exact Rc (by unfold Kt;simp;split<;>omega)
  ·
   have s:Dh 13=4:=rfl
   rw [s] at hin hth
   have hn:(n:Int)+(4 - 1)≤4294967295:=by unfold Cu at hth;simp at hth;omega
   obtain⟨b,o,rfl,hbB,hc⟩:=hA.at_ (n:=n) (by omega)
   have c0:=hc n (by omega)
   have b0:=hb.getD n
   have b1:=hb.getD (n+1)
   have b2:=hb.getD (n+2)
   have b3:=hb.getD (n+3)
   have c1:4>1→w.cell? ⟨b,o+(n+1),none⟩=some (.int .u8 (m.getD (n+1) 0)):=fun h=>hc (n+1) (by omega)
   have c2:4>2→w.cell? ⟨b,o+(n+2),none⟩=some (.int .u8 (m.getD (n+2) 0)):=fun h=>hc (n+2) (by omega)
   have c3:4>3→w.cell? ⟨b,o+(n+3),none⟩=some (.int .u8 (m.getD (n+3) 0)):=fun h=>hc (n+3) (by omega)
   have hL:Lm m 13 n=Kt 13 (m.getD n 0) (m.getD (n+1) 0) (m.getD (n+2) 0) (m.getD (n+3) 0):=rfl
   rw [hL]
   clear hL
   generalize m.getD n 0=x0 at c0 b0 ⊢
   generalize m.getD (n+1) 0=x1 at c1 b1 ⊢
   generalize m.getD (n+2) 0=x2 at c2 b2 ⊢
   generalize m.getD (n+3) 0=x3 at c3 b3 ⊢
   obtain⟨p0,q0⟩:=b0
   obtain⟨p1,q1⟩:=b1
   obtain⟨p2,q2⟩:=b2
   obtain⟨p3,q3⟩:=b3
   generalize hX:Kt 13 x0 x1 x2 x3=X
   have HX:=qA hX
   clear hX
   have hS:=qA s
   clear hc s
   go_enter Tryz.func52,Tryz.ntmps52
   go_wp2_with(first
    |(go_at_call 86;refine(Jb _ _).mono ?_;rintro e w1 ⟨rfl,rfl⟩;rw [hS.out])
    |(go_at_call 54;refine(Dv _ _ _ _ 4 _ (by omega) (by omega) (by omega) (by omega) (by omega)).mono ?_;rintro e w1 ⟨rfl,rfl⟩;rw [hth]))
   refine wp_loop_rounds 5 ?_
   repeat any_goals (rw [rounds_succ];go_wp2)
   all_goals
    go_ret2
    refine⟨?_,rfl⟩
    show Ending.returned (.tuple #[.int .u32 _, .bool true])=_
    rw [←HX.out]
    rw [or0 x0 p0 q0,or8 x0 x1 p0 (by omega) p1 q1,Amd _ x2 (by omega) (by omega) p2 q2,Ame _ x3 (by omega) (by omega) p3 q3];exact Rc rfl
  ·
   have s:Dh 14=1:=rfl
   rw [s] at hin hth
   have hn:(n:Int)+(1 - 1)≤4294967295:=by unfold Cu at hth;simp at hth;omega
   obtain⟨b,o,rfl,hbB,hc⟩:=hA.at_ (n:=n) (by omega)
   have c0:=hc n (by omega)
   have b0:=hb.getD n
   have b1:=hb.getD (n+1)
   have b2:=hb.getD (n+2)
   have b3:=hb.getD (n+3)
   have c1:1>1→w.cell? ⟨b,o+(n+1),none⟩=some (.int .u8 (m.getD (n+1) 0)):=fun h=>hc (n+1) (by omega)
   have c2:1>2→w.cell? ⟨b,o+(n+2),none⟩=some (.int .u8 (m.getD (n+2) 0)):=fun h=>hc (n+2) (by omega)
   have c3:1>3→w.cell? ⟨b,o+(n+3),none⟩=some (.int .u8 (m.getD (n+3) 0)):=fun h=>hc (n+3) (by omega)
   have hL:Lm m 14 n=Kt 14 (m.getD n 0) (m.getD (n+1) 0) (m.getD (n+2) 0) (m.getD (n+3) 0):=rfl
   rw [hL]
   clear hL
   generalize m.getD n 0=x0 at c0 b0 ⊢
   generalize m.getD (n+1) 0=x1 at c1 b1 ⊢
   generalize m.getD (n+2) 0=x2 at c2 b2 ⊢
   generalize m.getD (n+3) 0=x3 at c3 b3 ⊢
   obtain⟨p0,q0⟩:=b0
   obtain⟨p1,q1⟩:=b1
   obtain⟨p2,q2⟩:=b2
   obtain⟨p3,q3⟩:=b3
   generalize hX:Kt 14 x0 x1 x2 x3=X
   have HX:=qA hX
   clear hX
   have hS:=qA s
   clear hc s
   go_enter Tryz.func52,Tryz.ntmps52
   go_wp2_with(first
    |(go_at_call 86;refine(Jb _ _).mono ?_;rintro e w1 ⟨rfl,rfl⟩;rw [hS.out])
    |(go_at_call 54;refine(Dv _ _ _ _ 1 _ (by omega) (by omega) (by omega) (by omega) (by omega)).mono ?_;rintro e w1 ⟨rfl,rfl⟩;rw [hth]))
   refine wp_loop_rounds 2 ?_
   repeat any_goals (rw [rounds_succ];go_wp2)
   all_goals
    go_ret2
    refine⟨?_,rfl⟩
    show Ending.returned (.tuple #[.int .u32 _, .bool true])=_
    rw [←HX.out]
    rw [or0 x0 p0 q0];exact Rc rfl
  ·
   have s:Dh 15=2:=rfl
   rw [s] at hin hth
   have hn:(n:Int)+(2 - 1)≤4294967295:=by unfold Cu at hth;simp at hth;omega
   obtain⟨b,o,rfl,hbB,hc⟩:=hA.at_ (n:=n) (by omega)
   have c0:=hc n (by omega)
   have b0:=hb.getD n
   have b1:=hb.getD (n+1)
   have b2:=hb.getD (n+2)
   have b3:=hb.getD (n+3)
   have c1:2>1→w.cell? ⟨b,o+(n+1),none⟩=some (.int .u8 (m.getD (n+1) 0)):=fun h=>hc (n+1) (by omega)
   have c2:2>2→w.cell? ⟨b,o+(n+2),none⟩=some (.int .u8 (m.getD (n+2) 0)):=fun h=>hc (n+2) (by omega)
   have c3:2>3→w.cell? ⟨b,o+(n+3),none⟩=some (.int .u8 (m.getD (n+3) 0)):=fun h=>hc (n+3) (by omega)
   have hL:Lm m 15 n=Kt 15 (m.getD n 0) (m.getD (n+1) 0) (m.getD (n+2) 0) (m.getD (n+3) 0):=rfl
   rw [hL]
   clear hL
   generalize m.getD n 0=x0 at c0 b0 ⊢
   generalize m.getD (n+1) 0=x1 at c1 b1 ⊢
   generalize m.getD (n+2) 0=x2 at c2 b2 ⊢
   generalize m.getD (n+3) 0=x3 at c3 b3 ⊢
   obtain⟨p0,q0⟩:=b0
   obtain⟨p1,q1⟩:=b1
   obtain⟨p2,q2⟩:=b2
   obtain⟨p3,q3⟩:=b3
   generalize hX:Kt 15 x0 x1 x2 x3=X
   have HX:=qA hX
   clear hX
   have hS:=qA s
   clear hc s
   go_enter Tryz.func52,Tryz.ntmps52
   go_wp2_with(first
    |(go_at_call 86;refine(Jb _ _).mono ?_;rintro e w1 ⟨rfl,rfl⟩;rw [hS.out])
    |(go_at_call 54;refine(Dv _ _ _ _ 2 _ (by omega) (by omega) (by omega) (by omega) (by omega)).mono ?_;rintro e w1 ⟨rfl,rfl⟩;rw [hth]))
   refine wp_loop_rounds 3 ?_
   repeat any_goals (rw [rounds_succ];go_wp2)
   all_goals
    go_ret2
    refine⟨?_,rfl⟩
    show Ending.returned (.tuple #[.int .u32 _, .bool true])=_
    rw [←HX.out]
    rw [or0 x0 p0 q0,or8 x0 x1 p0 (by omega) p1 q1];exact Rc rfl
 ·have e:Dg m op n=(0,false):=by unfold Dg;rw [if_neg hok]
  rw [e]
  clear e
  by_cases ho:16≤op∧op≤18
  ·obtain⟨o1,o2⟩:=ho
   clear hok
   go_enter Tryz.func52,Tryz.ntmps52
   go_wp2_with(go_at_call 86;refine(Jb _ _).mono ?_;rintro e w1 ⟨rfl,rfl⟩)
   go_ret2
   exact⟨rfl,rfl⟩
  ·have hth:Cu m.length n (Dh op)=false:=by
    by_cases h:11≤op∧op≤15
    ·simpa [h.1,h.2] using hok
    ·have:Dh op=0:=by unfold Dh;(repeat' split)<;>omega
     rw [this]
     rfl
   have s0:0≤Dh op:=by unfold Dh;(repeat' split)<;>omega
   have s1:Dh op≤4:=by unfold Dh;(repeat' split)<;>omega
   have ho':16≤op→18<op:=fun h=>by omega
   clear hok ho
   obtain⟨sz,hsz⟩:∃ z,Dh op=z:=⟨_,rfl⟩
   rw [hsz] at hth s0 s1
   have Hsz:=qA hsz
   clear hsz
   by_cases h16:16≤op
   ·have h18:=ho' h16
    clear ho'
    go_enter Tryz.func52,Tryz.ntmps52
    go_wp2_with(first
     |(go_at_call 86;refine(Jb _ _).mono ?_;rintro e w1 ⟨rfl,rfl⟩;rw [Hsz.out])
     |(go_at_call 54;refine(Dv _ _ _ _ sz _ (by omega) (by omega) (by omega) (by omega) (by omega)).mono ?_;rintro e w1 ⟨rfl,rfl⟩;rw [hth]))
    go_ret2
    exact⟨rfl,rfl⟩
   ·clear ho'
    go_enter Tryz.func52,Tryz.ntmps52
    go_wp2_with(first
     |(go_at_call 86;refine(Jb _ _).mono ?_;rintro e w1 ⟨rfl,rfl⟩;rw [Hsz.out])
     |(go_at_call 54;refine(Dv _ _ _ _ sz _ (by omega) (by omega) (by omega) (by omega) (by omega)).mono ?_;rintro e w1 ⟨rfl,rfl⟩;rw [hth]))
    go_ret2
    exact⟨rfl,rfl⟩
theorem Ah3 (a:Nat) (ha:a<4294967296):a &&& 4294967294=a - a%2:=by
 have e:a - a%2=(a >>> 1) <<< 1:=by rw [Nat.shiftRight_eq_div_pow,Nat.shiftLeft_eq];omega
 have m:4294967294=(2 ^ 31 - 1) <<< 1:=by decide
 rw [e,m]
 apply Nat.eq_of_testBit_eq
 intro i
 rw [Nat.testBit_and,Nat.testBit_shiftLeft,Nat.testBit_shiftLeft,Nat.testBit_shiftRight,Nat.testBit_two_pow_sub_one]
 by_cases h:1≤i
 ·rw [show 1+(i - 1)=i by omega]
  by_cases h2:i - 1<31
  ·simp [h,h2]
  ·have:a.testBit i=false:=Nat.testBit_lt_two_pow (qE ha (Nat.pow_le_pow_right (n:=2) (i:=32) (by omega) (by omega)))
   simp [this]
 ·simp [h]
theorem Ai5 (x:Int) (h0:0≤x) (h1:x≤4294967295):bits .andNot .u32 x 1=x - x%2:=by
 obtain⟨n,rfl⟩:=qH h0
 have h:=u32_andNot_nat n 1 (by omega) (by omega)
 rw [show 4294967295 - 1=4294967294 by decide,Ah3 n (by omega)] at h
 have h':bits .andNot .u32 (n:Int) 1=((n - n%2:Nat):Int):=h
 rw [h']
 omega
theorem Yj (x:Int) (k:Nat) (M:Int) (hk:k≤32) (hM:((2 ^ k - 1:Nat):Int)=M) (h0:0≤x) (h1:x≤4294967295):bits .and .u64 x M=x%((2 ^ k:Nat):Int):=by
 subst hM
 obtain⟨n,rfl⟩:=qH h0
 have hp:2 ^ k≤2 ^ 32:=Nat.pow_le_pow_right (by omega) hk
 have hp0:=Nat.two_pow_pos k
 have hx:n &&& (2 ^ k - 1)<2 ^ 64:=Nat.and_lt_two_pow _ (by omega)
 have e1:(BitVec.ofInt 64 (n:Int)).toNat=n:=by
  rw [BitVec.ofInt_natCast,BitVec.toNat_ofNat];exact Nat.mod_eq_of_lt (by omega)
 have e2:(BitVec.ofInt 64 ((2 ^ k - 1:Nat):Int)).toNat=2 ^ k - 1:=by
  rw [BitVec.ofInt_natCast,BitVec.toNat_ofNat];exact Nat.mod_eq_of_lt (by omega)
 show IntKind.u64.wrap ((BitVec.ofInt 64 (n:Int) &&& BitVec.ofInt 64 ((2 ^ k - 1:Nat):Int)).toNat:Int)=_
 rw [BitVec.toNat_and,e1,e2,Nat.and_two_pow_sub_one_eq_mod]
 have hr:n%2 ^ k<2 ^ k:=Nat.mod_lt _ hp0
 rw [←Int.natCast_emod]
 generalize n%2 ^ k=r at hr ⊢
 have hr2:r<2 ^ 32:=qE hr hp
 simp [IntKind.wrap,IntKind.bits,IntKind.signed]
 omega
theorem Rs (op:Int) (w:World) (h:16≤op∧op≤18):Calls Tryz.prog 53 #[.int .i64 op] w fun e w'=>e = .returned (.int .i64 (Fl op))∧w=w':=by
 obtain rfl | rfl | rfl:op=16∨op=17∨op=18:=by omega
 all_goals
  go_enter Tryz.func53,Tryz.ntmps53
  go_wp2
  go_ret
  exact⟨rfl,rfl⟩
theorem Y7 (x many:Int) (w:World) (h:many=1∨many=2∨many=4) (h0:0≤x) (h1:x≤4294967295):Calls Tryz.prog 55 #[.int .u32 x, .int .i64 many] w fun e w'=>e = .returned (.int .u32 (R8 x many))∧w=w':=by
 have e1:=Yj x 8 255 (by omega) (by decide) h0 h1
 have e2:=Yj x 16 65535 (by omega) (by decide) h0 h1
 have e4:=Yj x 32 4294967295 (by omega) (by decide) h0 h1
 rcases h with rfl | rfl | rfl
 all_goals
  go_enter Tryz.func55,Tryz.ntmps55
  go_wp2
  go_ret
  refine⟨Dx ?_,rfl⟩
  unfold R8
  first | rfl | (simp;done) | (simp;omega)
theorem Wk (op:Int) (w:World) (h:19≤op∧op≤27):Calls Tryz.prog 89 #[.int .i64 op] w fun e w'=>e = .returned (.int .i64 (Ahv op))∧w=w':=by
 have built_i:Tryz.prog.built 201 [(0, .int .i64 28),(1, .int .i64 31),(2, .int .i64 32),(3, .int .i64 33),(4, .int .i64 36),(5, .int .i64 37),(6, .int .i64 30),(7, .int .i64 34),(8, .int .i64 35)]=some #[.int .i64 28, .int .i64 31, .int .i64 32, .int .i64 33, .int .i64 36, .int .i64 37, .int .i64 30, .int .i64 34, .int .i64 35]:=by kernel_rfl
 have ix0:∀ w,(Instr.index 201 (.agg #[.int .i64 28, .int .i64 31, .int .i64 32, .int .i64 33, .int .i64 36, .int .i64 37, .int .i64 30, .int .i64 34, .int .i64 35]) (.int .i64 0)).run Tryz.prog w = .ok (.int .i64 28) w:=fun _=>by kernel_rfl
 have ix1:∀ w,(Instr.index 201 (.agg #[.int .i64 28, .int .i64 31, .int .i64 32, .int .i64 33, .int .i64 36, .int .i64 37, .int .i64 30, .int .i64 34, .int .i64 35]) (.int .i64 1)).run Tryz.prog w = .ok (.int .i64 31) w:=fun _=>by kernel_rfl
 have ix2:∀ w,(Instr.index 201 (.agg #[.int .i64 28, .int .i64 31, .int .i64 32, .int .i64 33, .int .i64 36, .int .i64 37, .int .i64 30, .int .i64 34, .int .i64 35]) (.int .i64 2)).run Tryz.prog w = .ok (.int .i64 32) w:=fun _=>by kernel_rfl
 have ix3:∀ w,(Instr.index 201 (.agg #[.int .i64 28, .int .i64 31, .int .i64 32, .int .i64 33, .int .i64 36, .int .i64 37, .int .i64 30, .int .i64 34, .int .i64 35]) (.int .i64 3)).run Tryz.prog w = .ok (.int .i64 33) w:=fun _=>by kernel_rfl
 have ix4:∀ w,(Instr.index 201 (.agg #[.int .i64 28, .int .i64 31, .int .i64 32, .int .i64 33, .int .i64 36, .int .i64 37, .int .i64 30, .int .i64 34, .int .i64 35]) (.int .i64 4)).run Tryz.prog w = .ok (.int .i64 36) w:=fun _=>by kernel_rfl
 have ix5:∀ w,(Instr.index 201 (.agg #[.int .i64 28, .int .i64 31, .int .i64 32, .int .i64 33, .int .i64 36, .int .i64 37, .int .i64 30, .int .i64 34, .int .i64 35]) (.int .i64 5)).run Tryz.prog w = .ok (.int .i64 37) w:=fun _=>by kernel_rfl
 have ix6:∀ w,(Instr.index 201 (.agg #[.int .i64 28, .int .i64 31, .int .i64 32, .int .i64 33, .int .i64 36, .int .i64 37, .int .i64 30, .int .i64 34, .int .i64 35]) (.int .i64 6)).run Tryz.prog w = .ok (.int .i64 30) w:=fun _=>by kernel_rfl
 have ix7:∀ w,(Instr.index 201 (.agg #[.int .i64 28, .int .i64 31, .int .i64 32, .int .i64 33, .int .i64 36, .int .i64 37, .int .i64 30, .int .i64 34, .int .i64 35]) (.int .i64 7)).run Tryz.prog w = .ok (.int .i64 34) w:=fun _=>by kernel_rfl
 have ix8:∀ w,(Instr.index 201 (.agg #[.int .i64 28, .int .i64 31, .int .i64 32, .int .i64 33, .int .i64 36, .int .i64 37, .int .i64 30, .int .i64 34, .int .i64 35]) (.int .i64 8)).run Tryz.prog w = .ok (.int .i64 35) w:=fun _=>by kernel_rfl
 obtain rfl | rfl | rfl | rfl | rfl | rfl | rfl | rfl | rfl:op=19∨op=20∨op=21∨op=22∨op=23∨op=24∨op=25∨op=26∨op=27:=by omega
 all_goals
  go_enter Tryz.func89,Tryz.ntmps89
  go_wp2_with(refine Am rfl 201 _ rfl [(0, .int .i64 28),(1, .int .i64 31),(2, .int .i64 32),(3, .int .i64 33),(4, .int .i64 36),(5, .int .i64 37),(6, .int .i64 30),(7, .int .i64 34),(8, .int .i64 35)] rfl _ built_i ?_)
  go_ret
  exact⟨rfl,rfl⟩
theorem Jq (i:Ins) (w:World):Calls Tryz.prog 57 #[.agg i.cells] w fun e w'=>e = .returned (.bool (Bg i))∧Below w.heap.size w w':=by
 obtain⟨op,rd,rs1,rs2,imm⟩:=i
 generalize hX:Bg ⟨op,rd,rs1,rs2,imm⟩=X
 have HX:=qA hX
 clear hX
 go_enter Tryz.func57,Tryz.ntmps57
 go_wp2
 all_goals
  go_ret
  refine⟨Gi ?_,(qB _ _).alloc (qC _) _⟩
  rw [←HX.out,Bool.eq_iff_iff]
  unfold Bg
  simp at *
  try omega
theorem Kb (c:Com) (cause:Int) (w:World):Calls Tryz.prog 34 #[.agg c.cells, .int .i64 cause] w fun e w'=>e = .returned (.agg (By c.pc cause).cells)∧Below w.heap.size w w':=by
 obtain⟨c0,c1,c2,c3,c4,c5,c6,c7,c8,c9,c10⟩:=c
 dsimp only
 go_enter Tryz.func34,Tryz.ntmps34
 go_upto_region 1 with(fail)
 go_simp
 refine A1 fun wa hq=>?_
 have hB:Blk wa w.heap.size 65 #[.int .u32 c0, .int .u32 c1, .int .i64 c2, .int .i64 c3, .int .i64 c4, .int .u32 c5, .int .u32 c6, .int .i64 c7, .int .u32 c8, .bool c9, .int .u32 c10]:=by rw [hq];exact(Blk.new w _ _).alloc _
 have hR:Blk wa (w.heap.size+1) 65 #[.int .u32 0, .int .u32 0, .int .i64 0, .int .i64 0, .int .i64 0, .int .u32 0, .int .u32 0, .int .i64 0, .int .u32 0, .bool false, .int .u32 0]:=by rw [hq];exact Blk.newAt (w.alloc _) 65 _ (by simp)
 have hb:Below w.heap.size w wa:=by rw [hq];exact((qB _ _).alloc (qC _) _).alloc (by simp) _
 clear hq
 have d0:=hB.cell 0
 have zB:=hB.lt
 go_wp2_with(refine Ae rfl 65 _ _ rfl (w.heap.size+1) #[.int .u32 c0, .int .u32 c0, .int .i64 2, .int .i64 cause, .int .i64 0, .int .u32 0, .int .u32 0, .int .i64 0, .int .u32 0, .bool false, .int .u32 0] rfl rfl 65 _ hR Ao rfl Dl ?_;intro w5 hB5 hg5)
 exact bodyPost_ret (v := .agg (By c0 cause).cells) (Bo rfl _ _ (w.heap.size+1) 65 _ _ rfl hB5 Tryz.underlying65 rfl Ao) rfl ⟨rfl,below_grown hb hg5 hb.size (Nat.le_succ _)⟩
theorem Aj3 {k:IntKind} {x y:Int} {X:Int×Int} (h:X=(x,y)):Ending.returned (.tuple #[.int k x, .int k y])=Ending.returned (.tuple #[.int k X.1, .int k X.2]):=by rw [h]
theorem Mq (i:Ins) (pc a b:Int) (w:World) (ha0:0≤a) (ha1:a≤4294967295) (hb0:0≤b) (hb1:b≤4294967295) :
  Calls Tryz.prog 56 #[.agg i.cells, .int .u32 pc, .int .u32 a, .int .u32 b] w fun e w'=>e = .returned (.tuple #[.int .u32 (F6 i pc a b).1, .int .u32 (F6 i pc a b).2])∧Below w.heap.size w w':=by
 obtain⟨op,rd,rs1,rs2,imm⟩:=i
 have hN:=Ai5 ((a+imm%4294967296)%4294967296) (by omega) (by omega)
 generalize hX:F6 ⟨op,rd,rs1,rs2,imm⟩ pc a b=X
 have HX:=qA hX
 clear hX
 go_enter Tryz.func56,Tryz.ntmps56
 go_upto_region 1 with(fail)
 go_simp
 refine A1 fun wa hq=>?_
 have hB:Blk wa w.heap.size 53 #[.int .i64 op, .int .i64 rd, .int .i64 rs1, .int .i64 rs2, .int .i32 imm]:=by rw [hq];exact Blk.new w _ _
 have hb:Below w.heap.size w wa:=by rw [hq];exact(qB _ _).alloc (qC _) _
 clear hq
 have d0:=hB.cell 0
 have d4:=hB.cell 4
 have zB:=hB.lt
 go_wp2_with(first
  |(go_at_call 87;(with_reducible refine(Af5 op a b _ ha0 ha1 hb0 hb1).mono ?_);rintro e w2 ⟨rfl,rfl⟩)
  |(go_at_call 89;(with_reducible refine(Wk op _ (by simp at *;omega)).mono ?_);rintro e w2 ⟨rfl,rfl⟩)
  |(go_at_call 88;(with_reducible refine(Aeb (Ahv op) a (imm%4294967296) _ ha0 ha1 (by omega) (by omega)).mono ?_);rintro e w2 ⟨rfl,hb2⟩;replace hb:=hb.trans (hb2.mono hb.size))
  |(go_at_call 88;(with_reducible refine(Aeb op a b _ ha0 ha1 hb0 hb1).mono ?_);rintro e w2 ⟨rfl,hb2⟩;replace hb:=hb.trans (hb2.mono hb.size)))
 all_goals
  go_ret2
  refine⟨Aj3 ?_,hb⟩
  rw [←HX.out]
  clear HX d0 d4 hB
  simp at *
  unfold F6
  dsimp only
  (repeat' split)<;>first | (exfalso;omega) | (simp [u32];done) | (simp [u32];omega) | (simp [u32, *];done) | (exfalso;simp_all;done)
theorem Of (A:Option Addr) (cap:Nat) (m:List Int) (pc:Int) (w:World) (h0:0≤pc) (h1:pc≤4294967295) (hl:m.length≤9223372036854775807) (hb:Bytes m) (hA:Ar w w.heap.size .u8 A m) :
  Calls Tryz.prog 33 #[.slice A m.length cap, .int .u32 pc] w fun e w'=>e = .returned (.tuple #[.agg (Dn m pc).1.cells, .int .i64 (Dn m pc).2])∧Below w.heap.size w w':=by
 generalize hX:Dn m pc=X
 have HX:=qA hX
 clear hX
 have hx:=U8 hb 13 pc
 have CL:=qA (fun W hW=>Aa8 A cap m 13 pc W h0 h1 hl hb hW)
 have HX2:Hid (X=if (Dg m 13 pc).2=true then (match Ns (Dg m 13 pc).1 with | some i=>((i,0):Ins×Int) | none=>(Fz,2)) else (Fz,1)):=qA HX.out.symm
 clear HX
 generalize Dg m 13 pc=L at *
 obtain⟨x,ok⟩:=L
 dsimp only at hx CL HX2
 have CD:=qA (fun W=>Pl x W hx.1 hx.2)
 go_enter Tryz.func33,Tryz.ntmps33
 go_upto_region 1 with(fail)
 go_simp
 refine A1 fun wa hq=>?_
 have hB:Blk wa w.heap.size 53 Wm.cells:=by rw [hq];exact Blk.new w _ _
 have hbl:Below w.heap.size w wa:=by rw [hq];exact(qB _ _).alloc (qC _) _
 have hA2:Ar wa wa.heap.size .u8 A m:=(hA.below hbl).mono hbl.size
 clear hq
 rcases ok with _ | _
 ·have hX:X=(Fz,1):=HX2.out
  subst hX
  clear HX2
  go_wp2_with(first
   |(go_at_call 52;(with_reducible refine(CL.out _ hA2).mono ?_);rintro e w2 ⟨rfl,rfl⟩)
   |(refine Ae rfl 53 _ _ rfl w.heap.size Fz.cells rfl rfl 53 _ hB Cs rfl Mh ?_;intro w5 hB5 hg5;have hBc:=hB5.cell))
  exact bodyPost_ret (v := .tuple #[.agg Fz.cells, .int .i64 1]) (by simp [results,Tryz.results33,go_sem,hBc]) rfl ⟨rfl,below_grown hbl hg5 hbl.size (qC _)⟩
 ·rcases hd:Ns x with _ | i
  ·have hX:X=(Fz,2):=by have h:=HX2.out;rw [hd] at h;exact h
   subst hX
   rw [hd] at CD
   clear HX2
   go_upto_region 5 with(first
    |(go_at_call 52;(with_reducible refine(CL.out _ hA2).mono ?_);rintro e w2 ⟨rfl,rfl⟩)
    |(go_at_call 14;(with_reducible refine(CD.out _).mono ?_);rintro e w3 ⟨rfl,hb3⟩;replace hbl:=hbl.trans (hb3.mono hbl.size);replace hB:=hB.ext hb3))
   try go_simp
   refine A1 fun wb hq=>?_
   have hB2:Blk wb w.heap.size 53 Wm.cells:=by rw [hq];exact hB.alloc _
   have hI:Blk wb w3.heap.size 53 Wm.cells:=by rw [hq];exact Blk.new w3 _ _
   have hbl2:Below w.heap.size w wb:=by rw [hq];exact hbl.alloc hbl.size _
   clear hq
   go_wp2_with(first
    |(refine Ab rfl 53 _ rfl w3.heap.size rfl 53 _ _ hI Tryz.underlying53 rfl Cs ?_)
    |(refine Ae rfl 53 _ _ rfl w.heap.size Fz.cells rfl rfl 53 _ hB2 Cs rfl Mh ?_;intro w5 hB5 hg5;have hBc:=hB5.cell))
   exact bodyPost_ret (v := .tuple #[.agg Fz.cells, .int .i64 2]) (by simp [results,Tryz.results33,go_sem,hBc]) rfl ⟨rfl,below_grown hbl2 hg5 hbl2.size (qC _)⟩
  ·have hX:X=(i,0):=by have h:=HX2.out;rw [hd] at h;exact h
   subst hX
   rw [hd] at CD
   replace CD:Hid (∀ W,Calls Tryz.prog 14 #[.int .u32 x] W fun e w'=>e = .returned (.tuple #[.agg i.cells, .bool true])∧Below W.heap.size W w'):=CD
   clear HX2
   go_upto_region 5 with(first
    |(go_at_call 52;(with_reducible refine(CL.out _ hA2).mono ?_);rintro e w2 ⟨rfl,rfl⟩)
    |(go_at_call 14;(with_reducible refine(CD.out _).mono ?_);rintro e w3 ⟨rfl,hb3⟩;replace hbl:=hbl.trans (hb3.mono hbl.size);replace hB:=hB.ext hb3))
   try go_simp
   refine A1 fun wb hq=>?_
   have hB2:Blk wb w.heap.size 53 Wm.cells:=by rw [hq];exact hB.alloc _
   have hI:Blk wb w3.heap.size 53 i.cells:=by rw [hq];exact Blk.new w3 _ _
   have hbl2:Below w.heap.size w wb:=by rw [hq];exact hbl.alloc hbl.size _
   clear hq
   go_wp2_with(first
    |(refine Ab rfl 53 _ rfl w3.heap.size rfl 53 _ _ hI Tryz.underlying53 rfl Cs ?_)
    |(refine Ae rfl 53 _ _ rfl w.heap.size i.cells rfl rfl 53 _ hB2 Cs rfl Mh ?_;intro w5 hB5 hg5;have hBc:=hB5.cell))
   exact bodyPost_ret (v := .tuple #[.agg i.cells, .int .i64 0]) (by simp [results,Tryz.results33,go_sem,hBc]) rfl ⟨rfl,below_grown hbl2 hg5 hbl2.size (qC _)⟩
theorem R6 {α β:Type} {K:α→β→Prop} {a:α} {w:β} (h:∀ w',w'=w→K a w'):K a w:=h w rfl
section
variable {P:Program} {w:World} {o:Oper} {a:Act} {Q:Exit→Act→World→Prop}
theorem De {K:Act→World→Prop} (ty:TypeId) (x y:Operand) (ho:o.op = .store ty x y) (g:Nat) (cells:Array Value) (hx:a.eval x = .pointer (some ⟨g,0,none⟩)) (hy:a.eval y = .agg cells)
  (t:TypeId) (old:Array Value) (hg:Blk w g t old) (hi:(P.info? ty).map (·.size)=some cells.size) (hn:cells.size=old.size) (h1:cells.all (·.oneCell')=true)
  (h:∀ w',Blk w' g t cells→w.grownBy w' (some g)→K (a.put o.dst undef) w'):o.wp P a w K Q:=
 Ch ty x y ho g 0 cells hx hy t old hg hi (by omega) h1 fun w' h2 h3=>h w' (by rwa [Jn _ _ hn] at h2) h3
end
structure F8 (w:World) (b o:Nat) (h:Aq):Prop where
 lt:b<w.heap.size
 reg:∀ i,i<32→w.cell? ⟨b,o+i,none⟩=some (.int .u32 (h.regs.getD i 0))
 pc:w.cell? ⟨b,o+32,none⟩=some (.int .u32 h.pc)
 st:w.cell? ⟨b,o+33,none⟩=some (.int .i64 h.state)
 ca:w.cell? ⟨b,o+34,none⟩=some (.int .i64 h.cause)
theorem F8.below {w w':World} {B b o:Nat} {h:Aq} (hh:F8 w b o h) (hb:Below B w w') (hB:b<B):F8 w' b o h:=
 ⟨qE hh.lt hb.size,fun i hi=>(hb.cell (p:=⟨b,o+i,none⟩) hB).trans (hh.reg i hi),(hb.cell (p:=⟨b,o+32,none⟩) hB).trans hh.pc,(hb.cell (p:=⟨b,o+33,none⟩) hB).trans hh.st,(hb.cell (p:=⟨b,o+34,none⟩) hB).trans hh.ca⟩
theorem F8.ext {w w':World} {b o:Nat} {h:Aq} (hh:F8 w b o h) (hb:Below w.heap.size w w'):F8 w' b o h:=hh.below hb hh.lt
theorem F8.of_blk {w:World} {b:Nat} {h:Aq} {t:TypeId} (hl:h.regs.length=32) (hB:Blk w b t h.cells):F8 w b 0 h:=by
 obtain⟨c1,c2,c3⟩:=Aq.cells_pc hl
 refine⟨hB.lt,fun i hi=>?_,(hB.cell _).trans c1,(hB.cell _).trans c2,(hB.cell _).trans c3⟩
 rw [Nat.zero_add]
 exact(hB.cell i).trans (Aq.cells_reg (by omega))
theorem Afo (i:Ins) (h:Aq) (b o:Nat) (A:Option Addr) (cap:Nat) (m:List Int) (w:World) (hh:h.Wf) (ha0:0≤i.rs1) (ha1:i.rs1≤31) (hb0:0≤i.rs2) (hb1:i.rs2≤31) (hH:F8 w b o h) (hl:m.length≤9223372036854775807) (hb:Bytes m) (hA:Ar w w.heap.size .u8 A m) (cA:11≤i.op∧i.op≤15) :
  Calls Tryz.prog 35 #[.agg i.cells, .pointer (some ⟨b,o,none⟩), .slice A m.length cap] w fun e w'=>e = .returned (.agg (Cl i h m).cells)∧Below w.heap.size w w':=by
 generalize hX:Cl i h m=X
 have HX:=qA hX
 clear hX
 have ra:=hh.reg i.rs1
 have rb:=hh.reg i.rs2
 have cr:=hH.reg
 have cpc:=hH.pc
 have zb:=hH.lt
 have hrd:∀ k:Nat,h.reg (k:Int)=h.regs.getD k 0:=fun k=>rfl
 have CG:=qA (fun W=>Jq i W)
 have CR:=qA (fun W=>Mq i h.pc (h.reg i.rs1) (h.reg i.rs2) W ra.1 ra.2 rb.1 rb.2)
 obtain⟨op,rd,rs1,rs2,imm⟩:=i
 dsimp only at *
 obtain⟨r1,rfl⟩:=qH ha0
 obtain⟨r2,rfl⟩:=qH hb0
 have c1:=cr r1 (by omega)
 have c2:=cr r2 (by omega)
 have c17:=cr 17 (by omega)
 have c10:=cr 10 (by omega)
 have h17:=hrd 17
 have h10:=hrd 10
 rw [←hrd] at c1 c2 c17 c10
 clear cr hrd
 go_enter Tryz.func35,Tryz.ntmps35
 go_upto_region 1 with(fail)
 go_simp
 refine A1 fun wa hq=>?_
 have hB:Blk wa w.heap.size 53 #[.int .i64 op, .int .i64 rd, .int .i64 r1, .int .i64 r2, .int .i32 imm]:=by rw [hq];exact(Blk.new w _ _).alloc _
 have hR:Blk wa (w.heap.size+1) 65 #[.int .u32 0, .int .u32 0, .int .i64 0, .int .i64 0, .int .i64 0, .int .u32 0, .int .u32 0, .int .i64 0, .int .u32 0, .bool false, .int .u32 0]:=by rw [hq];exact Blk.newAt (w.alloc _) 65 _ (by simp)
 have hbl:Below w.heap.size w wa:=by rw [hq];exact((qB _ _).alloc (qC _) _).alloc (by simp) _
 clear hq
 have zB:=hB.lt
 have zR:=hR.lt
 have hHa:=hH.ext hbl
 refine Aw (by kernel_rfl) (by kernel_rfl) ?_
 repeat'(first
  |refine Bt rfl ?_
  |(refine' Bh _ (fun wq hwq K hK=>?_) ?_ ?_;rotate_left 1;(· have e1:=(hbl.trans (hwq.mono hbl.size)).cell (p:=⟨b,o+r1,none⟩) zb;rw [c1] at e1;have e2:=(hbl.trans (hwq.mono hbl.size)).cell (p:=⟨b,o+r2,none⟩) zb;rw [c2] at e2;have d2:=(hB.ext hwq).cell 2;have d3:=(hB.ext hwq).cell 3;go_wp2_with(fail);all_goals exact hK _ hwq);rfl)
  |((first | refine Bj rfl rfl rfl ?_ ?_ | refine Bi rfl rfl rfl ?_ ?_)<;>intro hc<;>first | (cases hc;done) | ((try cases hc);simp only [Act.put,sA,sS,sZ]))
  |refine Bl rfl rfl rfl ?_)
 refine Ck ?_
 intro w4 hw4
 replace hbl:=hbl.trans (hw4.mono hbl.size)
 replace hB:=hB.ext hw4
 replace hR:=hR.ext hw4
 have hpcq:w4.cell? ⟨b,o+32,none⟩=some (.int .u32 h.pc):=(hbl.cell (p:=⟨b,o+32,none⟩) zb).trans cpc
 have built_c:Tryz.prog.built 65 [(0, .int .u32 h.pc),(1, .int .u32 ((h.pc+4)%4294967296))]=some #[.int .u32 h.pc, .int .u32 ((h.pc+4)%4294967296), .int .i64 0, .int .i64 0, .int .i64 0, .int .u32 0, .int .u32 0, .int .i64 0, .int .u32 0, .bool false, .int .u32 0]:=by kernel_rfl
 clear hw4 zB zR hHa
 have zb4:=qE zb hbl.size
 go_upto_region 2 with(fail)
 try go_simp
 refine Ad 375 648 1023 [0,1,2,3,4,5,6,7,8,9,10,11] (by kernel_rfl) (by kernel_rfl) (by kernel_rfl) rfl ?_
 refine rR (fun wq hwq=>hwq.at_ zb4 hpcq) ?_
 refine oB (fun w1 hw1 K hK=>?_)
 have hbw:Below w4.heap.size w4 w1:=by rw [hw1];exact(qB _ _).drew
 clear hw1
 replace hbl:=hbl.trans (hbw.mono hbl.size)
 replace hB:=hB.ext hbw
 replace hR:=hR.ext hbw
 clear hpcq
 go_wp2_with(fail)
 refine hK _ _ (hbw.alloc hbw.size _) ?_
 simp only [Act.put,sA,sS,sZ]
 clear hK K
 refine oQ rfl rfl ?_
 refine oS (fun wx hwx K hK=>?_)
 subst hwx
 have hgt:w.heap.size+1<w1.heap.size:=hR.lt
 have hC:=Blk.new w1 65 #[.int .u32 0, .int .u32 0, .int .i64 0, .int .i64 0, .int .i64 0, .int .u32 0, .int .u32 0, .int .i64 0, .int .u32 0, .bool false, .int .u32 0]
 replace hB:=hB.alloc (.cells #[.int .u32 0, .int .u32 0, .int .i64 0, .int .i64 0, .int .i64 0, .int .u32 0, .int .u32 0, .int .i64 0, .int .u32 0, .bool false, .int .u32 0] 65)
 replace hR:=hR.alloc (.cells #[.int .u32 0, .int .u32 0, .int .i64 0, .int .i64 0, .int .i64 0, .int .u32 0, .int .u32 0, .int .i64 0, .int .u32 0, .bool false, .int .u32 0] 65)
 have hs1:=hbl.size
 replace hbl:=hbl.alloc hbl.size (.cells #[.int .u32 0, .int .u32 0, .int .i64 0, .int .i64 0, .int .i64 0, .int .u32 0, .int .u32 0, .int .i64 0, .int .u32 0, .bool false, .int .u32 0] 65)
 refine De 65 _ _ rfl w1.heap.size #[.int .u32 h.pc, .int .u32 ((h.pc+4)%4294967296), .int .i64 0, .int .i64 0, .int .i64 0, .int .u32 0, .int .u32 0, .int .i64 0, .int .u32 0, .bool false, .int .u32 0] rfl rfl 65 _ hC Ao rfl Dl ?_
 intro w5 hB5 hg5
 have hB1:=hB.grown hg5 (by simp;omega)
 have hR1:=hR.grown hg5 (by simp;omega)
 have hb1:=below_grown hbl hg5 hbl.size hs1
 refine hK _ _ (fun _=>True) trivial ?_
 simp only [Act.put,sA,sS,sZ]
 clear hK K hB hR hbl hs1 hC hg5 zb4 hbw built_c
 refine Aj ?_
 rintro w6 rfl
 have hH6:=hH.ext hb1
 have hA6:Ar w6 w6.heap.size .u8 A m:=(hA.below hb1).mono hb1.size
 generalize w1.heap.size=g at *
 clear cpc c1 c2 c17 c10 hH hA
 have d0:=hB1.cell 0
 have d4:=hB1.cell 4
 have hat:u32 (h.reg r1+imm)=(h.reg r1+imm)%4294967296:=rfl
 obtain⟨at',hat'⟩:∃ x,x=(h.reg r1+imm)%4294967296:=⟨_,rfl⟩
 have at0:0≤at':=by omega
 have at1:at'≤4294967295:=by omega
 have Hat:=qA hat'
 have t1:decide (11≤op)=true:=qF cA.1
 have t2:decide (op≤15)=true:=qF cA.2
 have CL:=qA (fun W hW=>Aa8 A cap m op at' W at0 at1 hl hb hW)
 have HX2:Hid (X=if (Dg m op at').2=true then (⟨h.pc,u32 (h.pc+4),0,0,if Bg ⟨op,rd,r1,r2,imm⟩=true then rd else 0,if Bg ⟨op,rd,r1,r2,imm⟩=true then (Dg m op at').1 else 0,0,0,0,false,0⟩:Com) else By h.pc 3):=by
  refine qA ?_
  rw [←HX.out]
  unfold Cl
  rw [if_pos cA]
  dsimp only
  rw [hat,←hat']
 clear HX cA
 generalize Dg m op at'=L at *
 obtain⟨x,ok⟩:=L
 dsimp only at CL HX2
 subst hat'
 rcases ok with _ | _
 ·have hX:X=By h.pc 3:=HX2.out
  subst hX
  clear HX2 CG CR
  go_wp2_with(first
   |(go_at_call 52;(with_reducible refine(CL.out _ hA6).mono ?_);rintro e w2 ⟨rfl,rfl⟩)
   |(go_at_call 53;(with_reducible refine(CB.out _).mono ?_);rintro e w2 ⟨rfl,rfl⟩)
   |(go_at_call 54;(with_reducible refine(CT.out _).mono ?_);rintro e w2 ⟨rfl,rfl⟩)
   |(refine Ab rfl 65 _ rfl g rfl 65 _ _ hB5 Tryz.underlying65 rfl Ao ?_)
   |(go_at_call 34;(with_reducible refine(Kb ⟨h.pc,(h.pc+4)%4294967296,0,0,0,0,0,0,0,false,0⟩ 3 _).mono ?_);rintro e w7 ⟨rfl,hb7⟩;replace hR1:=hR1.ext hb7;replace hb1:=hb1.trans (hb7.mono hb1.size))
   |(refine Ae rfl 65 _ _ rfl (w.heap.size+1) (By h.pc 3).cells rfl rfl 65 _ hR1 Ao rfl Dl ?_;intro w8 hB8 hg8))
  exact bodyPost_ret (v := .agg (By h.pc 3).cells) (Bo rfl _ _ (w.heap.size+1) 65 _ _ rfl hB8 Tryz.underlying65 rfl Ao) rfl ⟨rfl,below_grown hb1 hg8 hb1.size (Nat.le_succ _)⟩
 ·have HX3:Hid (X=(⟨h.pc,u32 (h.pc+4),0,0,if Bg ⟨op,rd,r1,r2,imm⟩=true then rd else 0,if Bg ⟨op,rd,r1,r2,imm⟩=true then x else 0,0,0,0,false,0⟩:Com)):=HX2
  clear HX2 CR
  have c5:=hB5.cell 5
  have f5:=hB5.frozen 5
  go_upto_region 26 with(go_at_call 52;(with_reducible refine(CL.out _ hA6).mono ?_);rintro e w2 ⟨rfl,rfl⟩)
  try go_simp
  refine R6 fun wa hq=>?_
  have hC:Blk wa g 65 #[.int .u32 h.pc, .int .u32 ((h.pc+4)%4294967296), .int .i64 0, .int .i64 0, .int .i64 0, .int .u32 x, .int .u32 0, .int .i64 0, .int .u32 0, .bool false, .int .u32 0]:=by rw [hq];exact hB5.set 5 _
  have hBw:Blk wa w.heap.size 53 #[.int .i64 op, .int .i64 rd, .int .i64 r1, .int .i64 r2, .int .i32 imm]:=by rw [hq];exact hB1.farAt (by omega) _
  have hRw:Blk wa (w.heap.size+1) 65 #[.int .u32 0, .int .u32 0, .int .i64 0, .int .i64 0, .int .i64 0, .int .u32 0, .int .u32 0, .int .i64 0, .int .u32 0, .bool false, .int .u32 0]:=by rw [hq];exact hR1.farAt (by omega) _
  have hbl:Below w.heap.size w wa:=by rw [hq];exact Ap (by omega) hb1
  clear hq c5 f5 hB5 hB1 hR1 hb1 hH6 hA6 CL t1 t2
  generalize Bg ⟨op,rd,r1,r2,imm⟩=gv at *
  rcases gv with _ | _
  ·obtain rfl:X=⟨h.pc,u32 (h.pc+4),0,0,0,0,0,0,0,false,0⟩:=HX3.out
   clear HX3
   go_upto_region 28 with(first
    |(refine Ab rfl 53 _ rfl w.heap.size rfl 53 _ _ hBw Tryz.underlying53 rfl Cs ?_)
    |(go_at_call 57;(with_reducible refine(CG.out _).mono ?_);rintro e w7 ⟨rfl,hb7⟩;replace hC:=hC.ext hb7;replace hRw:=hRw.ext hb7;replace hBw:=hBw.ext hb7;replace hbl:=hbl.trans (hb7.mono hbl.size)))
   try go_simp
   have f5:=hC.frozen 5
   have c5:=hC.cell 5
   replace hRw:=hRw.farAt (b:=g) (off:=5) (Nat.ne_of_lt hgt) (.int .u32 0)
   replace hbl:=Ap (off:=5) (u := .int .u32 0) (qD (Nat.le_succ _) (qS hgt)) hbl
   replace hC:=hC.set 5 (.int .u32 0)
   go_wp2_with(first
    |(refine Ab rfl 65 _ rfl g rfl 65 _ _ hC Tryz.underlying65 rfl Ao ?_)
    |(refine Ae rfl 65 _ _ rfl (w.heap.size+1) (Com.mk h.pc (u32 (h.pc+4)) 0 0 0 0 0 0 0 false 0).cells rfl rfl 65 _ hRw Ao rfl Dl ?_;intro w8 hB8 hg8))
   exact bodyPost_ret (v := .agg (Com.mk h.pc (u32 (h.pc+4)) 0 0 0 0 0 0 0 false 0).cells) (Bo rfl _ _ (w.heap.size+1) 65 _ _ rfl hB8 Tryz.underlying65 rfl Ao) rfl ⟨rfl,below_grown hbl hg8 hbl.size (Nat.le_succ _)⟩
  ·obtain rfl:X=⟨h.pc,u32 (h.pc+4),0,0,rd,x,0,0,0,false,0⟩:=HX3.out
   clear HX3
   go_upto_region 27 with(first
    |(refine Ab rfl 53 _ rfl w.heap.size rfl 53 _ _ hBw Tryz.underlying53 rfl Cs ?_)
    |(go_at_call 57;(with_reducible refine(CG.out _).mono ?_);rintro e w7 ⟨rfl,hb7⟩;replace hC:=hC.ext hb7;replace hRw:=hRw.ext hb7;replace hBw:=hBw.ext hb7;replace hbl:=hbl.trans (hb7.mono hbl.size)))
   try go_simp
   have f4:=hC.frozen 4
   have c4:=hC.cell 4
   have i1:=hBw.cell 1
   replace hRw:=hRw.farAt (b:=g) (off:=4) (Nat.ne_of_lt hgt) (.int .i64 rd)
   replace hbl:=Ap (off:=4) (u := .int .i64 rd) (qD (Nat.le_succ _) (qS hgt)) hbl
   replace hC:=hC.set 4 (.int .i64 rd)
   go_wp2_with(first
    |(refine Ab rfl 65 _ rfl g rfl 65 _ _ hC Tryz.underlying65 rfl Ao ?_)
    |(refine Ae rfl 65 _ _ rfl (w.heap.size+1) (Com.mk h.pc (u32 (h.pc+4)) 0 0 rd x 0 0 0 false 0).cells rfl rfl 65 _ hRw Ao rfl Dl ?_;intro w8 hB8 hg8))
   exact bodyPost_ret (v := .agg (Com.mk h.pc (u32 (h.pc+4)) 0 0 rd x 0 0 0 false 0).cells) (Bo rfl _ _ (w.heap.size+1) 65 _ _ rfl hB8 Tryz.underlying65 rfl Ao) rfl ⟨rfl,below_grown hbl hg8 hbl.size (Nat.le_succ _)⟩
end Go.Proofs.YtapgojgcmlnbgaaGreatDoor
