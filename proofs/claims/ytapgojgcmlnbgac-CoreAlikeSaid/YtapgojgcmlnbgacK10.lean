/- Parts of a proof. -/
import Derived.Test.YtapgojgcmlnbgacK02
set_option linter.unusedSimpArgs false
set_option linter.unusedVariables false
set_option maxRecDepth 100000
set_option maxHeartbeats 16000000
namespace Go.Proofs.Ytapgojgcmlnbgac
open Go
section
variable {P:Program} {ops:Array Oper}
def QOk2 (P:Program) (o:Oper) (a:Act) (C:World→Prop) (R:World→World→Prop) (v:Value):Prop:=
 ∀ w,C w→o.wp P a w (fun a' w'=>a'=a.put o.dst v∧R w w') (fun _ _ _=>False)
def SOk (P:Program) (o:Oper) (a:Act) (C:World→Prop) (K:Act→World→Prop):Prop:=
 ∀ w,C w→o.wp P a w (fun a' w'=>(∃ v,a'=a.put o.dst v)∧K a' w') (fun _ _ _=>False)
theorem QOk2.of_put {oi oj:Oper} {v u:Value} {a:Act} {C:World→Prop} {R:World→World→Prop} (hap:oi.apart ops oj=true) (hsj:∀ cs b,oj.op ≠ .select cs b)
  (h:QOk2 P oj (a.put oi.dst v) C R u):QOk2 P oj a C R u:=by
 obtain⟨h1,h2,h3⟩:=Oper.apart_spec hap
 intro w hw
 have h:=h w hw
 unfold Oper.wp at *
 rw [execOp_put oj hsj a oi.dst v h1] at h
 generalize (execOp a.eval oj).run P w=r at *
 cases r with
 |ok n w'=>
  cases n<;>simp only [Oper.upon] at h ⊢
  case value z=>exact⟨put_cancel h2 h.1,h.2⟩
  case skip=>exact⟨put_cancel h2 h.1,h.2⟩
  case defer d=>exact(put_defers_ne (a:=a.put oi.dst v) h.1).elim
  case enter f args=>
   refine Calls.mono h fun e w'' he=>?_
   cases e with
   |returned z=>exact⟨put_cancel h2 he.1,he.2⟩
   |panicked c=>exact he
   |outgrown=>exact he
  case row row args=>exact Rows.mono h fun z w'' he=>⟨put_cancel h2 he.1,he.2⟩
 |halt x w'=>cases x<;>simp only [Oper.upon] at h
theorem QOk2.put {oi oj:Oper} {v u:Value} {a:Act} {C:World→Prop} {R:World→World→Prop} (hap:oi.apart ops oj=true) (hsi:∀ cs b,oi.op ≠ .select cs b)
  (h:QOk2 P oi a C R v):QOk2 P oi (a.put oj.dst u) C R v:=by
 obtain⟨h1,h2,h3⟩:=Oper.apart_spec hap
 have h2':∀ d,oj.dst=some d→oi.dst≠some d:=fun d hd he=>h2 d he hd
 intro w hw
 have h:=h w hw
 unfold Oper.wp at *
 rw [execOp_put oi hsi a oj.dst u h3]
 generalize (execOp a.eval oi).run P w=r at *
 have key:∀ z,a.put oi.dst z=a.put oi.dst v→(a.put oj.dst u).put oi.dst z=(a.put oj.dst u).put oi.dst v:=fun z hz=>by
  rw [Act.put_comm a u z h2',Act.put_comm a u v h2',hz]
 cases r with
 |ok n w'=>
  cases n<;>simp only [Oper.upon] at h ⊢
  case value z=>exact⟨key z h.1,h.2⟩
  case skip=>exact⟨key _ h.1,h.2⟩
  case defer d=>exact(put_defers_ne h.1).elim
  case enter f args=>
   refine Calls.mono h fun e w'' he=>?_
   cases e with
   |returned z=>exact⟨key z he.1,he.2⟩
   |panicked c=>exact he
   |outgrown=>exact he
  case row row args=>exact Rows.mono h fun z w'' he=>⟨key z he.1,he.2⟩
 |halt x w'=>cases x<;>simp only [Oper.upon] at h
theorem SOk.of_put {oi oj:Oper} {v:Value} {a:Act} {C:World→Prop} {K K':Act→World→Prop} (hap:oi.apart ops oj=true) (hsj:∀ cs b,oj.op ≠ .select cs b)
  (hK:∀ u w',K ((a.put oi.dst v).put oj.dst u) w'→K' (a.put oj.dst u) w') (h:SOk P oj (a.put oi.dst v) C K):SOk P oj a C K':=by
 obtain⟨h1,h2,h3⟩:=Oper.apart_spec hap
 intro w hw
 have h:=h w hw
 unfold Oper.wp at *
 rw [execOp_put oj hsj a oi.dst v h1] at h
 generalize (execOp a.eval oj).run P w=r at *
 cases r with
 |ok n w'=>
  cases n<;>simp only [Oper.upon] at h ⊢
  case value z=>exact⟨⟨_,rfl⟩,hK _ _ h.2⟩
  case skip=>exact⟨⟨_,rfl⟩,hK _ _ h.2⟩
  case defer d=>
   obtain⟨⟨u,hu⟩,_⟩:=h
   exact(put_defers_ne (a:=a.put oi.dst v) hu).elim
  case enter f args=>
   refine Calls.mono h fun e w'' he=>?_
   cases e with
   |returned z=>exact⟨⟨_,rfl⟩,hK _ _ he.2⟩
   |panicked c=>exact he
   |outgrown=>exact he
  case row row args=>exact Rows.mono h fun z w'' he=>⟨⟨_,rfl⟩,hK _ _ he.2⟩
 |halt x w'=>cases x<;>simp only [Oper.upon] at h
theorem SOk.mono {o:Oper} {a:Act} {C C':World→Prop} {K K':Act→World→Prop} (hC:∀ w,C' w→C w) (hK:∀ a w,K a w→K' a w) (h:SOk P o a C K):SOk P o a C' K':=
 fun w hw=>Oper.wp_mono (fun a' w' ⟨h1,h2⟩=>⟨h1,hK a' w' h2⟩) (h w (hC w hw))
def waitsB (ops:Array Oper) (j i:Nat):Bool:=(closeMask ops ops.size (((ops[j]?).map predMask).getD 0)).testBit i
def compB (ops:Array Oper) (m:Nat) (j:Nat):Bool:=(List.range ops.size).all fun i=>i==j || m.testBit i || waitsB ops j i || waitsB ops i j
theorem waits_listed {listed:Array Bool} {i j:Nat} (hd:Down ops listed) (hr:j∈Region.ready .any ops listed) (hw:waitsB ops j i=true):listed.getD i false=true:=by
 obtain⟨_,o,ho,hall⟩:=mem_ready.1 hr
 unfold waitsB at hw
 rw [ho,Option.map_some,Option.getD_some] at hw
 refine closeMask_listed hd ops.size (predMask o) ?_ i hw
 intro b hm
 obtain⟨e,he,hb,rfl⟩:=predMask_spec hm
 exact hall e he hb
theorem ready_un {listed:Array Bool} {j:Nat} (h:j∈Region.ready .any ops listed):listed.getD j false=false:=by
 have hjun:=(mem_ready.1 h).1
 rcases Nat.lt_or_ge j listed.size with h' | h'
 ·simp [h'] at hjun ⊢;exact hjun
 ·simp [Array.getElem?_eq_none h']
theorem comp_not {listed:Array Bool} {m i j:Nat} (hd:Down ops listed) (hi:i∈Region.ready .any ops listed) (hj:j∈Region.ready .any ops listed) (hne:j≠i) (hm:m.testBit i=false) (h:compB ops m j=true):False:=by
 obtain⟨_,o,ho,_⟩:=mem_ready.1 hi
 unfold compB at h
 rw [List.all_eq_true] at h
 have:=h i (List.mem_range.2 (Array.getElem?_eq_some_iff.1 ho).1)
 simp only [Bool.or_eq_true,beq_iff_eq,hm,Bool.false_eq_true,or_false] at this
 rcases this with(h1 | h1) | h1
 ·exact hne h1.symm
 ·have:=waits_listed hd hj h1
  rw [ready_un hi] at this;cases this
 ·have:=waits_listed hd hi h1
  rw [ready_un hj] at this;cases this
def opO (P:Program) (ops:Array Oper) (EM GM:Nat) (i:Nat) (K:Act→(World→Prop)→(World→Prop)→Prop) (a:Act) (G C:World→Prop):Prop:=
 ∃ o,ops[i]? = some o ∧
  ((Region.wanted o (yielded ops a.tmps)=true ∧
   ((EM.testBit i=true∧∃ v,QOk2 P o a (fun _=>True) (fun w w'=>w'=w) v∧K (a.put o.dst v) G C) ∨
    (EM.testBit i=false∧GM.testBit i=true∧∃ v,QOk2 P o a G (fun w w'=>w'=w) v∧K (a.put o.dst v) G C) ∨
    (EM.testBit i=false∧GM.testBit i=false∧∃ v,QOk2 P o a G (fun _ w'=>G w') v∧K (a.put o.dst v) G G) ∨
    (EM.testBit i=false∧GM.testBit i=false∧compB ops EM i=true∧SOk P o a C (fun a' w'=>∃ G' C',(∀ w,C' w→G' w)∧C' w'∧K a' G' C')) ∨
    (EM.testBit i=false∧GM.testBit i=false∧compB ops (EM ||| GM) i=true∧SOk P o a C (fun a' w'=>∃ C',(∀ w,C' w→G w)∧C' w'∧K a' G C')))) ∨
   (Region.wanted o (yielded ops a.tmps)=false∧K (a.put o.dst undef) G C))
def wpAnyO (P:Program) (ops:Array Oper) (EM GM:Nat) (Q:Exit→Act→World→Prop):Nat→Array Bool→Act→(World→Prop)→(World→Prop)→Prop
 |0,listed,a,_,C=>Region.ready .any ops listed=[]∧∀ w,C w→Q .normal a w
 |fuel+1,listed,a,G,C=>
  (Region.ready .any ops listed=[]→∀ w,C w→Q .normal a w) ∧
  ∀ i∈Region.ready .any ops listed,opO P ops EM GM i (fun a' G' C'=>wpAnyO P ops EM GM Q fuel (listed.setIfInBounds i true) a' G' C') a G C
theorem wpAny_of_O {EM GM:Nat} {Q:Exit→Act→World→Prop}:∀ (fuel:Nat) (listed:Array Bool) (a:Act) (G C:World→Prop) (w:World),(∀ w,C w→G w)→C w →
  wpAnyO P ops EM GM Q fuel listed a G C→wpAny P .any ops Q fuel listed a w:=by
 intro fuel
 induction fuel with
 |zero=>intro listed a G C w _ hC h;exact⟨h.1,h.2 w hC⟩
 |succ fuel ih=>
  intro listed a G C w hG hC h
  refine⟨fun h0=>h.1 h0 w hC,fun i hi=>?_⟩
  obtain⟨o,ho,h1⟩:=h.2 i hi
  unfold wpOp
  simp only [ho]
  rcases h1 with⟨hw,h1⟩ | ⟨hw,h1⟩
  ·rw [if_pos hw]
   refine .inl ?_
   rcases h1 with⟨_,v,hq,hk⟩ | ⟨_,_,v,hq,hk⟩ | ⟨_,_,v,hq,hk⟩ | ⟨_,_,_,hq⟩ | ⟨_,_,_,hq⟩
   ·refine Oper.wp_mono ?_ (wp_of_false (hq w trivial))
    rintro a' w' ⟨rfl,rfl⟩
    exact ih _ _ _ _ _ hG hC hk
   ·refine Oper.wp_mono ?_ (wp_of_false (hq w (hG w hC)))
    rintro a' w' ⟨rfl,rfl⟩
    exact ih _ _ _ _ _ hG hC hk
   ·refine Oper.wp_mono ?_ (wp_of_false (hq w (hG w hC)))
    rintro a' w' ⟨rfl,hC'⟩
    exact ih _ _ _ _ _ (fun _ h=>h) hC' hk
   ·refine Oper.wp_mono ?_ (wp_of_false (hq w hC))
    rintro a' w' ⟨_,G',C',hG',hC',hk⟩
    exact ih _ _ _ _ _ hG' hC' hk
   ·refine Oper.wp_mono ?_ (wp_of_false (hq w hC))
    rintro a' w' ⟨_,C',hG',hC',hk⟩
    exact ih _ _ _ _ _ hG' hC' hk
  ·rw [if_neg (by rw [hw];simp)]
   exact ih _ _ _ _ _ hG hC h1
inductive Reads (P:Program) (ops:Array Oper) (EM GM:Nat) (i:Nat) (o:Oper) (v:Value) (a:Act) (G:World→Prop):(World→Prop)→(World→Prop)→Prop
 |skip {C}:Region.wanted o (yielded ops a.tmps)=false→v=undef→Reads P ops EM GM i o v a G C C
 |ever {C}:Region.wanted o (yielded ops a.tmps)=true→EM.testBit i=true→QOk2 P o a (fun _=>True) (fun w w'=>w'=w) v→Reads P ops EM GM i o v a G C C
 |reads {C}:Region.wanted o (yielded ops a.tmps)=true→EM.testBit i=false→GM.testBit i=true→QOk2 P o a G (fun w w'=>w'=w) v→Reads P ops EM GM i o v a G C C
 |calls {C}:Region.wanted o (yielded ops a.tmps)=true→EM.testBit i=false→GM.testBit i=false→QOk2 P o a G (fun _ w'=>G w') v→Reads P ops EM GM i o v a G C G
theorem Reads.opO {EM GM i:Nat} {o:Oper} {v:Value} {a:Act} {G C C2:World→Prop} {K:Act→(World→Prop)→(World→Prop)→Prop} (hi:ops[i]? = some o) (hy:Reads P ops EM GM i o v a G C C2) (h:K (a.put o.dst v) G C2):opO P ops EM GM i K a G C:=by
 refine⟨o,hi,?_⟩
 cases hy with
 |skip hw hv=>subst hv;exact .inr ⟨hw,h⟩
 |ever hw he hq=>exact .inl ⟨hw, .inl ⟨he,v,hq,h⟩⟩
 |reads hw he hg hq=>exact .inl ⟨hw, .inr (.inl ⟨he,hg,v,hq,h⟩)⟩
 |calls hw he hg hq=>exact .inl ⟨hw, .inr (.inr (.inl ⟨he,hg,v,hq,h⟩))⟩
theorem wpAnyO_first {EM GM:Nat} {Q:Exit→Act→World→Prop} {i:Nat} {oi:Oper} {v:Value} (hi:ops[i]? = some oi) (hsel:∀ (j:Nat) (o:Oper) cs b,ops[j]? = some o→o.op ≠ .select cs b) :
  ∀ (fuel:Nat) (listed:Array Bool) (a:Act) (G C C2:World→Prop),Down ops listed→(∀ w,C w→G w) →
   (∀ j oj,ops[j]? = some oj→j≠i→listed.getD j true=false→(∀ e∈oj.after,Region.binds .any e=true→e.on≠i)→oi.apart ops oj=true) →
   i∈Region.ready .any ops listed→Reads P ops EM GM i oi v a G C C2 →
   wpAnyO P ops EM GM Q fuel (listed.setIfInBounds i true) (a.put oi.dst v) G C2→wpAnyO P ops EM GM Q (fuel+1) listed a G C:=by
 intro fuel
 induction fuel with
 |zero=>
  intro listed a G C C2 _ _ _ hr hy H
  refine⟨fun h=>(by rw [h] at hr;cases hr),fun j hj=>?_⟩
  by_cases hji:j=i
  ·subst hji;exact hy.opO hi H
  ·have:=ready_mono hj hji
   rw [H.1] at this
   cases this
 |succ fuel ih=>
  intro listed a G C C2 hdown hGC hfree hr hy H
  refine⟨fun h=>(by rw [h] at hr;cases hr),fun j hj=>?_⟩
  by_cases hji:j=i
  ·subst hji;exact hy.opO hi H
  ·obtain⟨oj,hoj,h1⟩:=H.2 j (ready_mono hj hji)
   obtain⟨hjun,oj',hoj',hall⟩:=mem_ready.1 hj
   rw [hoj] at hoj'
   cases hoj'
   have hiun:=ready_un hr
   have hnot:∀ e∈oj.after,Region.binds .any e=true→e.on≠i:=fun e he hb heq=>by
    have h1:=hall e he hb
    rw [heq,hiun] at h1
    cases h1
   have hap:=hfree j oj hoj hji hjun hnot
   obtain⟨p1,p2,p3⟩:=Oper.apart_spec hap
   have hsi:=fun cs b=>hsel i oi cs b hi
   have hsj:=fun cs b=>hsel j oj cs b hoj
   have hfree':∀ k ok,ops[k]? = some ok→k≠i→(listed.setIfInBounds j true).getD k true=false →
     (∀ e∈ok.after,Region.binds .any e=true→e.on≠i)→oi.apart ops ok=true:=fun k ok hk hki hun hno=>by
    refine hfree k ok hk hki ?_ hno
    by_cases hjk:j=k
    ·subst hjk;exact hjun
    ·rw [getD_set_ne true hjk] at hun;exact hun
   have putR:∀ (G' C' C2':World→Prop) (u:Value),Reads P ops EM GM i oi v a G' C' C2'→Reads P ops EM GM i oi v (a.put oj.dst u) G' C' C2':=fun G' C' C2' u hh=>by
    cases hh with
    |skip hw hv=>exact .skip (by rw [wanted_put oi a oj.dst u p3];exact hw) hv
    |ever hw he hq=>exact .ever (by rw [wanted_put oi a oj.dst u p3];exact hw) he (hq.put hap hsi)
    |reads hw he hg hq=>exact .reads (by rw [wanted_put oi a oj.dst u p3];exact hw) he hg (hq.put hap hsi)
    |calls hw he hg hq=>exact .calls (by rw [wanted_put oi a oj.dst u p3];exact hw) he hg (hq.put hap hsi)
   have step:∀ u (G' C' C2':World→Prop),(∀ w,C' w→G' w)→Reads P ops EM GM i oi v a G' C' C2'→wpAnyO P ops EM GM Q fuel ((listed.setIfInBounds i true).setIfInBounds j true) ((a.put oi.dst v).put oj.dst u) G' C2' →
     wpAnyO P ops EM GM Q (fuel+1) (listed.setIfInBounds j true) (a.put oj.dst u) G' C':=fun u G' C' C2' hGC' hR hu=>by
    refine ih (listed.setIfInBounds j true) (a.put oj.dst u) G' C' C2' (hdown.set hj) hGC' hfree' (ready_mono hr (Ne.symm hji)) (putR _ _ _ u hR) ?_
    rw [Array.setIfInBounds_comm _ _ hji,←Act.put_comm a v u p2]
    exact hu
   rw [wanted_put oj a oi.dst v p1] at h1
   refine⟨oj,hoj,?_⟩
   rcases h1 with⟨hw,h1⟩ | ⟨hw,hk⟩
   ·refine .inl ⟨hw,?_⟩
    rcases h1 with⟨he,u,hq,hk⟩ | ⟨he,hg,u,hq,hk⟩ | ⟨he,hg,u,hq,hk⟩ | ⟨he,hg,hc,hq⟩ | ⟨he,hg,hc,hq⟩
    ·exact .inl ⟨he,u,hq.of_put hap hsj,step u G C C2 hGC hy hk⟩
    ·exact .inr (.inl ⟨he,hg,u,hq.of_put hap hsj,step u G C C2 hGC hy hk⟩)
    ·refine .inr (.inr (.inl ⟨he,hg,u,hq.of_put hap hsj,?_⟩))
     cases hy with
     |skip hw hv=>exact step u G G G (fun _ h=>h) (.skip hw hv) hk
     |ever hw he hq=>exact step u G G G (fun _ h=>h) (.ever hw he hq) hk
     |reads hw he hg hq=>exact step u G G G (fun _ h=>h) (.reads hw he hg hq) hk
     |calls hw he hg hq=>exact step u G G G (fun _ h=>h) (.calls hw he hg hq) hk
    ·refine .inr (.inr (.inr (.inl ⟨he,hg,hc,?_⟩)))
     cases hy with
     |skip hw hv=>exact(hq.of_put hap hsj (fun u w' ⟨G',C',h1,h2,h3⟩=>⟨G',C',h1,h2,step u G' C' C' h1 (.skip hw hv) h3⟩))
     |ever hw he hq'=>exact(hq.of_put hap hsj (fun u w' ⟨G',C',h1,h2,h3⟩=>⟨G',C',h1,h2,step u G' C' C' h1 (.ever hw he hq') h3⟩))
     |reads hw he hg hq=>exact(comp_not hdown hr hj hji he hc).elim
     |calls hw he hg hq=>exact(comp_not hdown hr hj hji he hc).elim
    ·refine .inr (.inr (.inr (.inr ⟨he,hg,hc,?_⟩)))
     cases hy with
     |skip hw hv=>exact(hq.of_put hap hsj (fun u w' ⟨C',h1,h2,h3⟩=>⟨C',h1,h2,step u G C' C' h1 (.skip hw hv) h3⟩))
     |ever hw he hq'=>exact(hq.of_put hap hsj (fun u w' ⟨C',h1,h2,h3⟩=>⟨C',h1,h2,step u G C' C' h1 (.ever hw he hq') h3⟩))
     |reads hw he hg hq'=>exact(hq.of_put hap hsj (fun u w' ⟨C',h1,h2,h3⟩=>⟨C',h1,h2,step u G C' C' h1 (.reads hw he hg hq') h3⟩))
     |calls hw he hg hq=>exact(comp_not hdown hr hj hji (by rw [Nat.testBit_or,he,hg];rfl) hc).elim
   ·exact .inr ⟨hw,step undef G C C2 hGC hy hk⟩
def ordB (ops:Array Oper) (m:Nat):List Nat→Array Bool→Bool
 |[],listed=>(Region.ready .any ops listed).isEmpty
 |i::ord,listed=>(Region.ready .any ops listed).contains i&&Region.free .any ops listed i&&(m.testBit i || Region.ready .any ops listed==[i])&&ordB ops m ord (listed.setIfInBounds i true)
def operAt:List Oper→Nat→Option Oper
 |[],_=>none
 |o::_,0=>some o
 |_::l,n+1=>operAt l n
theorem operAt_eq:∀ (l:List Oper) (n:Nat),operAt l n=l[n]?
 |[],_=>rfl
 |_::_,0=>rfl
 |_::l,n+1=>by simpa [operAt] using operAt_eq l n
def wpO (P:Program) (l:List Oper) (EM GM m:Nat) (Q:Exit→Act→World→Prop):List Nat→Act→(World→Prop)→(World→Prop)→Prop
 |[],a,_,C=>∀ w,C w→Q .normal a w
 |i::ord,a,G,C=>∃ o,operAt l i=some o ∧
  ((Region.wanted o (yielded l.toArray a.tmps)=true ∧
   ((EM.testBit i=true∧m.testBit i=true∧∃ v,QOk2 P o a (fun _=>True) (fun w w'=>w'=w) v∧wpO P l EM GM m Q ord (a.put o.dst v) G C) ∨
    (EM.testBit i=false∧GM.testBit i=true∧m.testBit i=true∧∃ v,QOk2 P o a G (fun w w'=>w'=w) v∧wpO P l EM GM m Q ord (a.put o.dst v) G C) ∨
    (EM.testBit i=false∧GM.testBit i=false∧m.testBit i=true∧∃ v,QOk2 P o a G (fun _ w'=>G w') v∧wpO P l EM GM m Q ord (a.put o.dst v) G G) ∨
    (EM.testBit i=false∧GM.testBit i=false∧m.testBit i=false∧compB l.toArray EM i=true∧SOk P o a C (fun a' w'=>∃ G' C',(∀ w,C' w→G' w)∧C' w'∧wpO P l EM GM m Q ord a' G' C')) ∨
    (EM.testBit i=false∧GM.testBit i=false∧m.testBit i=false∧compB l.toArray (EM ||| GM) i=true∧SOk P o a C (fun a' w'=>∃ C',(∀ w,C' w→G w)∧C' w'∧wpO P l EM GM m Q ord a' G C')))) ∨
   (Region.wanted o (yielded l.toArray a.tmps)=false∧wpO P l EM GM m Q ord (a.put o.dst undef) G C))
end
theorem wpAnyO_ord {P:Program} {l:List Oper} {EM GM m:Nat} {Q:Exit→Act→World→Prop} (hs:Region.noSelect l.toArray=true):∀ (ord:List Nat) (listed:Array Bool) (a:Act) (G C:World→Prop),(∀ w,C w→G w) →
  Down l.toArray listed→ordB l.toArray m ord listed=true→wpO P l EM GM m Q ord a G C→wpAnyO P l.toArray EM GM Q ord.length listed a G C
 |[],_,_,_,_,_,_,hB,h=>⟨by simpa [ordB] using hB,h⟩
 |i::ord,listed,a,G,C,hGC,hd,hB,h=>by
  obtain⟨o,ho,h⟩:=h
  have h0:l.toArray[i]? = some o:=by rw [operAt_eq] at ho;simpa using ho
  simp only [ordB,Bool.and_eq_true] at hB
  obtain⟨⟨⟨hr,hf⟩,hm⟩,hB'⟩:=hB
  have hr:i∈Region.ready .any l.toArray listed:=by simpa using hr
  have hd':=hd.set hr
  have next:=fun a' G' C' hG' (hm:wpO P l EM GM m Q ord a' G' C')=>wpAnyO_ord hs ord (listed.setIfInBounds i true) a' G' C' hG' hd' hB' hm
  have first:=fun v C2 (hG2:∀ w,C2 w→G w) (hy:Reads P l.toArray EM GM i o v a G C C2) hm=>wpAnyO_first (Q:=Q) h0 (Region.noSelect_spec hs) ord.length listed a G C C2 hd hGC (Region.free_spec h0 hf) hr hy (next (a.put o.dst v) G C2 hG2 hm)
  have solo:m.testBit i=false→∀ j∈Region.ready .any l.toArray listed,j=i:=fun h1 j hj=>by
   rw [h1,Bool.false_or] at hm
   rw [eq_of_beq hm,List.mem_singleton] at hj
   exact hj
  rcases h with⟨hw,h⟩ | ⟨hw,hm⟩
  ·rcases h with⟨he,_,v,hq,hm⟩ | ⟨he,hg,_,v,hq,hm⟩ | ⟨he,hg,_,v,hq,hm⟩ | ⟨he,hg,hmm,hc,hq⟩ | ⟨he,hg,hmm,hc,hq⟩
   ·exact first v C hGC (.ever hw he hq) hm
   ·exact first v C hGC (.reads hw he hg hq) hm
   ·exact first v G (fun _ h=>h) (.calls hw he hg hq) hm
   ·refine⟨fun hn=>(by rw [hn] at hr;cases hr),fun j hj=>?_⟩
    obtain rfl:=solo hmm j hj
    exact⟨o,h0, .inl ⟨hw, .inr (.inr (.inr (.inl ⟨he,hg,hc,hq.mono (fun _ h=>h) fun a' w' ⟨G',C',h1,h2,h3⟩=>⟨G',C',h1,h2,next a' G' C' h1 h3⟩⟩)))⟩⟩
   ·refine⟨fun hn=>(by rw [hn] at hr;cases hr),fun j hj=>?_⟩
    obtain rfl:=solo hmm j hj
    exact⟨o,h0, .inl ⟨hw, .inr (.inr (.inr (.inr ⟨he,hg,hc,hq.mono (fun _ h=>h) fun a' w' ⟨C',h1,h2,h3⟩=>⟨C',h1,h2,next a' G C' h1 h3⟩⟩)))⟩⟩
  ·exact first undef C hGC (.skip hw rfl) hm
theorem wp_region_ord {P:Program} {id:Nat} {Q:Exit→Act→World→Prop} {a:Act} {w:World} (EM GM m:Nat) (ord:List Nat) (G C:World→Prop) {l:List Oper} (hm:P.follows .mixedOrders=true) (hs:Region.noSelect l.toArray=true)
  (hB:ordB l.toArray m ord (Array.replicate l.length false)=true) (hn:ord.length=l.length) (hGC:∀ w,C w→G w) (hC:C w.drew)
  (h:wpO P l EM GM m Q ord a G C):(Code.region id l.toArray true).wp P Q a w:=by
 refine wp_region_any hm (wpAny_of_O (EM:=EM) (GM:=GM) _ _ _ G C _ hGC hC ?_)
 have:=wpAnyO_ord hs ord (Array.replicate l.length false) a G C hGC (fun i o _ hl=>?_) hB h
 ·rw [hn] at this
  simpa using this
 ·exfalso
  rcases Nat.lt_or_ge i l.length with h' | h'
  ·simp [h'] at hl
  ·simp [Nat.not_lt.2 h'] at hl
theorem wp_region_ob {P:Program} {id:Nat} {Q:Exit→Act→World→Prop} {a:Act} {w:World} (EM GM m:Nat) (ord:List Nat) {l:List Oper} (hm:P.follows .mixedOrders=true) (hs:Region.noSelect l.toArray=true)
  (hB:ordB l.toArray m ord (Array.replicate l.length false)=true) (hn:ord.length=l.length)
  (h:wpO P l EM GM m Q ord a (fun w'=>RowKit.Below w.heap.size w w') (fun w'=>w'=w.drew)):(Code.region id l.toArray true).wp P Q a w:=
 wp_region_ord EM GM m ord (fun w'=>RowKit.Below w.heap.size w w') (fun w'=>w'=w.drew) hm hs hB hn (fun w' hw=>by rw [hw];exact(RowKit.Below.refl _ _).drew) rfl h
section
variable {P:Program} {l:List Oper} {EM GM m:Nat} {Q:Exit→Act→World→Prop} {i:Nat} {ord:List Nat} {o:Oper} {a:Act} {G C:World→Prop}
def wpOW (P:Program) (l:List Oper) (EM GM m:Nat) (Q:Exit→Act→World→Prop) (i:Nat) (o:Oper) (ord:List Nat) (a:Act) (G C:World→Prop):Prop:=
 ((EM.testBit i=true∧m.testBit i=true∧∃ v,QOk2 P o a (fun _=>True) (fun w w'=>w'=w) v∧wpO P l EM GM m Q ord (a.put o.dst v) G C) ∨
  (EM.testBit i=false∧GM.testBit i=true∧m.testBit i=true∧∃ v,QOk2 P o a G (fun w w'=>w'=w) v∧wpO P l EM GM m Q ord (a.put o.dst v) G C) ∨
  (EM.testBit i=false∧GM.testBit i=false∧m.testBit i=true∧∃ v,QOk2 P o a G (fun _ w'=>G w') v∧wpO P l EM GM m Q ord (a.put o.dst v) G G) ∨
  (EM.testBit i=false∧GM.testBit i=false∧m.testBit i=false∧compB l.toArray EM i=true∧SOk P o a C (fun a' w'=>∃ G' C',(∀ w,C' w→G' w)∧C' w'∧wpO P l EM GM m Q ord a' G' C')) ∨
  (EM.testBit i=false∧GM.testBit i=false∧m.testBit i=false∧compB l.toArray (EM ||| GM) i=true∧SOk P o a C (fun a' w'=>∃ C',(∀ w,C' w→G w)∧C' w'∧wpO P l EM GM m Q ord a' G C')))
theorem wpO_nil (h:∀ w,C w→Q .normal a w):wpO P l EM GM m Q [] a G C:=h
theorem oQ (ho:operAt l i=some o) (hg:o.guard=none) (h:wpOW P l EM GM m Q i o ord a G C):wpO P l EM GM m Q (i::ord) a G C:=
 ⟨o,ho, .inl ⟨by simp [Region.wanted,hg],h⟩⟩
theorem oT {g d:Nat} {b:Bool} (ho:operAt l i=some o) (hg:o.guard=some (g,true)) (hd:(operAt l g).bind (·.dst)=some d) (hv:a.tmps[d]? = some (.bool b))
  (h1:b=true→wpOW P l EM GM m Q i o ord { tmps:=a.tmps.setIfInBounds d (.bool true),defers:=a.defers } G C)
  (h2:b=false→wpO P l EM GM m Q ord (Act.put { tmps:=a.tmps.setIfInBounds d (.bool false),defers:=a.defers } o.dst undef) G C):wpO P l EM GM m Q (i::ord) a G C:=by
 have hw:=wanted_of (ops:=l.toArray) hg (by rw [operAt_eq] at hd;simpa using hd) hv
 cases b
 ·have h:=h2 rfl
  rw [set_same hv] at h
  exact⟨o,ho, .inr ⟨hw,h⟩⟩
 ·have h:=h1 rfl
  rw [set_same hv] at h
  exact⟨o,ho, .inl ⟨hw,h⟩⟩
theorem oF {g d:Nat} {b:Bool} (ho:operAt l i=some o) (hg:o.guard=some (g,false)) (hd:(operAt l g).bind (·.dst)=some d) (hv:a.tmps[d]? = some (.bool b))
  (h1:b=false→wpOW P l EM GM m Q i o ord { tmps:=a.tmps.setIfInBounds d (.bool false),defers:=a.defers } G C)
  (h2:b=true→wpO P l EM GM m Q ord (Act.put { tmps:=a.tmps.setIfInBounds d (.bool true),defers:=a.defers } o.dst undef) G C):wpO P l EM GM m Q (i::ord) a G C:=by
 have hw:=wanted_of (ops:=l.toArray) hg (by rw [operAt_eq] at hd;simpa using hd) hv
 cases b
 ·have h:=h1 rfl
  rw [set_same hv] at h
  exact⟨o,ho, .inl ⟨hw,h⟩⟩
 ·have h:=h2 rfl
  rw [set_same hv] at h
  exact⟨o,ho, .inr ⟨hw,h⟩⟩
theorem oU {g d:Nat} {want:Bool} (ho:operAt l i=some o) (hg:o.guard=some (g,want)) (hd:(operAt l g).bind (·.dst)=some d) (hv:a.tmps[d]? = some undef)
  (h:wpO P l EM GM m Q ord (a.put o.dst undef) G C):wpO P l EM GM m Q (i::ord) a G C:=by
 have hd':(l.toArray[g]?).bind (·.dst)=some d:=by rw [operAt_eq] at hd;simpa using hd
 exact⟨o,ho, .inr ⟨by unfold Region.wanted yielded;simp at hd';simp [hg,hd',hv,undef],h⟩⟩
theorem oE (a':Act) (he:EM.testBit i=true) (hm:m.testBit i=true) (h:∀ w,∀ K:Act→World→Prop,K a' w→o.wp P a w K (fun _ _ _=>False)) (ha:a'=a.put o.dst (a'.tmps.getD (o.dst.getD 0) undef))
  (hr:wpO P l EM GM m Q ord a' G C):wpOW P l EM GM m Q i o ord a G C:=
 .inl ⟨he,hm,_,fun w _=>h w _ ⟨ha,rfl⟩,ha▸hr⟩
theorem oR (a':Act) (he:EM.testBit i=false) (hg:GM.testBit i=true) (hm:m.testBit i=true) (h:∀ w,G w→∀ K:Act→World→Prop,K a' w→o.wp P a w K (fun _ _ _=>False)) (ha:a'=a.put o.dst (a'.tmps.getD (o.dst.getD 0) undef))
  (hr:wpO P l EM GM m Q ord a' G C):wpOW P l EM GM m Q i o ord a G C:=
 .inr (.inl ⟨he,hg,hm,_,fun w hw=>h w hw _ ⟨ha,rfl⟩,ha▸hr⟩)
theorem oC (a':Act) (he:EM.testBit i=false) (hg:GM.testBit i=false) (hm:m.testBit i=true) (h:∀ w,G w→∀ K:Act→World→Prop,(∀ w',G w'→K a' w')→o.wp P a w K (fun _ _ _=>False)) (ha:a'=a.put o.dst (a'.tmps.getD (o.dst.getD 0) undef))
  (hr:wpO P l EM GM m Q ord a' G G):wpOW P l EM GM m Q i o ord a G C:=
 .inr (.inr (.inl ⟨he,hg,hm,_,fun w hw=>h w hw _ fun _ hw'=>⟨ha,hw'⟩,ha▸hr⟩))
theorem wpOW_solo (he:EM.testBit i=false) (hg:GM.testBit i=false) (hm:m.testBit i=false) (hc:compB l.toArray EM i=true)
  (h:∀ w,C w→∀ K:Act→World→Prop,(∀ v w' (G':World→Prop),G' w'→wpO P l EM GM m Q ord (a.put o.dst v) G' (fun x=>x=w')→K (a.put o.dst v) w')→o.wp P a w K (fun _ _ _=>False)):wpOW P l EM GM m Q i o ord a G C:=
 .inr (.inr (.inr (.inl ⟨he,hg,hm,hc,fun w hw=>h w hw _ fun v w' G' hG hm=>⟨⟨v,rfl⟩,G',fun x=>x=w',fun _ hx=>hx▸hG,rfl,hm⟩⟩)))
theorem wpOW_beside (he:EM.testBit i=false) (hg:GM.testBit i=false) (hm:m.testBit i=false) (hc:compB l.toArray (EM ||| GM) i=true)
  (h:∀ w,C w→∀ K:Act→World→Prop,(∀ v w',G w'→wpO P l EM GM m Q ord (a.put o.dst v) G (fun x=>x=w')→K (a.put o.dst v) w')→o.wp P a w K (fun _ _ _=>False)):wpOW P l EM GM m Q i o ord a G C:=
 .inr (.inr (.inr (.inr ⟨he,hg,hm,hc,fun w hw=>h w hw _ fun v w' hG hm=>⟨⟨v,rfl⟩,fun x=>x=w',fun _ hx=>hx▸hG,rfl,hm⟩⟩)))
end
attribute [irreducible] wpO wpOW
end Go.Proofs.Ytapgojgcmlnbgac
