/- Parts of a proof. -/
import Derived.WalkKit
import Derived.Still
set_option linter.unusedSimpArgs false
set_option linter.unusedVariables false
set_option maxRecDepth 100000
set_option maxHeartbeats 16000000
namespace Go.Proofs.Ytapgojgcmlnbgac
open Go
section
variable {P:Program} {ops:Array Oper}
def predMask (o:Oper):Nat:=o.after.toList.foldl (fun s e=>if Region.binds .any e then s ||| 2 ^ e.on else s) 0
theorem predMask_aux (l:List Edge):∀ (s b:Nat),(l.foldl (fun s e=>if Region.binds .any e then s ||| 2 ^ e.on else s) s).testBit b=true →
  s.testBit b=true∨∃ e∈l,Region.binds .any e=true∧e.on=b:=by
 induction l with
 |nil=>intro s b h;exact .inl h
 |cons e l ih=>
  intro s b h
  rw [List.foldl_cons] at h
  rcases ih _ b h with h1 | ⟨e',he',h2⟩
  ·by_cases hb:Region.binds .any e=true
   ·rw [if_pos hb,Nat.testBit_or,Bool.or_eq_true] at h1
    rcases h1 with h1 | h1
    ·exact .inl h1
    ·rw [Nat.testBit_two_pow] at h1
     exact .inr ⟨e,List.mem_cons_self,hb,of_decide_eq_true h1⟩
   ·rw [if_neg hb] at h1
    exact .inl h1
  ·exact .inr ⟨e',List.mem_cons_of_mem _ he',h2⟩
theorem predMask_spec {o:Oper} {b:Nat} (h:(predMask o).testBit b=true):∃ e∈o.after,Region.binds .any e=true∧e.on=b:=by
 rcases predMask_aux _ _ _ h with h1 | ⟨e,he,h2⟩
 ·simp at h1
 ·exact⟨e,by simpa using he,h2⟩
def closeMask (ops:Array Oper):Nat→Nat→Nat
 |0,m=>m
 |i+1,m=>closeMask ops i (if m.testBit i then m ||| ((ops[i]?).map predMask).getD 0 else m)
def soloB (ops:Array Oper) (j:Nat):Bool:=(closeMask ops j (((ops[j]?).map predMask).getD 0)) &&& (2 ^ j - 1)==2 ^ j - 1
def Down (ops:Array Oper) (listed:Array Bool):Prop:=
 ∀ i o,ops[i]? = some o→listed.getD i false=true→∀ e∈o.after,Region.binds .any e=true→listed.getD e.on false=true
theorem closeMask_listed {listed:Array Bool} (hd:Down ops listed):∀ (i m:Nat),(∀ b,m.testBit b=true→listed.getD b false=true) →
  ∀ b,(closeMask ops i m).testBit b=true→listed.getD b false=true:=by
 intro i
 induction i with
 |zero=>intro m h b hb;exact h b hb
 |succ i ih=>
  intro m h b hb
  unfold closeMask at hb
  refine ih _ ?_ b hb
  intro c hc
  by_cases hi:m.testBit i=true
  ·rw [if_pos hi,Nat.testBit_or,Bool.or_eq_true] at hc
   rcases hc with hc | hc
   ·exact h c hc
   ·cases ho:ops[i]? with
    |none=>simp [ho] at hc
    |some o=>
     simp only [ho,Option.map_some,Option.getD_some] at hc
     obtain⟨e,he,hb,rfl⟩:=predMask_spec hc
     exact hd i o ho (h i hi) e he hb
  ·rw [if_neg hi] at hc
   exact h c hc
theorem solo_listed {listed:Array Bool} {j:Nat} (hd:Down ops listed) (hs:soloB ops j=true) (hr:j∈Region.ready .any ops listed) :
  ∀ i,i<j→listed.getD i false=true:=by
 intro i hi
 obtain⟨_,o,ho,hall⟩:=mem_ready.1 hr
 unfold soloB at hs
 rw [ho,Option.map_some,Option.getD_some] at hs
 have hs':=eq_of_beq hs
 refine closeMask_listed hd j (predMask o) ?_ i ?_
 ·intro b hm
  obtain⟨e,he,hb,rfl⟩:=predMask_spec hm
  exact hall e he hb
 ·have h1:(2 ^ j - 1).testBit i=true:=by rw [Nat.testBit_two_pow_sub_one];simpa using hi
  rw [←hs',Nat.testBit_and,Bool.and_eq_true] at h1
  exact h1.1
theorem Down.set {listed:Array Bool} {j:Nat} (hd:Down ops listed) (hr:j∈Region.ready .any ops listed):Down ops (listed.setIfInBounds j true):=by
 intro i o ho hl e he hb
 by_cases hij:j=i
 ·subst hij
  obtain⟨_,o',ho',hall⟩:=mem_ready.1 hr
  rw [ho] at ho'
  cases ho'
  exact getD_set_true (hall e he hb)
 ·rw [getD_set_ne false hij] at hl
  exact getD_set_true (hd i o ho hl e he hb)
def QOk (P:Program) (o:Oper) (a:Act) (C:World→Prop) (v:Value):Prop:=
 ∀ w,C w→o.wp P a w (fun a' w'=>a'=a.put o.dst v∧C w') (fun _ _ _=>False)
def opM (P:Program) (ops:Array Oper) (Q:Exit→Act→World→Prop) (i:Nat) (K:Act→(World→Prop)→Prop) (a:Act) (C:World→Prop):Prop:=
 ∃ o,ops[i]? = some o ∧
  ((Region.wanted o (yielded ops a.tmps)=true∧((∃ v,QOk P o a C v∧K (a.put o.dst v) C) ∨
   (soloB ops i=true∧∀ w,C w→o.wp P a w (fun a' w'=>∃ C',C' w'∧K a' C') Q))) ∨
   (Region.wanted o (yielded ops a.tmps)=false∧K (a.put o.dst undef) C))
def wpAnyM (P:Program) (ops:Array Oper) (Q:Exit→Act→World→Prop):Nat→Array Bool→Act→(World→Prop)→Prop
 |0,listed,a,C=>Region.ready .any ops listed=[]∧∀ w,C w→Q .normal a w
 |fuel+1,listed,a,C=>
  (Region.ready .any ops listed=[]→∀ w,C w→Q .normal a w) ∧
  ∀ i∈Region.ready .any ops listed,opM P ops Q i (fun a' C'=>wpAnyM P ops Q fuel (listed.setIfInBounds i true) a' C') a C
theorem wp_of_false {o:Oper} {a:Act} {w:World} {K:Act→World→Prop} {Q:Exit→Act→World→Prop} (h:o.wp P a w K (fun _ _ _=>False)):o.wp P a w K Q:=by
 unfold Oper.wp at *
 generalize (execOp a.eval o).run P w=r at *
 cases r with
 |ok n w'=>
  cases n<;>simp only [Oper.upon] at h ⊢<;>try exact h
  refine Calls.mono h fun e w'' he=>?_
  cases e with
  |returned v=>exact he
  |panicked c=>exact he.elim
  |outgrown=>obtain⟨_,_,h⟩:=he;exact h.elim
 |halt x w'=>cases x<;>simp only [Oper.upon] at h
theorem wpAny_of_M {Q:Exit→Act→World→Prop}:∀ (fuel:Nat) (listed:Array Bool) (a:Act) (C:World→Prop) (w:World),C w →
  wpAnyM P ops Q fuel listed a C→wpAny P .any ops Q fuel listed a w:=by
 intro fuel
 induction fuel with
 |zero=>intro listed a C w hC h;exact⟨h.1,h.2 w hC⟩
 |succ fuel ih=>
  intro listed a C w hC h
  refine⟨fun h0=>h.1 h0 w hC,fun i hi=>?_⟩
  obtain⟨o,ho,h1⟩:=h.2 i hi
  unfold wpOp
  simp only [ho]
  rcases h1 with⟨hw,h1⟩ | ⟨hw,h1⟩
  ·rw [if_pos hw]
   refine .inl ?_
   rcases h1 with⟨v,hq,hk⟩ | ⟨_,hq⟩
   ·refine Oper.wp_mono ?_ (wp_of_false (hq w hC))
    rintro a' w' ⟨rfl,hC'⟩
    exact ih _ _ _ _ hC' hk
   ·refine Oper.wp_mono ?_ (hq w hC)
    rintro a' w' ⟨C',hC',hk⟩
    exact ih _ _ _ _ hC' hk
  ·rw [if_neg (by rw [hw];simp)]
   exact ih _ _ _ _ hC h1
theorem put_cancel {a:Act} {x y:Option Tmp} {v u u':Value} (hne:∀ d,x=some d→y≠some d) (h:(a.put x v).put y u'=(a.put x v).put y u):a.put y u'=a.put y u:=by
 cases y with
 |none=>rfl
 |some e=>
  cases x with
  |none=>exact h
  |some d=>
   have hde:d≠e:=fun he=>hne d rfl (by rw [he])
   simp only [Act.put,Act.mk.injEq] at h ⊢
   refine⟨?_,trivial⟩
   have h:=h.1
   by_cases hlt:e<a.tmps.size
   ·have h1:=congrArg (fun t:Array Value=>t[e]?) h
    simp [hlt] at h1
    rw [h1]
   ·rw [Array.setIfInBounds_eq_of_size_le (Nat.le_of_not_lt hlt),Array.setIfInBounds_eq_of_size_le (Nat.le_of_not_lt hlt)]
theorem put_defers_ne {a:Act} {x y:Option Tmp} {d:Deferred} {v u:Value}:({ a with defers:=d::a.defers }:Act).put x v≠a.put y u:=by
 intro h
 have h1:=congrArg (fun t:Act=>t.defers.length) h
 cases x<;>cases y<;>simp [Act.put] at h1
theorem QOk.of_put {oi oj:Oper} {v u:Value} {a:Act} {C:World→Prop} (hap:oi.apart ops oj=true) (hsj:∀ cs b,oj.op ≠ .select cs b)
  (h:QOk P oj (a.put oi.dst v) C u):QOk P oj a C u:=by
 obtain⟨h1,h2,h3⟩:=Oper.apart_spec hap
 intro w hw
 have h:=h w hw
 unfold Oper.wp at *
 rw [execOp_put oj hsj a oi.dst v h1] at h
 generalize (execOp a.eval oj).run P w=r at *
 cases r with
 |ok n w'=>
  cases n<;>simp only [Oper.upon] at h ⊢
  case value z=>exact⟨put_cancel h2 h.1,h.2⟩
  case skip=>exact⟨put_cancel h2 h.1,h.2⟩
  case defer d=>exact(put_defers_ne (a:=a.put oi.dst v) h.1).elim
  case enter f args=>
   refine Calls.mono h fun e w'' he=>?_
   cases e with
   |returned z=>exact⟨put_cancel h2 he.1,he.2⟩
   |panicked c=>exact he
   |outgrown=>exact he
  case row row args=>exact Rows.mono h fun z w'' he=>⟨put_cancel h2 he.1,he.2⟩
 |halt x w'=>cases x<;>simp only [Oper.upon] at h
theorem QOk.put {oi oj:Oper} {v u:Value} {a:Act} {C:World→Prop} (hap:oi.apart ops oj=true) (hsi:∀ cs b,oi.op ≠ .select cs b)
  (h:QOk P oi a C v):QOk P oi (a.put oj.dst u) C v:=by
 obtain⟨h1,h2,h3⟩:=Oper.apart_spec hap
 have h2':∀ d,oj.dst=some d→oi.dst≠some d:=fun d hd he=>h2 d he hd
 intro w hw
 have h:=h w hw
 unfold Oper.wp at *
 rw [execOp_put oi hsi a oj.dst u h3]
 generalize (execOp a.eval oi).run P w=r at *
 have key:∀ z,a.put oi.dst z=a.put oi.dst v→(a.put oj.dst u).put oi.dst z=(a.put oj.dst u).put oi.dst v:=fun z hz=>by
  rw [Act.put_comm a u z h2',Act.put_comm a u v h2',hz]
 cases r with
 |ok n w'=>
  cases n<;>simp only [Oper.upon] at h ⊢
  case value z=>exact⟨key z h.1,h.2⟩
  case skip=>exact⟨key _ h.1,h.2⟩
  case defer d=>exact(put_defers_ne h.1).elim
  case enter f args=>
   refine Calls.mono h fun e w'' he=>?_
   cases e with
   |returned z=>exact⟨key z he.1,he.2⟩
   |panicked c=>exact he
   |outgrown=>exact he
  case row row args=>exact Rows.mono h fun z w'' he=>⟨key z he.1,he.2⟩
 |halt x w'=>cases x<;>simp only [Oper.upon] at h
def YieldsM (P:Program) (ops:Array Oper) (C:World→Prop) (o:Oper) (v:Value) (a:Act):Prop:=
 (Region.wanted o (yielded ops a.tmps)=true∧QOk P o a C v)∨(Region.wanted o (yielded ops a.tmps)=false∧v=undef)
theorem YieldsM.opM {Q:Exit→Act→World→Prop} {C:World→Prop} {i:Nat} {o:Oper} {v:Value} {a:Act} {K:Act→(World→Prop)→Prop} (hi:ops[i]? = some o)
  (hy:YieldsM P ops C o v a) (h:K (a.put o.dst v) C):opM P ops Q i K a C:=by
 refine⟨o,hi,?_⟩
 rcases hy with⟨hw,hq⟩ | ⟨hw,rfl⟩
 ·exact .inl ⟨hw, .inl ⟨v,hq,h⟩⟩
 ·exact .inr ⟨hw,h⟩
theorem YieldsM.put {C:World→Prop} {oi oj:Oper} {v u:Value} {a:Act} (hap:oi.apart ops oj=true) (hsi:∀ cs b,oi.op ≠ .select cs b)
  (hy:YieldsM P ops C oi v a):YieldsM P ops C oi v (a.put oj.dst u):=by
 have h3:=(Oper.apart_spec hap).2.2
 rcases hy with⟨hw,hq⟩ | ⟨hw,rfl⟩
 ·exact .inl ⟨by rw [wanted_put oi a oj.dst u h3];exact hw,hq.put hap hsi⟩
 ·exact .inr ⟨by rw [wanted_put oi a oj.dst u h3];exact hw,rfl⟩
theorem wpAnyM_first {Q:Exit→Act→World→Prop} {i:Nat} {oi:Oper} {v:Value} {C:World→Prop} (hi:ops[i]? = some oi) (hsel:∀ (j:Nat) (o:Oper) cs b,ops[j]? = some o→o.op ≠ .select cs b) :
  ∀ (fuel:Nat) (listed:Array Bool) (a:Act),Down ops listed→(∀ j,j<i→listed.getD j false=true) →
   (∀ j oj,ops[j]? = some oj→j≠i→listed.getD j true=false→(∀ e∈oj.after,Region.binds .any e=true→e.on≠i)→oi.apart ops oj=true) →
   i∈Region.ready .any ops listed→YieldsM P ops C oi v a →
   wpAnyM P ops Q fuel (listed.setIfInBounds i true) (a.put oi.dst v) C→wpAnyM P ops Q (fuel+1) listed a C:=by
 intro fuel
 induction fuel with
 |zero=>
  intro listed a _ _ _ hr hy H
  refine⟨fun h=>(by rw [h] at hr;cases hr),fun j hj=>?_⟩
  by_cases hji:j=i
  ·subst hji;exact hy.opM hi H
  ·have:=ready_mono hj hji
   rw [H.1] at this
   cases this
 |succ fuel ih=>
  intro listed a hdown hlow hfree hr hy H
  refine⟨fun h=>(by rw [h] at hr;cases hr),fun j hj=>?_⟩
  by_cases hji:j=i
  ·subst hji;exact hy.opM hi H
  ·obtain⟨oj,hoj,h1⟩:=H.2 j (ready_mono hj hji)
   obtain⟨hjun,oj',hoj',hall⟩:=mem_ready.1 hj
   rw [hoj] at hoj'
   cases hoj'
   have hiun:=(mem_ready.1 hr).1
   have hiun':listed.getD i false=false:=by
    rcases Nat.lt_or_ge i listed.size with h' | h'
    ·simp [h'] at hiun ⊢;exact hiun
    ·simp [Array.getElem?_eq_none h']
   have hnot:∀ e∈oj.after,Region.binds .any e=true→e.on≠i:=fun e he hb heq=>by
    have h1:=hall e he hb
    rw [heq,hiun'] at h1
    cases h1
   have hap:=hfree j oj hoj hji hjun hnot
   obtain⟨p1,p2,p3⟩:=Oper.apart_spec hap
   have hij:i<j:=by
    rcases Nat.lt_trichotomy i j with h | h | h
    ·exact h
    ·exact absurd h.symm hji
    ·have:=hlow j h
     rcases Nat.lt_or_ge j listed.size with h' | h'
     ·simp [h'] at hjun this;rw [hjun] at this;cases this
     ·simp [Array.getElem?_eq_none h'] at this
   have hfree':∀ k ok,ops[k]? = some ok→k≠i→(listed.setIfInBounds j true).getD k true=false →
     (∀ e∈ok.after,Region.binds .any e=true→e.on≠i)→oi.apart ops ok=true:=fun k ok hk hki hun hno=>by
    refine hfree k ok hk hki ?_ hno
    by_cases hjk:j=k
    ·subst hjk;exact hjun
    ·rw [getD_set_ne true hjk] at hun;exact hun
   have hlow':∀ k,k<i→(listed.setIfInBounds j true).getD k false=true:=fun k hk=>getD_set_true (hlow k hk)
   have step:∀ u,wpAnyM P ops Q fuel ((listed.setIfInBounds i true).setIfInBounds j true) ((a.put oi.dst v).put oj.dst u) C →
     wpAnyM P ops Q (fuel+1) (listed.setIfInBounds j true) (a.put oj.dst u) C:=fun u hu=>by
    refine ih (listed.setIfInBounds j true) (a.put oj.dst u) (hdown.set hj) hlow' hfree' (ready_mono hr (Ne.symm hji)) (hy.put hap (fun cs b=>hsel i oi cs b hi)) ?_
    rw [Array.setIfInBounds_comm _ _ hji,←Act.put_comm a v u p2]
    exact hu
   rw [wanted_put oj a oi.dst v p1] at h1
   refine⟨oj,hoj,?_⟩
   rcases h1 with⟨hw,⟨u,hq,hk⟩ | ⟨hs,_⟩⟩ | ⟨hw,hk⟩
   ·exact .inl ⟨hw, .inl ⟨u,hq.of_put hap (fun cs b=>hsel j oj cs b hoj),step u hk⟩⟩
   ·have:=solo_listed hdown hs hj i hij
    rw [hiun'] at this
    cases this
   ·exact .inr ⟨hw,step undef hk⟩
def firstN (n k:Nat):Array Bool:=((List.range n).map fun i=>decide (i<k)).toArray
theorem firstN_get (n k i:Nat) (d:Bool):(firstN n k).getD i d=if i<n then decide (i<k) else d:=by
 unfold firstN
 by_cases h:i<n<;>simp [h]
theorem firstN_zero (n:Nat):firstN n 0=Array.replicate n false:=by
 apply Array.ext_getElem?
 intro i
 unfold firstN
 by_cases h:i<n<;>simp [h]
theorem firstN_set {n k:Nat} (_hk:k<n):(firstN n k).setIfInBounds k true=firstN n (k+1):=by
 apply Array.ext_getElem?
 intro i
 unfold firstN
 rw [Array.getElem?_setIfInBounds]
 by_cases h:i<n
 ·by_cases hki:k=i
  ·subst hki;simp [h]
  ·simp [h,hki]
   omega
 ·simp [h]
  omega
def soloK (ops:Array Oper) (k:Nat):Bool:=soloB ops k&&Region.ready .any ops (firstN ops.size k)==[k]
def wpMix (P:Program) (ops:Array Oper) (Q:Exit→Act→World→Prop):Nat→List Oper→Act→(World→Prop)→Prop
 |_,[],a,C=>∀ w,C w→Q .normal a w
 |k,o::rest,a,C=>
  (Region.wanted o (yielded ops a.tmps)=true∧((∃ v,QOk P o a C v∧wpMix P ops Q (k+1) rest (a.put o.dst v) C) ∨
   (soloK ops k=true∧∀ w,C w→o.wp P a w (fun a' w'=>∃ C',C' w'∧wpMix P ops Q (k+1) rest a' C') Q))) ∨
  (Region.wanted o (yielded ops a.tmps)=false∧wpMix P ops Q (k+1) rest (a.put o.dst undef) C)
theorem wpAnyM_mix {Q:Exit→Act→World→Prop} (hs:Region.noSelect ops=true):∀ (l:List Oper) (k:Nat) (a:Act) (C:World→Prop),(∀ j,l[j]? = ops[k+j]?) →
  Down ops (firstN ops.size k)→Region.lexFrom .any ops l.length k (firstN ops.size k)=true→wpMix P ops Q k l a C→wpAnyM P ops Q l.length (firstN ops.size k) a C
 |[],_,_,_,_,_,hB,h=>⟨by simpa [Region.lexFrom] using hB,h⟩
 |o::l,k,a,C,hl,hd,hB,h=>by
  have h0:ops[k]? = some o:=by simpa using (hl 0).symm
  have hk:k<ops.size:=(Array.getElem?_eq_some_iff.1 h0).1
  simp only [List.length_cons,Region.lexFrom,Bool.and_eq_true] at hB
  obtain⟨⟨hr,hf⟩,hB'⟩:=hB
  have hr:k∈Region.ready .any ops (firstN ops.size k):=by simpa using hr
  have hl':∀ j,l[j]? = ops[k+1+j]? := fun j=>by have:=hl (j+1);simpa [Nat.add_assoc,Nat.add_comm 1 j] using this
  have hlow:∀ i,i<k→(firstN ops.size k).getD i false=true:=fun i hi=>by rw [firstN_get,if_pos (by omega)];simpa using hi
  have hd':=hd.set hr
  rw [firstN_set hk] at hB' hd'
  have next:=fun a' C' (hm:wpMix P ops Q (k+1) l a' C')=>wpAnyM_mix hs l (k+1) a' C' hl' hd' hB' hm
  have first:=fun v (hy:YieldsM P ops C o v a) hm=>wpAnyM_first (Q:=Q) h0 (Region.noSelect_spec hs) l.length (firstN ops.size k) a hd hlow (Region.free_spec h0 hf) hr hy (by rw [firstN_set hk];exact next (a.put o.dst v) C hm)
  simp only [wpMix] at h
  rcases h with⟨hw,⟨v,hq,hm⟩ | ⟨hsolo,hq⟩⟩ | ⟨hw,hm⟩
  ·exact first v (.inl ⟨hw,hq⟩) hm
  ·unfold soloK at hsolo
   rw [Bool.and_eq_true] at hsolo
   have hone:=eq_of_beq hsolo.2
   refine⟨fun hn=>(by rw [hn] at hr;cases hr),fun j hj=>?_⟩
   rw [hone,List.mem_singleton] at hj
   subst hj
   exact⟨o,h0, .inl ⟨hw, .inr ⟨hsolo.1,fun w hC=>Oper.wp_mono (fun a' w' ⟨C',hC',hm⟩=>⟨C',hC',by rw [firstN_set hk];exact next a' C' hm⟩) (hq w hC)⟩⟩⟩
  ·exact first undef (.inr ⟨hw,rfl⟩) hm
theorem wp_region_mix {id:Nat} {Q:Exit→Act→World→Prop} {a:Act} {w:World} (C:World→Prop) {l:List Oper} (hm:P.follows .mixedOrders=true) (hB:Region.lexB .any l.toArray=true) (hC:C w.drew)
  (h:wpMix P l.toArray Q 0 l a C):(Code.region id l.toArray true).wp P Q a w:=by
 simp only [Region.lexB,Bool.and_eq_true] at hB
 refine wp_region_any hm (wpAny_of_M _ _ _ C _ hC ?_)
 have:=wpAnyM_mix (P:=P) (ops:=l.toArray) (Q:=Q) hB.1 l 0 a C (by simp) ?_ ?_ h
 ·rw [firstN_zero] at this
  simpa using this
 ·intro i o _ hl
  rw [firstN_get] at hl
  split at hl<;>simp at hl
 ·rw [firstN_zero]
  simpa using hB.2
theorem wp_region_below {id:Nat} {Q:Exit→Act→World→Prop} {a:Act} {w:World} {l:List Oper} (hm:P.follows .mixedOrders=true) (hB:Region.lexB .any l.toArray=true)
  (h:wpMix P l.toArray Q 0 l a (fun w'=>RowKit.Below w.heap.size w w')):(Code.region id l.toArray true).wp P Q a w:=
 wp_region_mix _ hm hB (RowKit.Below.refl _ _).drew h
def wpMixW (P:Program) (ops:Array Oper) (Q:Exit→Act→World→Prop) (k:Nat) (o:Oper) (rest:List Oper) (a:Act) (C:World→Prop):Prop:=
 (∃ v,QOk P o a C v∧wpMix P ops Q (k+1) rest (a.put o.dst v) C) ∨
 (soloK ops k=true∧∀ w,C w→o.wp P a w (fun a' w'=>∃ C',C' w'∧wpMix P ops Q (k+1) rest a' C') Q)
section
variable {Q:Exit→Act→World→Prop} {k:Nat} {o:Oper} {rest:List Oper} {a:Act} {C:World→Prop}
theorem wpMix_nil (h:∀ w,C w→Q .normal a w):wpMix P ops Q k [] a C:=h
theorem wpMix_plain (hg:o.guard=none) (h:wpMixW P ops Q k o rest a C):wpMix P ops Q k (o::rest) a C:=
 .inl ⟨by simp [Region.wanted,hg],h⟩
theorem set_same {d:Nat} {v:Value} (hv:a.tmps[d]? = some v):({ tmps:=a.tmps.setIfInBounds d v,defers:=a.defers }:Act)=a:=by
 obtain⟨hlt,hg⟩:=Array.getElem?_eq_some_iff.1 hv
 have he:a.tmps.setIfInBounds d v=a.tmps:=by
  rw [←hg]
  simp [Array.setIfInBounds,hlt]
 rw [he]
theorem wanted_of {g d:Nat} {want b:Bool} (hg:o.guard=some (g,want)) (hd:(ops[g]?).bind (·.dst)=some d) (hv:a.tmps[d]? = some (.bool b)) :
  Region.wanted o (yielded ops a.tmps)=(b==want):=by
 unfold Region.wanted yielded
 simp [hg,hd,hv]
theorem wpMix_guardT {g d:Nat} {b:Bool} (hg:o.guard=some (g,true)) (hd:(ops[g]?).bind (·.dst)=some d) (hv:a.tmps[d]? = some (.bool b))
  (h1:b=true→wpMixW P ops Q k o rest { tmps:=a.tmps.setIfInBounds d (.bool true),defers:=a.defers } C)
  (h2:b=false→wpMix P ops Q (k+1) rest (Act.put { tmps:=a.tmps.setIfInBounds d (.bool false),defers:=a.defers } o.dst undef) C):wpMix P ops Q k (o::rest) a C:=by
 have hw:=wanted_of hg hd hv
 cases b
 ·have h:=h2 rfl
  rw [set_same hv] at h
  exact .inr ⟨hw,h⟩
 ·have h:=h1 rfl
  rw [set_same hv] at h
  exact .inl ⟨hw,h⟩
theorem wpMix_guardF {g d:Nat} {b:Bool} (hg:o.guard=some (g,false)) (hd:(ops[g]?).bind (·.dst)=some d) (hv:a.tmps[d]? = some (.bool b))
  (h1:b=false→wpMixW P ops Q k o rest { tmps:=a.tmps.setIfInBounds d (.bool false),defers:=a.defers } C)
  (h2:b=true→wpMix P ops Q (k+1) rest (Act.put { tmps:=a.tmps.setIfInBounds d (.bool true),defers:=a.defers } o.dst undef) C):wpMix P ops Q k (o::rest) a C:=by
 have hw:=wanted_of hg hd hv
 cases b
 ·have h:=h1 rfl
  rw [set_same hv] at h
  exact .inl ⟨hw,h⟩
 ·have h:=h2 rfl
  rw [set_same hv] at h
  exact .inr ⟨hw,h⟩
theorem wpMix_guardU {g d:Nat} {want:Bool} (hg:o.guard=some (g,want)) (hd:(ops[g]?).bind (·.dst)=some d) (hv:a.tmps[d]? = some undef)
  (h:wpMix P ops Q (k+1) rest (a.put o.dst undef) C):wpMix P ops Q k (o::rest) a C:=
 .inr ⟨by unfold Region.wanted yielded;simp [hg,hd,hv,undef],h⟩
theorem wpMixW_quiet (a':Act) (h:∀ w,C w→∀ K:Act→World→Prop,(∀ w',C w'→K a' w')→o.wp P a w K (fun _ _ _=>False)) (ha:a'=a.put o.dst (a'.tmps.getD (o.dst.getD 0) undef))
  (hr:wpMix P ops Q (k+1) rest a' C):wpMixW P ops Q k o rest a C:=
 .inl ⟨_,fun w hC=>h w hC _ fun _ hC'=>⟨ha,hC'⟩,ha▸hr⟩
end
end
attribute [irreducible] wpMix wpMixW
end Go.Proofs.Ytapgojgcmlnbgac
