/- Parts of a proof. -/
import Derived.Test.YtapgojgcmlnbgaaGreatDoorTZ
import Derived.Test.YtapgojgcmlnbgaaGreatDoorT00
import Derived.WalkKit
import Derived.Still
import Derived.Test.YtapgojgcmlnbgaaGreatDoorProg
import Derived.WalkLawsBesides
import Derived.WalkSpells
import Derived.Lib.Hide
import Derived.Outline
import Derived.Deep.Cut
import Derived.Laws.BitsAllLaws
import Derived.OwnWalk
import Derived.Deep.RegionHeld3
set_option linter.unusedSimpArgs false
set_option linter.unusedVariables false
set_option maxRecDepth 100000
set_option maxHeartbeats 16000000
namespace Go.Proofs.YtapgojgcmlnbgaaGreatDoor
open Go Go.RowKit
open Go.Lib (decDigits nDigits decDigits_length nDigits_small)
theorem Lt (w:List UInt8) (n:Int) (l:List Int):Dz w (n::l)=Dz (w++32::decDigits n.toNat) l:=rfl
theorem I9 (l:List Int):∀ (w:List UInt8),(∀ n∈l,0≤n∧n≤9223372036854775807)→w.length≤(Dz w l).length∧(Dz w l).length≤w.length+21*l.length:=by
 induction l with
 |nil=>intro w _;exact⟨qC _,qC _⟩
 |cons n l ih=>
  intro w h
  have h1:=ih (w++32::decDigits n.toNat) (fun x hx=>h x (qP _ hx))
  have h2:=h n List.mem_cons_self
  have h3:=Eo n.toNat (by omega)
  rw [Lt]
  simp only [qO,List.length_cons,decDigits_length] at h1 ⊢
  omega
theorem Ls (word:List UInt8) (A:Option Addr) (l:List Int) (cap:Nat) (w:World) (hl:l.length≤1000000) (hw:word.length≤1000000000000) (hr:∀ n∈l,0≤n∧n≤9223372036854775807) (hA:Ar w w.heap.size .i64 A l) :
  Calls Tryz.prog 9 #[sV word, .slice A l.length cap] w fun e w'=>e = .returned (sV (Dz word l))∧Below w.heap.size w w':=by
 have hcat:=F9
 obtain⟨X,hX⟩:∃ X,Dz word l=X:=⟨_,rfl⟩
 rw [hX]
 have HX:=qA hX
 have HR:=qA hr
 clear hX hr
 go_enter Tryz.func9,Tryz.ntmps9
 go_wp2_with(fail)
 go_loopw [0,5] (fun v0 v5 wr=>∃ (k:Nat) (s:List UInt8),v0=sV s∧v5 = .int .i64 k∧k≤l.length∧s.length≤word.length+21*k∧Below w.heap.size w wr∧Hid (Dz s (l.drop k)=X)) (fun _ v _=>l.length - (intOf v).toNat)
 case atStart=>exact⟨0,word,rfl,rfl,Nat.zero_le _,by omega,qB _ _,HX⟩
 case round=>
  obtain⟨k,s,rfl,rfl,hk,hsl,hb,HS⟩:=hrel
  by_cases hlt:k<l.length
  ·obtain⟨b,o,rfl,hbB,hc⟩:=(hA.below hb).at_ hlt
   have hck:=hc k hlt
   obtain⟨n,hn⟩:∃ n,l.getD k 0=n:=⟨_,rfl⟩
   rw [hn] at hck
   have hd:l.drop k=n::l.drop (k+1):=by rw [qM hlt,←hn];simp [List.getD,qI hlt]
   have hnb:=HR.out n (by rw [←List.take_append_drop k l,hd];simp)
   obtain⟨u,rfl⟩:=qH hnb.1
   have CD:=qA (fun W=>Ug (u+1) u (by omega) (by omega) W)
   have h20:=Eo u (by omega)
   rw [←decDigits_length] at h20
   have HS2:Hid (Dz (s++32::decDigits u) (l.drop (k+1))=X):=by have h:=HS.out;rw [hd,Lt] at h;exact h
   have hlen1:s.length+1≤9223372036854775807:=by omega
   have hlen2:s.length+1+(decDigits u).length≤9223372036854775807:=by omega
   clear hn hd HS hc hnb
   have hcat2:∀ a:List UInt8,Value.string (⟨a.toArray⟩++⟨#[32]⟩)=sV (a++[32]):=fun a=>F9 a [32]
   go_wp2_with(go_at_call 17;(with_reducible refine(CD.out _).mono ?_);rintro e w2 ⟨rfl,hb2⟩)
   go_roundw
   case rel=>exact⟨k+1,s++32::decDigits u,by simp,by go_num,by omega,by simp;omega,hb.trans (hb2.mono hb.size),HS2⟩
   case measure=>simp [intOf];omega
  ·obtain rfl:k=l.length:=by omega
   have e1:decide ((l.length:Int)<l.length)=false:=by simp
   have hX2:=HS.out
   rw [List.drop_length] at hX2
   have HX2:=qA hX2
   clear hX2
   go_wp2_with(fail)
   go_ret
   exact⟨by rw [←HX2.out];rfl,hb⟩
theorem N2 {B:Nat} (word:List UInt8) (A:Option Addr) (l:List Int) (cap:Nat) (w:World) (V:Ig B w) (hB:B≤w.heap.size) (hl:l.length≤1000000) (hw:word.length≤1000000000000) (hr:∀ n∈l,0≤n∧n≤9223372036854775807) (hA:Ar w w.heap.size .i64 A l) :
  Calls Tryz.prog 49 #[sV word, .slice A l.length cap] w fun e w'=>e = .returned (sV (Dz word l))∧Below w.heap.size w w':=by
 have hcat:=F9
 obtain⟨X,hX⟩:∃ X,Dz word l=X:=⟨_,rfl⟩
 rw [hX]
 have HX:=qA hX
 have HR:=qA hr
 clear hX hr
 go_enter Tryz.func49,Tryz.ntmps49
 go_wp2_with(fail)
 go_loopw [0,9] (fun v0 v9 wr=>∃ (k:Nat) (s:List UInt8),v0=sV s∧v9 = .int .i64 k∧k≤l.length∧s.length≤word.length+21*k∧Below w.heap.size w wr∧Hid (Dz s (l.drop k)=X)) (fun _ v _=>l.length - (intOf v).toNat)
 case atStart=>exact⟨0,word,rfl,rfl,Nat.zero_le _,by omega,qB _ _,HX⟩
 case round=>
  obtain⟨k,s,rfl,rfl,hk,hsl,hb,HS⟩:=hrel
  by_cases hlt:k<l.length
  ·obtain⟨b,o,rfl,hbB,hc⟩:=(hA.below hb).at_ hlt
   have hck:=hc k hlt
   obtain⟨n,hn⟩:∃ n,l.getD k 0=n:=⟨_,rfl⟩
   rw [hn] at hck
   have hd:l.drop k=n::l.drop (k+1):=by rw [qM hlt,←hn];simp [List.getD,qI hlt]
   have hnb:=HR.out n (by rw [←List.take_append_drop k l,hd];simp)
   obtain⟨u,rfl⟩:=qH hnb.1
   have hbz:=hb.size
   have CD:=qA (fun W (hW:Below w.heap.size w W)=>Yz u (by omega) W (V.ext (hW.mono hB)) (qD hB hW.size))
   have hwr:(u:Int)%18446744073709551616=u:=by omega
   have h20:=Eo u (by omega)
   rw [←decDigits_length] at h20
   have HS2:Hid (Dz (s++32::decDigits u) (l.drop (k+1))=X):=by have h:=HS.out;rw [hd,Lt] at h;exact h
   have hlen1:1+(decDigits u).length≤9223372036854775807:=by omega
   have hlen2:s.length+(1+(decDigits u).length)≤9223372036854775807:=by omega
   clear hn hd HS hc hnb
   have hcat2:∀ a:List UInt8,Value.string (⟨#[32]⟩++⟨a.toArray⟩)=sV (32::a):=fun a=>F9 [32] a
   go_wp2_with(go_at_call 48;(with_reducible refine(CD.out _ hb).mono ?_);rintro e w2 ⟨rfl,hb2⟩)
   go_roundw
   case rel=>exact⟨k+1,s++32::decDigits u,by simp,by go_num,by omega,by simp;omega,hb.trans (hb2.mono hb.size),HS2⟩
   case measure=>simp [intOf];omega
  ·obtain rfl:k=l.length:=by omega
   have e1:decide ((l.length:Int)<l.length)=false:=by simp
   have hX2:=HS.out
   rw [List.drop_length] at hX2
   have HX2:=qA hX2
   clear hX2
   go_wp2_with(fail)
   go_ret
   exact⟨by rw [←HX2.out];rfl,hb⟩
theorem Vt {B:Nat} (word:List UInt8) (A:Option Addr) (l:List Int) (cap:Nat) (w:World) (V:Ig B w) (hB:B≤w.heap.size) (hl:l.length≤1000000) (hw:word.length≤1000000000000) (hr:∀ n∈l,0≤n∧n≤4294967295) (hA:Ar w w.heap.size .u32 A l) :
  Calls Tryz.prog 51 #[sV word, .slice A l.length cap] w fun e w'=>e = .returned (sV (Dz word l))∧Below w.heap.size w w':=by
 have hcat:=F9
 obtain⟨X,hX⟩:∃ X,Dz word l=X:=⟨_,rfl⟩
 rw [hX]
 have HX:=qA hX
 have HR:=qA hr
 clear hX hr
 go_enter Tryz.func51,Tryz.ntmps51
 go_wp2_with(fail)
 go_loopw [0,9] (fun v0 v9 wr=>∃ (k:Nat) (s:List UInt8),v0=sV s∧v9 = .int .i64 k∧k≤l.length∧s.length≤word.length+21*k∧Below w.heap.size w wr∧Hid (Dz s (l.drop k)=X)) (fun _ v _=>l.length - (intOf v).toNat)
 case atStart=>exact⟨0,word,rfl,rfl,Nat.zero_le _,by omega,qB _ _,HX⟩
 case round=>
  obtain⟨k,s,rfl,rfl,hk,hsl,hb,HS⟩:=hrel
  by_cases hlt:k<l.length
  ·obtain⟨b,o,rfl,hbB,hc⟩:=(hA.below hb).at_ hlt
   have hck:=hc k hlt
   obtain⟨n,hn⟩:∃ n,l.getD k 0=n:=⟨_,rfl⟩
   rw [hn] at hck
   have hd:l.drop k=n::l.drop (k+1):=by rw [qM hlt,←hn];simp [List.getD,qI hlt]
   have hnb:=HR.out n (by rw [←List.take_append_drop k l,hd];simp)
   obtain⟨u,rfl⟩:=qH hnb.1
   have hbz:=hb.size
   have CD:=qA (fun W (hW:Below w.heap.size w W)=>Yz u (by omega) W (V.ext (hW.mono hB)) (qD hB hW.size))
   have hwr:(u:Int)%18446744073709551616=u:=by omega
   have h20:=Eo u (by omega)
   rw [←decDigits_length] at h20
   have HS2:Hid (Dz (s++32::decDigits u) (l.drop (k+1))=X):=by have h:=HS.out;rw [hd,Lt] at h;exact h
   have hlen1:1+(decDigits u).length≤9223372036854775807:=by omega
   have hlen2:s.length+(1+(decDigits u).length)≤9223372036854775807:=by omega
   clear hn hd HS hc hnb
   have hcat2:∀ a:List UInt8,Value.string (⟨#[32]⟩++⟨a.toArray⟩)=sV (32::a):=fun a=>F9 [32] a
   go_wp2_with(go_at_call 48;(with_reducible refine(CD.out _ hb).mono ?_);rintro e w2 ⟨rfl,hb2⟩)
   go_roundw
   case rel=>exact⟨k+1,s++32::decDigits u,by simp,by go_num,by omega,by simp;omega,hb.trans (hb2.mono hb.size),HS2⟩
   case measure=>simp [intOf];omega
  ·obtain rfl:k=l.length:=by omega
   have e1:decide ((l.length:Int)<l.length)=false:=by simp
   have hX2:=HS.out
   rw [List.drop_length] at hX2
   have HX2:=qA hX2
   clear hX2
   go_wp2_with(fail)
   go_ret
   exact⟨by rw [←HX2.out];rfl,hb⟩
end Go.Proofs.YtapgojgcmlnbgaaGreatDoor
namespace Go.Proofs.YtapgojgcmlnbgaaGreatDoor
open Go
section
variable {P:Program} {ops:Array Oper}
def Lq (o:Oper):Nat:=o.after.toList.foldl (fun s e=>if Region.binds .any e then s ||| 2 ^ e.on else s) 0
theorem Zc (l:List Edge):∀ (s b:Nat),(l.foldl (fun s e=>if Region.binds .any e then s ||| 2 ^ e.on else s) s).testBit b=true →
  s.testBit b=true∨∃ e∈l,Region.binds .any e=true∧e.on=b:=by
 induction l with
 |nil=>intro s b h;exact .inl h
 |cons e l ih=>
  intro s b h
  rw [List.foldl_cons] at h
  rcases ih _ b h with h1 | ⟨e',he',h2⟩
  ·by_cases hb:Region.binds .any e=true
   ·rw [if_pos hb,Nat.testBit_or,Bool.or_eq_true] at h1
    rcases h1 with h1 | h1
    ·exact .inl h1
    ·rw [Nat.testBit_two_pow] at h1
     exact .inr ⟨e,List.mem_cons_self,hb,of_decide_eq_true h1⟩
   ·rw [if_neg hb] at h1
    exact .inl h1
  ·exact .inr ⟨e',qP _ he',h2⟩
theorem K8 {o:Oper} {b:Nat} (h:(Lq o).testBit b=true):∃ e∈o.after,Region.binds .any e=true∧e.on=b:=by
 rcases Zc _ _ _ h with h1 | ⟨e,he,h2⟩
 ·simp at h1
 ·exact⟨e,by simpa using he,h2⟩
def Lg (ops:Array Oper):Nat→Nat→Nat
 |0,m=>m
 |i+1,m=>Lg ops i (if m.testBit i then m ||| ((ops[i]?).map Lq).getD 0 else m)
def Aeq (ops:Array Oper) (j:Nat):Bool:=(Lg ops j (((ops[j]?).map Lq).getD 0)) &&& (2 ^ j - 1)==2 ^ j - 1
def Down (ops:Array Oper) (listed:Array Bool):Prop:=
 ∀ i o,ops[i]? = some o→listed.getD i false=true→∀ e∈o.after,Region.binds .any e=true→listed.getD e.on false=true
theorem Lh {listed:Array Bool} (hd:Down ops listed):∀ (i m:Nat),(∀ b,m.testBit b=true→listed.getD b false=true) →
  ∀ b,(Lg ops i m).testBit b=true→listed.getD b false=true:=by
 intro i
 induction i with
 |zero=>intro m h b hb;exact h b hb
 |succ i ih=>
  intro m h b hb
  unfold Lg at hb
  refine ih _ ?_ b hb
  intro c hc
  by_cases hi:m.testBit i=true
  ·rw [if_pos hi,Nat.testBit_or,Bool.or_eq_true] at hc
   rcases hc with hc | hc
   ·exact h c hc
   ·cases ho:ops[i]? with
    |none=>simp [ho] at hc
    |some o=>
     simp only [ho,Option.map_some,Option.getD_some] at hc
     obtain⟨e,he,hb,rfl⟩:=K8 hc
     exact hd i o ho (h i hi) e he hb
  ·rw [if_neg hi] at hc
   exact h c hc
theorem Abv {listed:Array Bool} {j:Nat} (hd:Down ops listed) (hs:Aeq ops j=true) (hr:j∈Region.ready .any ops listed) :
  ∀ i,i<j→listed.getD i false=true:=by
 intro i hi
 obtain⟨_,o,ho,hall⟩:=mem_ready.1 hr
 unfold Aeq at hs
 rw [ho,Option.map_some,Option.getD_some] at hs
 have hs':=eq_of_beq hs
 refine Lh hd j (Lq o) ?_ i ?_
 ·intro b hm
  obtain⟨e,he,hb,rfl⟩:=K8 hm
  exact hall e he hb
 ·have h1:(2 ^ j - 1).testBit i=true:=by rw [Nat.testBit_two_pow_sub_one];simpa using hi
  rw [←hs',Nat.testBit_and,Bool.and_eq_true] at h1
  exact h1.1
theorem Down.set {listed:Array Bool} {j:Nat} (hd:Down ops listed) (hr:j∈Region.ready .any ops listed):Down ops (listed.setIfInBounds j true):=by
 intro i o ho hl e he hb
 by_cases hij:j=i
 ·subst hij
  obtain⟨_,o',ho',hall⟩:=mem_ready.1 hr
  rw [ho] at ho'
  cases ho'
  exact getD_set_true (hall e he hb)
 ·rw [getD_set_ne false hij] at hl
  exact getD_set_true (hd i o ho hl e he hb)
def QOk (P:Program) (o:Oper) (a:Act) (C:World→Prop) (v:Value):Prop:=
 ∀ w,C w→o.wp P a w (fun a' w'=>a'=a.put o.dst v∧C w') (fun _ _ _=>False)
def opM (P:Program) (ops:Array Oper) (Q:Exit→Act→World→Prop) (i:Nat) (K:Act→(World→Prop)→Prop) (a:Act) (C:World→Prop):Prop:=
 ∃ o,ops[i]? = some o ∧
  ((Region.wanted o (yielded ops a.tmps)=true∧((∃ v,QOk P o a C v∧K (a.put o.dst v) C) ∨
   (Aeq ops i=true∧∀ w,C w→o.wp P a w (fun a' w'=>∃ C',C' w'∧K a' C') Q))) ∨
   (Region.wanted o (yielded ops a.tmps)=false∧K (a.put o.dst undef) C))
def P6 (P:Program) (ops:Array Oper) (Q:Exit→Act→World→Prop):Nat→Array Bool→Act→(World→Prop)→Prop
 |0,listed,a,C=>Region.ready .any ops listed=[]∧∀ w,C w→Q .normal a w
 |fuel+1,listed,a,C=>
  (Region.ready .any ops listed=[]→∀ w,C w→Q .normal a w) ∧
  ∀ i∈Region.ready .any ops listed,opM P ops Q i (fun a' C'=>P6 P ops Q fuel (listed.setIfInBounds i true) a' C') a C
theorem Hy {o:Oper} {a:Act} {w:World} {K:Act→World→Prop} {Q:Exit→Act→World→Prop} (h:o.wp P a w K (fun _ _ _=>False)):o.wp P a w K Q:=by
 unfold Oper.wp at *
 generalize (execOp a.eval o).run P w=r at *
 cases r with
 |ok n w'=>
  cases n<;>simp only [Oper.upon] at h ⊢<;>try exact h
  refine Calls.mono h fun e w'' he=>?_
  cases e with
  |returned v=>exact he
  |panicked c=>exact he.elim
  |outgrown=>obtain⟨_,_,h⟩:=he;exact h.elim
 |halt x w'=>cases x<;>simp only [Oper.upon] at h
theorem Ad5 {Q:Exit→Act→World→Prop}:∀ (fuel:Nat) (listed:Array Bool) (a:Act) (C:World→Prop) (w:World),C w →
  P6 P ops Q fuel listed a C→wpAny P .any ops Q fuel listed a w:=by
 intro fuel
 induction fuel with
 |zero=>intro listed a C w hC h;exact⟨h.1,h.2 w hC⟩
 |succ fuel ih=>
  intro listed a C w hC h
  refine⟨fun h0=>h.1 h0 w hC,fun i hi=>?_⟩
  obtain⟨o,ho,h1⟩:=h.2 i hi
  unfold wpOp
  simp only [ho]
  rcases h1 with⟨hw,h1⟩ | ⟨hw,h1⟩
  ·rw [if_pos hw]
   refine .inl ?_
   rcases h1 with⟨v,hq,hk⟩ | ⟨_,hq⟩
   ·refine Oper.wp_mono ?_ (Hy (hq w hC))
    rintro a' w' ⟨rfl,hC'⟩
    exact ih _ _ _ _ hC' hk
   ·refine Oper.wp_mono ?_ (hq w hC)
    rintro a' w' ⟨C',hC',hk⟩
    exact ih _ _ _ _ hC' hk
  ·rw [if_neg (by rw [hw];simp)]
   exact ih _ _ _ _ hC h1
theorem Gh {a:Act} {x y:Option Tmp} {v u u':Value} (hne:∀ d,x=some d→y≠some d) (h:(a.put x v).put y u'=(a.put x v).put y u):a.put y u'=a.put y u:=by
 cases y with
 |none=>rfl
 |some e=>
  cases x with
  |none=>exact h
  |some d=>
   have hde:d≠e:=fun he=>hne d rfl (by rw [he])
   simp only [Act.put,Act.mk.injEq] at h ⊢
   refine⟨?_,trivial⟩
   have h:=h.1
   by_cases hlt:e<a.tmps.size
   ·have h1:=congrArg (fun t:Array Value=>t[e]?) h
    simp [hlt] at h1
    rw [h1]
   ·rw [Array.setIfInBounds_eq_of_size_le (Nat.le_of_not_lt hlt),Array.setIfInBounds_eq_of_size_le (Nat.le_of_not_lt hlt)]
theorem G3 {a:Act} {x y:Option Tmp} {d:Deferred} {v u:Value}:({ a with defers:=d::a.defers }:Act).put x v≠a.put y u:=by
 intro h
 have h1:=congrArg (fun t:Act=>t.defers.length) h
 cases x<;>cases y<;>simp [Act.put] at h1
theorem QOk.of_put {oi oj:Oper} {v u:Value} {a:Act} {C:World→Prop} (hap:oi.apart ops oj=true) (hsj:∀ cs b,oj.op ≠ .select cs b)
  (h:QOk P oj (a.put oi.dst v) C u):QOk P oj a C u:=by
 obtain⟨h1,h2,h3⟩:=Oper.apart_spec hap
 intro w hw
 have h:=h w hw
 unfold Oper.wp at *
 rw [execOp_put oj hsj a oi.dst v h1] at h
 generalize (execOp a.eval oj).run P w=r at *
 cases r with
 |ok n w'=>
  cases n<;>simp only [Oper.upon] at h ⊢
  case value z=>exact⟨Gh h2 h.1,h.2⟩
  case skip=>exact⟨Gh h2 h.1,h.2⟩
  case defer d=>exact(G3 (a:=a.put oi.dst v) h.1).elim
  case enter f args=>
   refine Calls.mono h fun e w'' he=>?_
   cases e with
   |returned z=>exact⟨Gh h2 he.1,he.2⟩
   |panicked c=>exact he
   |outgrown=>exact he
  case row row args=>exact Rows.mono h fun z w'' he=>⟨Gh h2 he.1,he.2⟩
 |halt x w'=>cases x<;>simp only [Oper.upon] at h
theorem QOk.put {oi oj:Oper} {v u:Value} {a:Act} {C:World→Prop} (hap:oi.apart ops oj=true) (hsi:∀ cs b,oi.op ≠ .select cs b)
  (h:QOk P oi a C v):QOk P oi (a.put oj.dst u) C v:=by
 obtain⟨h1,h2,h3⟩:=Oper.apart_spec hap
 have h2':∀ d,oj.dst=some d→oi.dst≠some d:=fun d hd he=>h2 d he hd
 intro w hw
 have h:=h w hw
 unfold Oper.wp at *
 rw [execOp_put oi hsi a oj.dst u h3]
 generalize (execOp a.eval oi).run P w=r at *
 have key:∀ z,a.put oi.dst z=a.put oi.dst v→(a.put oj.dst u).put oi.dst z=(a.put oj.dst u).put oi.dst v:=fun z hz=>by
  rw [Act.put_comm a u z h2',Act.put_comm a u v h2',hz]
 cases r with
 |ok n w'=>
  cases n<;>simp only [Oper.upon] at h ⊢
  case value z=>exact⟨key z h.1,h.2⟩
  case skip=>exact⟨key _ h.1,h.2⟩
  case defer d=>exact(G3 h.1).elim
  case enter f args=>
   refine Calls.mono h fun e w'' he=>?_
   cases e with
   |returned z=>exact⟨key z he.1,he.2⟩
   |panicked c=>exact he
   |outgrown=>exact he
  case row row args=>exact Rows.mono h fun z w'' he=>⟨key z he.1,he.2⟩
 |halt x w'=>cases x<;>simp only [Oper.upon] at h
def Lx (P:Program) (ops:Array Oper) (C:World→Prop) (o:Oper) (v:Value) (a:Act):Prop:=
 (Region.wanted o (yielded ops a.tmps)=true∧QOk P o a C v)∨(Region.wanted o (yielded ops a.tmps)=false∧v=undef)
theorem Lx.opM {Q:Exit→Act→World→Prop} {C:World→Prop} {i:Nat} {o:Oper} {v:Value} {a:Act} {K:Act→(World→Prop)→Prop} (hi:ops[i]? = some o)
  (hy:Lx P ops C o v a) (h:K (a.put o.dst v) C):opM P ops Q i K a C:=by
 refine⟨o,hi,?_⟩
 rcases hy with⟨hw,hq⟩ | ⟨hw,rfl⟩
 ·exact .inl ⟨hw, .inl ⟨v,hq,h⟩⟩
 ·exact .inr ⟨hw,h⟩
theorem Lx.put {C:World→Prop} {oi oj:Oper} {v u:Value} {a:Act} (hap:oi.apart ops oj=true) (hsi:∀ cs b,oi.op ≠ .select cs b)
  (hy:Lx P ops C oi v a):Lx P ops C oi v (a.put oj.dst u):=by
 have h3:=(Oper.apart_spec hap).2.2
 rcases hy with⟨hw,hq⟩ | ⟨hw,rfl⟩
 ·exact .inl ⟨by rw [wanted_put oi a oj.dst u h3];exact hw,hq.put hap hsi⟩
 ·exact .inr ⟨by rw [wanted_put oi a oj.dst u h3];exact hw,rfl⟩
theorem Zq {Q:Exit→Act→World→Prop} {i:Nat} {oi:Oper} {v:Value} {C:World→Prop} (hi:ops[i]? = some oi) (hsel:∀ (j:Nat) (o:Oper) cs b,ops[j]? = some o→o.op ≠ .select cs b) :
  ∀ (fuel:Nat) (listed:Array Bool) (a:Act),Down ops listed→(∀ j,j<i→listed.getD j false=true) →
   (∀ j oj,ops[j]? = some oj→j≠i→listed.getD j true=false→(∀ e∈oj.after,Region.binds .any e=true→e.on≠i)→oi.apart ops oj=true) →
   i∈Region.ready .any ops listed→Lx P ops C oi v a →
   P6 P ops Q fuel (listed.setIfInBounds i true) (a.put oi.dst v) C→P6 P ops Q (fuel+1) listed a C:=by
 intro fuel
 induction fuel with
 |zero=>
  intro listed a _ _ _ hr hy H
  refine⟨fun h=>(by rw [h] at hr;cases hr),fun j hj=>?_⟩
  by_cases hji:j=i
  ·subst hji;exact hy.opM hi H
  ·have:=ready_mono hj hji
   rw [H.1] at this
   cases this
 |succ fuel ih=>
  intro listed a hdown hlow hfree hr hy H
  refine⟨fun h=>(by rw [h] at hr;cases hr),fun j hj=>?_⟩
  by_cases hji:j=i
  ·subst hji;exact hy.opM hi H
  ·obtain⟨oj,hoj,h1⟩:=H.2 j (ready_mono hj hji)
   obtain⟨hjun,oj',hoj',hall⟩:=mem_ready.1 hj
   rw [hoj] at hoj'
   cases hoj'
   have hiun:=(mem_ready.1 hr).1
   have hiun':listed.getD i false=false:=by
    rcases Nat.lt_or_ge i listed.size with h' | h'
    ·simp [h'] at hiun ⊢;exact hiun
    ·simp [Array.getElem?_eq_none h']
   have hnot:∀ e∈oj.after,Region.binds .any e=true→e.on≠i:=fun e he hb heq=>by
    have h1:=hall e he hb
    rw [heq,hiun'] at h1
    cases h1
   have hap:=hfree j oj hoj hji hjun hnot
   obtain⟨p1,p2,p3⟩:=Oper.apart_spec hap
   have hij:i<j:=by
    rcases Nat.lt_trichotomy i j with h | h | h
    ·exact h
    ·exact absurd h.symm hji
    ·have:=hlow j h
     rcases Nat.lt_or_ge j listed.size with h' | h'
     ·simp [h'] at hjun this;rw [hjun] at this;cases this
     ·simp [Array.getElem?_eq_none h'] at this
   have hfree':∀ k ok,ops[k]? = some ok→k≠i→(listed.setIfInBounds j true).getD k true=false →
     (∀ e∈ok.after,Region.binds .any e=true→e.on≠i)→oi.apart ops ok=true:=fun k ok hk hki hun hno=>by
    refine hfree k ok hk hki ?_ hno
    by_cases hjk:j=k
    ·subst hjk;exact hjun
    ·rw [getD_set_ne true hjk] at hun;exact hun
   have hlow':∀ k,k<i→(listed.setIfInBounds j true).getD k false=true:=fun k hk=>getD_set_true (hlow k hk)
   have step:∀ u,P6 P ops Q fuel ((listed.setIfInBounds i true).setIfInBounds j true) ((a.put oi.dst v).put oj.dst u) C →
     P6 P ops Q (fuel+1) (listed.setIfInBounds j true) (a.put oj.dst u) C:=fun u hu=>by
    refine ih (listed.setIfInBounds j true) (a.put oj.dst u) (hdown.set hj) hlow' hfree' (ready_mono hr (Ne.symm hji)) (hy.put hap (fun cs b=>hsel i oi cs b hi)) ?_
    rw [Array.setIfInBounds_comm _ _ hji,←Act.put_comm a v u p2]
    exact hu
   rw [wanted_put oj a oi.dst v p1] at h1
   refine⟨oj,hoj,?_⟩
   rcases h1 with⟨hw,⟨u,hq,hk⟩ | ⟨hs,_⟩⟩ | ⟨hw,hk⟩
   ·exact .inl ⟨hw, .inl ⟨u,hq.of_put hap (fun cs b=>hsel j oj cs b hoj),step u hk⟩⟩
   ·have:=Abv hdown hs hj i hij
    rw [hiun'] at this
    cases this
   ·exact .inr ⟨hw,step undef hk⟩
def H6 (n k:Nat):Array Bool:=((List.range n).map fun i=>decide (i<k)).toArray
theorem Ur (n k i:Nat) (d:Bool):(H6 n k).getD i d=if i<n then decide (i<k) else d:=by
 unfold H6
 by_cases h:i<n<;>simp [h]
theorem Sw (n:Nat):H6 n 0=Array.replicate n false:=by
 apply Array.ext_getElem?
 intro i
 unfold H6
 by_cases h:i<n<;>simp [h]
theorem Po {n k:Nat} (_hk:k<n):(H6 n k).setIfInBounds k true=H6 n (k+1):=by
 apply Array.ext_getElem?
 intro i
 unfold H6
 rw [Array.getElem?_setIfInBounds]
 by_cases h:i<n
 ·by_cases hki:k=i
  ·subst hki;simp [h]
  ·simp [h,hki]
   omega
 ·simp [h]
  omega
def Aip (ops:Array Oper) (k:Nat):Bool:=Aeq ops k&&Region.ready .any ops (H6 ops.size k)==[k]
def Hw (P:Program) (ops:Array Oper) (Q:Exit→Act→World→Prop):Nat→List Oper→Act→(World→Prop)→Prop
 |_,[],a,C=>∀ w,C w→Q .normal a w
 |k,o::rest,a,C=>
  (Region.wanted o (yielded ops a.tmps)=true∧((∃ v,QOk P o a C v∧Hw P ops Q (k+1) rest (a.put o.dst v) C) ∨
   (Aip ops k=true∧∀ w,C w→o.wp P a w (fun a' w'=>∃ C',C' w'∧Hw P ops Q (k+1) rest a' C') Q))) ∨
  (Region.wanted o (yielded ops a.tmps)=false∧Hw P ops Q (k+1) rest (a.put o.dst undef) C)
theorem V5 {Q:Exit→Act→World→Prop} (hs:Region.noSelect ops=true):∀ (l:List Oper) (k:Nat) (a:Act) (C:World→Prop),(∀ j,l[j]? = ops[k+j]?) →
  Down ops (H6 ops.size k)→Region.lexFrom .any ops l.length k (H6 ops.size k)=true→Hw P ops Q k l a C→P6 P ops Q l.length (H6 ops.size k) a C
 |[],_,_,_,_,_,hB,h=>⟨by simpa [Region.lexFrom] using hB,h⟩
 |o::l,k,a,C,hl,hd,hB,h=>by
  have h0:ops[k]? = some o:=by simpa using (hl 0).symm
  have hk:k<ops.size:=(Array.getElem?_eq_some_iff.1 h0).1
  simp only [List.length_cons,Region.lexFrom,Bool.and_eq_true] at hB
  obtain⟨⟨hr,hf⟩,hB'⟩:=hB
  have hr:k∈Region.ready .any ops (H6 ops.size k):=by simpa using hr
  have hl':∀ j,l[j]? = ops[k+1+j]? := fun j=>by have:=hl (j+1);simpa [Nat.add_assoc,Nat.add_comm 1 j] using this
  have hlow:∀ i,i<k→(H6 ops.size k).getD i false=true:=fun i hi=>by rw [Ur,if_pos (by omega)];simpa using hi
  have hd':=hd.set hr
  rw [Po hk] at hB' hd'
  have next:=fun a' C' (hm:Hw P ops Q (k+1) l a' C')=>V5 hs l (k+1) a' C' hl' hd' hB' hm
  have first:=fun v (hy:Lx P ops C o v a) hm=>Zq (Q:=Q) h0 (Region.noSelect_spec hs) l.length (H6 ops.size k) a hd hlow (Region.free_spec h0 hf) hr hy (by rw [Po hk];exact next (a.put o.dst v) C hm)
  simp only [Hw] at h
  rcases h with⟨hw,⟨v,hq,hm⟩ | ⟨hsolo,hq⟩⟩ | ⟨hw,hm⟩
  ·exact first v (.inl ⟨hw,hq⟩) hm
  ·unfold Aip at hsolo
   rw [Bool.and_eq_true] at hsolo
   have hone:=eq_of_beq hsolo.2
   refine⟨fun hn=>(by rw [hn] at hr;cases hr),fun j hj=>?_⟩
   rw [hone,List.mem_singleton] at hj
   subst hj
   exact⟨o,h0, .inl ⟨hw, .inr ⟨hsolo.1,fun w hC=>Oper.wp_mono (fun a' w' ⟨C',hC',hm⟩=>⟨C',hC',by rw [Po hk];exact next a' C' hm⟩) (hq w hC)⟩⟩⟩
  ·exact first undef (.inr ⟨hw,rfl⟩) hm
theorem Wy {id:Nat} {Q:Exit→Act→World→Prop} {a:Act} {w:World} (C:World→Prop) {l:List Oper} (hm:P.follows .mixedOrders=true) (hB:Region.lexB .any l.toArray=true) (hC:C w.drew)
  (h:Hw P l.toArray Q 0 l a C):(Code.region id l.toArray true).wp P Q a w:=by
 simp only [Region.lexB,Bool.and_eq_true] at hB
 refine wp_region_any hm (Ad5 _ _ _ C _ hC ?_)
 have:=V5 (P:=P) (ops:=l.toArray) (Q:=Q) hB.1 l 0 a C (by simp) ?_ ?_ h
 ·rw [Sw] at this
  simpa using this
 ·intro i o _ hl
  rw [Ur] at hl
  split at hl<;>simp at hl
 ·rw [Sw]
  simpa using hB.2
theorem Aw {id:Nat} {Q:Exit→Act→World→Prop} {a:Act} {w:World} {l:List Oper} (hm:P.follows .mixedOrders=true) (hB:Region.lexB .any l.toArray=true)
  (h:Hw P l.toArray Q 0 l a (fun w'=>RowKit.Below w.heap.size w w')):(Code.region id l.toArray true).wp P Q a w:=
 Wy _ hm hB (RowKit.Below.refl _ _).drew h
def V7 (P:Program) (ops:Array Oper) (Q:Exit→Act→World→Prop) (k:Nat) (o:Oper) (rest:List Oper) (a:Act) (C:World→Prop):Prop:=
 (∃ v,QOk P o a C v∧Hw P ops Q (k+1) rest (a.put o.dst v) C) ∨
 (Aip ops k=true∧∀ w,C w→o.wp P a w (fun a' w'=>∃ C',C' w'∧Hw P ops Q (k+1) rest a' C') Q)
section
variable {Q:Exit→Act→World→Prop} {k:Nat} {o:Oper} {rest:List Oper} {a:Act} {C:World→Prop}
theorem Ck (h:∀ w,C w→Q .normal a w):Hw P ops Q k [] a C:=h
theorem Bt (hg:o.guard=none) (h:V7 P ops Q k o rest a C):Hw P ops Q k (o::rest) a C:=
 .inl ⟨by simp [Region.wanted,hg],h⟩
theorem Ja {d:Nat} {v:Value} (hv:a.tmps[d]? = some v):({ tmps:=a.tmps.setIfInBounds d v,defers:=a.defers }:Act)=a:=by
 obtain⟨hlt,hg⟩:=Array.getElem?_eq_some_iff.1 hv
 have he:a.tmps.setIfInBounds d v=a.tmps:=by
  rw [←hg]
  simp [Array.setIfInBounds,hlt]
 rw [he]
theorem Ot {g d:Nat} {want b:Bool} (hg:o.guard=some (g,want)) (hd:(ops[g]?).bind (·.dst)=some d) (hv:a.tmps[d]? = some (.bool b)) :
  Region.wanted o (yielded ops a.tmps)=(b==want):=by
 unfold Region.wanted yielded
 simp [hg,hd,hv]
theorem Bj {g d:Nat} {b:Bool} (hg:o.guard=some (g,true)) (hd:(ops[g]?).bind (·.dst)=some d) (hv:a.tmps[d]? = some (.bool b))
  (h1:b=true→V7 P ops Q k o rest { tmps:=a.tmps.setIfInBounds d (.bool true),defers:=a.defers } C)
  (h2:b=false→Hw P ops Q (k+1) rest (Act.put { tmps:=a.tmps.setIfInBounds d (.bool false),defers:=a.defers } o.dst undef) C):Hw P ops Q k (o::rest) a C:=by
 have hw:=Ot hg hd hv
 cases b
 ·have h:=h2 rfl
  rw [Ja hv] at h
  exact .inr ⟨hw,h⟩
 ·have h:=h1 rfl
  rw [Ja hv] at h
  exact .inl ⟨hw,h⟩
theorem Bi {g d:Nat} {b:Bool} (hg:o.guard=some (g,false)) (hd:(ops[g]?).bind (·.dst)=some d) (hv:a.tmps[d]? = some (.bool b))
  (h1:b=false→V7 P ops Q k o rest { tmps:=a.tmps.setIfInBounds d (.bool false),defers:=a.defers } C)
  (h2:b=true→Hw P ops Q (k+1) rest (Act.put { tmps:=a.tmps.setIfInBounds d (.bool true),defers:=a.defers } o.dst undef) C):Hw P ops Q k (o::rest) a C:=by
 have hw:=Ot hg hd hv
 cases b
 ·have h:=h1 rfl
  rw [Ja hv] at h
  exact .inl ⟨hw,h⟩
 ·have h:=h2 rfl
  rw [Ja hv] at h
  exact .inr ⟨hw,h⟩
theorem Bl {g d:Nat} {want:Bool} (hg:o.guard=some (g,want)) (hd:(ops[g]?).bind (·.dst)=some d) (hv:a.tmps[d]? = some undef)
  (h:Hw P ops Q (k+1) rest (a.put o.dst undef) C):Hw P ops Q k (o::rest) a C:=
 .inr ⟨by unfold Region.wanted yielded;simp [hg,hd,hv,undef],h⟩
theorem Bh (a':Act) (h:∀ w,C w→∀ K:Act→World→Prop,(∀ w',C w'→K a' w')→o.wp P a w K (fun _ _ _=>False)) (ha:a'=a.put o.dst (a'.tmps.getD (o.dst.getD 0) undef))
  (hr:Hw P ops Q (k+1) rest a' C):V7 P ops Q k o rest a C:=
 .inl ⟨_,fun w hC=>h w hC _ fun _ hC'=>⟨ha,hC'⟩,ha▸hr⟩
end
end
attribute [irreducible] Hw V7
end Go.Proofs.YtapgojgcmlnbgaaGreatDoor
namespace Go.Proofs.YtapgojgcmlnbgaaGreatDoor
open Go.RowKit
abbrev CutT (a b:Int) (f t:Nat):Prop:=∀ (x:Int) (w:World),0≤x→x≤4294967295→Calls Tryz.prog 42 #[.int .u32 x, .int .i64 a, .int .i64 b] w fun e w'=>e = .returned (.int .u32 (Av x f t))∧Below w.heap.size w w'
theorem Qh (a b:Int) (f t:Nat) (D M:Int) (H1:∀ x,Av x f t=x / D%M) (H2:∀ x,0≤x→x≤4294967295→bits .and .u32 (x / D) (M - 1)=x / D%M)
  (H:∀ (x:Int) (w:World),0≤x→x≤4294967295→Hid (Av x f t=x / D%M)→Hid (bits .and .u32 (x / D) (M - 1)=x / D%M) →
   Calls Tryz.prog 42 #[.int .u32 x, .int .i64 a, .int .i64 b] w fun e w'=>e = .returned (.int .u32 (Av x f t))∧Below w.heap.size w w':=by
    intro x w h0 h1 HX hm
    go_enter Tryz.func42,Tryz.ntmps42
    go_wp2
    refine Aw (by kernel_rfl) (by kernel_rfl) ?_
    repeat'(first
     |refine Bt rfl ?_
     |(refine' Bh _ (fun wq hwq K hK=>?_) ?_ ?_;rotate_left 1;(· go_wp2_with(fail);all_goals exact hK _ hwq);rfl)
     |((first | refine Bj rfl rfl rfl ?_ ?_ | refine Bi rfl rfl rfl ?_ ?_)<;>intro hc<;>first | (cases hc;done) | ((try cases hc);simp only [Act.put,sA,sS,sZ]))
     |refine Bl rfl rfl rfl ?_)
    all_goals
     refine Ck ?_
     intro w4 hw4
     go_wp2
     go_ret
     refine⟨?_,hw4⟩
     rw [HX.out]
     first | exact Dx hm.out | exact Dx (by simpa using hm.out)):CutT a b f t:=fun x w h0 h1=>
 H x w h0 h1 (qA (H1 x)) (qA (H2 x h0 h1))
theorem Md:CutT 0 6 0 6:=Qh 0 6 0 6 1 128 (fun x=>Gc x _ _ _ _ (by decide) (by decide)) fun x h0 h1=>Em (x / 1) 7 (by omega) (by omega) (by omega)
theorem Rv:CutT 12 14 12 14:=Qh 12 14 12 14 4096 8 (fun x=>Gc x _ _ _ _ (by decide) (by decide)) fun x h0 h1=>Em (x / 4096) 3 (by omega) (by omega) (by omega)
theorem Oc:CutT 25 31 25 31:=Qh 25 31 25 31 33554432 128 (fun x=>Gc x _ _ _ _ (by decide) (by decide)) fun x h0 h1=>Em (x / 33554432) 7 (by omega) (by omega) (by omega)
theorem Aae:CutT 7 11 7 11:=Qh 7 11 7 11 128 32 (fun x=>Gc x _ _ _ _ (by decide) (by decide)) fun x h0 h1=>Em (x / 128) 5 (by omega) (by omega) (by omega)
theorem Afg:CutT 15 19 15 19:=Qh 15 19 15 19 32768 32 (fun x=>Gc x _ _ _ _ (by decide) (by decide)) fun x h0 h1=>Em (x / 32768) 5 (by omega) (by omega) (by omega)
theorem Xb:CutT 20 24 20 24:=Qh 20 24 20 24 1048576 32 (fun x=>Gc x _ _ _ _ (by decide) (by decide)) fun x h0 h1=>Em (x / 1048576) 5 (by omega) (by omega) (by omega)
theorem Xc:CutT 31 31 31 31:=Qh 31 31 31 31 2147483648 2 (fun x=>Gc x _ _ _ _ (by decide) (by decide)) fun x h0 h1=>Em (x / 2147483648) 1 (by omega) (by omega) (by omega)
theorem Aff:CutT 12 19 12 19:=Qh 12 19 12 19 4096 256 (fun x=>Gc x _ _ _ _ (by decide) (by decide)) fun x h0 h1=>Em (x / 4096) 8 (by omega) (by omega) (by omega)
theorem Afh:CutT 20 20 20 20:=Qh 20 20 20 20 1048576 2 (fun x=>Gc x _ _ _ _ (by decide) (by decide)) fun x h0 h1=>Em (x / 1048576) 1 (by omega) (by omega) (by omega)
theorem Afj:CutT 21 30 21 30:=Qh 21 30 21 30 2097152 1024 (fun x=>Gc x _ _ _ _ (by decide) (by decide)) fun x h0 h1=>Em (x / 2097152) 10 (by omega) (by omega) (by omega)
theorem Afi:CutT 20 31 20 31:=Qh 20 31 20 31 1048576 4096 (fun x=>Gc x _ _ _ _ (by decide) (by decide)) fun x h0 h1=>Em (x / 1048576) 12 (by omega) (by omega) (by omega)
theorem Ai9:CutT 7 7 7 7:=Qh 7 7 7 7 128 2 (fun x=>Gc x _ _ _ _ (by decide) (by decide)) fun x h0 h1=>Em (x / 128) 1 (by omega) (by omega) (by omega)
theorem Afk:CutT 25 30 25 30:=Qh 25 30 25 30 33554432 64 (fun x=>Gc x _ _ _ _ (by decide) (by decide)) fun x h0 h1=>Em (x / 33554432) 6 (by omega) (by omega) (by omega)
theorem Ahh:CutT 8 11 8 11:=Qh 8 11 8 11 256 16 (fun x=>Gc x _ _ _ _ (by decide) (by decide)) fun x h0 h1=>Em (x / 256) 4 (by omega) (by omega) (by omega)
theorem Agr (x:Int) (w:World) (h0:0≤x) (h1:x<2097152) :
  Calls Tryz.prog 43 #[.int .u32 x, .int .i64 21] w fun e w'=>e = .returned (.int .i32 (Is x 21))∧w=w':=by
 have HX:=qA (show Is x 21=if x<1048576 then x else x - 2097152 by unfold Is;rw [show(2:Int) ^ (21 - 1)=1048576 by decide,show(2:Int) ^ 21=2097152 by decide])
 go_enter Tryz.func43,Tryz.ntmps43
 go_wp2
 go_ret
 refine⟨?_,rfl⟩
 rw [HX.out]
 refine Dx ?_
 show wrap32 (x*2048) / 2048=if x<1048576 then x else x - 2097152
 unfold wrap32
 split<;>omega
theorem Agq (x:Int) (w:World) (h0:0≤x) (h1:x<8192) :
  Calls Tryz.prog 43 #[.int .u32 x, .int .i64 13] w fun e w'=>e = .returned (.int .i32 (Is x 13))∧w=w':=by
 have HX:=qA (show Is x 13=if x<4096 then x else x - 8192 by unfold Is;rw [show(2:Int) ^ (13 - 1)=4096 by decide,show(2:Int) ^ 13=8192 by decide])
 go_enter Tryz.func43,Tryz.ntmps43
 go_wp2
 go_ret
 refine⟨?_,rfl⟩
 rw [HX.out]
 refine Dx ?_
 show wrap32 (x*524288) / 524288=if x<4096 then x else x - 8192
 unfold wrap32
 split<;>omega
theorem Yd (x:Int) (w:World) (h0:0≤x) (h1:x<4096) :
  Calls Tryz.prog 43 #[.int .u32 x, .int .i64 12] w fun e w'=>e = .returned (.int .i32 (Is x 12))∧w=w':=by
 have HX:=qA (show Is x 12=if x<2048 then x else x - 4096 by unfold Is;rw [show(2:Int) ^ (12 - 1)=2048 by decide,show(2:Int) ^ 12=4096 by decide])
 go_enter Tryz.func43,Tryz.ntmps43
 go_wp2
 go_ret
 refine⟨?_,rfl⟩
 rw [HX.out]
 refine Dx ?_
 show wrap32 (x*1048576) / 1048576=if x<2048 then x else x - 4096
 unfold wrap32
 split<;>omega
theorem Ak3 (op first form low mid:Int) (g g2 n:Nat) (w:World) (h0:0≤op - first) (h1:op - first<n) (h2:0≤first) (h3:op≤100) (hg:w.cell? ⟨g,0,none⟩=some (.int .i64 op)) (hm:w.cell? ⟨g2,(op - first).toNat,none⟩=some (.int .u32 mid)) :
  Calls Tryz.prog 41 #[.int .i64 first, .int .i64 form, .int .u32 low, .slice (some ⟨g2,0,none⟩) n n, .pointer (some ⟨g,0,none⟩)] w
   fun e w'=>e = .returned (.tuple #[.agg #[.int .i64 form, .int .u32 low, .int .u32 mid, .int .u32 0], .bool true])∧Below w.heap.size w w':=by
 obtain⟨k,hk⟩:=qH h0
 rw [hk] at hm h1
 simp only [Int.toNat_natCast] at hm
 have zg:=World.block_lt_of_cell? _ _ hg
 have zm:=World.block_lt_of_cell? _ _ hm
 dsimp only at zg zm
 go_enter Tryz.func41,Tryz.ntmps41
 go_wp2
 exact bodyPost_ret (v := .tuple #[.agg #[.int .i64 form, .int .u32 low, .int .u32 mid, .int .u32 0], .bool true]) (by simp [results,Tryz.results41,go_sem]) rfl ⟨rfl,(qB _ _).alloc (qC _) _⟩
def D3 (w:World) (op form low mid up:Int):Prop:=Calls Tryz.prog 23 #[.int .i64 op] w fun e w'=>e = .returned (.tuple #[.agg #[.int .i64 form, .int .u32 low, .int .u32 mid, .int .u32 up], .bool true])∧Below w.heap.size w w'
theorem Am0 (w:World) (op:Int) (l:Array Value):Below w.heap.size w (((w.alloc (.cells #[.int .i64 op] 3)).alloc (.cells #[.int .i64 0, .int .u32 0, .int .u32 0, .int .u32 0] 90)).alloc (.cells l 27)):=
 (((qB w.heap.size w).alloc (qC _) _).alloc (by simp) _).alloc (by simp;omega) _
theorem Am1 (w:World) (op:Int) (l:Array Value) {w1:World} (hb1:Below (((w.alloc (.cells #[.int .i64 op] 3)).alloc (.cells #[.int .i64 0, .int .u32 0, .int .u32 0, .int .u32 0] 90)).alloc (.cells l 27)).heap.size (((w.alloc (.cells #[.int .i64 op] 3)).alloc (.cells #[.int .i64 0, .int .u32 0, .int .u32 0, .int .u32 0] 90)).alloc (.cells l 27)) w1) :
  Blk w1 (w.heap.size+1) 90 #[.int .i64 0, .int .u32 0, .int .u32 0, .int .u32 0]∧Below w.heap.size w w1:=
 ⟨((Blk.newAt (w.alloc (.cells #[.int .i64 op] 3)) 90 #[.int .i64 0, .int .u32 0, .int .u32 0, .int .u32 0] (g:=w.heap.size+1) (by simp)).alloc _).ext hb1,(Am0 w op l).trans (hb1.mono (by simp;omega))⟩
theorem Am2 {w w1:World} (h:Below w.heap.size w w1) {a b c d:Nat} {x y z t:Value}:Below w.heap.size w ((((w1.setCell ⟨w.heap.size+1,a,none⟩ x).setCell ⟨w.heap.size+1,b,none⟩ y).setCell ⟨w.heap.size+1,c,none⟩ z).setCell ⟨w.heap.size+1,d,none⟩ t):=
 Ap (Nat.le_succ _) (Ap (Nat.le_succ _) (Ap (Nat.le_succ _) (Ap (Nat.le_succ _) h)))
theorem Lo (op form low mid up:Int) (H:∀ w,D3 w op form low mid up:=by
  intro w
  unfold D3
  go_enter Tryz.func23,Tryz.ntmps23
  go_wp2_with(fail)
  exact bodyPost_ret (by simp [results,Tryz.results23,go_sem]) rfl ⟨rfl,((qB _ _).alloc (qC _) _).alloc (by simp) _⟩) (w:World):D3 w op form low mid up:=H w
theorem Ih (op form low mid up:Int) (H:Hid (∀ (first fo lo:Int) (g g2 n:Nat) (w:World),0≤op - first→op - first<n→0≤first→op≤100→w.cell? ⟨g,0,none⟩=some (.int .i64 op)→w.cell? ⟨g2,(op - first).toNat,none⟩=some (.int .u32 mid) →
  Calls Tryz.prog 41 #[.int .i64 first, .int .i64 fo, .int .u32 lo, .slice (some ⟨g2,0,none⟩) n n, .pointer (some ⟨g,0,none⟩)] w fun e w'=>e = .returned (.tuple #[.agg #[.int .i64 fo, .int .u32 lo, .int .u32 mid, .int .u32 0], .bool true])∧Below w.heap.size w w')→∀ w,D3 w op form low mid up:=by
  intro U w
  unfold D3
  go_enter Tryz.func23,Tryz.ntmps23
  go_wp2_with(go_at_call 41;(refine(U.out _ _ _ _ _ _ _ ?_ ?_ ?_ ?_ ?_ ?_).mono ?_;decide;decide;decide;decide;go_simp;go_simp;rintro e w1 ⟨rfl,hb1⟩;obtain⟨hR,hb2⟩:=Am1 w _ _ hb1;have hRc:=hR.cell;have hRf:=hR.frozen))
  exact bodyPost_ret (by simp [results,Tryz.results23,go_sem,hRc]) rfl ⟨rfl,Am2 hb2⟩) (w:World):D3 w op form low mid up:=H (qA (fun first fo lo g g2 n w=>Ak3 op first fo lo mid g g2 n w)) w
theorem Amr (w:World):D3 w 1 0 55 0 0:=Lo _ _ _ _ _ (w:=w)
theorem Ams (w:World):D3 w 2 0 23 0 0:=Lo _ _ _ _ _ (w:=w)
theorem Amt (w:World):D3 w 3 1 111 0 0:=Lo _ _ _ _ _ (w:=w)
theorem Amu (w:World):D3 w 4 2 103 0 0:=Lo _ _ _ _ _ (w:=w)
theorem Amv (w:World):D3 w 5 4 99 0 0:=Ih _ _ _ _ _ (w:=w)
theorem Amw (w:World):D3 w 6 4 99 1 0:=Ih _ _ _ _ _ (w:=w)
theorem Amx (w:World):D3 w 7 4 99 4 0:=Ih _ _ _ _ _ (w:=w)
theorem Amy (w:World):D3 w 8 4 99 5 0:=Ih _ _ _ _ _ (w:=w)
theorem Amz (w:World):D3 w 9 4 99 6 0:=Ih _ _ _ _ _ (w:=w)
theorem Ala (w:World):D3 w 10 4 99 7 0:=Ih _ _ _ _ _ (w:=w)
theorem Alb (w:World):D3 w 11 2 3 0 0:=Ih _ _ _ _ _ (w:=w)
theorem Alc (w:World):D3 w 12 2 3 1 0:=Ih _ _ _ _ _ (w:=w)
theorem Ald (w:World):D3 w 13 2 3 2 0:=Ih _ _ _ _ _ (w:=w)
theorem Ale (w:World):D3 w 14 2 3 4 0:=Ih _ _ _ _ _ (w:=w)
theorem Alf (w:World):D3 w 15 2 3 5 0:=Ih _ _ _ _ _ (w:=w)
theorem Alg (w:World):D3 w 16 5 35 0 0:=Ih _ _ _ _ _ (w:=w)
theorem Alh (w:World):D3 w 17 5 35 1 0:=Ih _ _ _ _ _ (w:=w)
theorem Ali (w:World):D3 w 18 5 35 2 0:=Ih _ _ _ _ _ (w:=w)
theorem Alj (w:World):D3 w 19 2 19 0 0:=Ih _ _ _ _ _ (w:=w)
theorem Alk (w:World):D3 w 20 2 19 2 0:=Ih _ _ _ _ _ (w:=w)
theorem All (w:World):D3 w 21 2 19 3 0:=Ih _ _ _ _ _ (w:=w)
theorem Alm (w:World):D3 w 22 2 19 4 0:=Ih _ _ _ _ _ (w:=w)
theorem Aln (w:World):D3 w 23 2 19 6 0:=Ih _ _ _ _ _ (w:=w)
theorem Alo (w:World):D3 w 24 2 19 7 0:=Ih _ _ _ _ _ (w:=w)
theorem Alp (w:World):D3 w 25 3 19 1 0:=Lo _ _ _ _ _ (w:=w)
theorem Alq (w:World):D3 w 26 3 19 5 0:=Lo _ _ _ _ _ (w:=w)
theorem Alr (w:World):D3 w 27 3 19 5 32:=Lo _ _ _ _ _ (w:=w)
theorem Als (w:World):D3 w 28 6 51 0 0:=Ih _ _ _ _ _ (w:=w)
theorem Alt (w:World):D3 w 29 6 51 0 32:=Lo _ _ _ _ _ (w:=w)
theorem Alu (w:World):D3 w 30 6 51 1 0:=Ih _ _ _ _ _ (w:=w)
theorem Alv (w:World):D3 w 31 6 51 2 0:=Ih _ _ _ _ _ (w:=w)
theorem Alw (w:World):D3 w 32 6 51 3 0:=Ih _ _ _ _ _ (w:=w)
theorem Alx (w:World):D3 w 33 6 51 4 0:=Ih _ _ _ _ _ (w:=w)
theorem Aly (w:World):D3 w 34 6 51 5 0:=Ih _ _ _ _ _ (w:=w)
theorem Alz (w:World):D3 w 35 6 51 5 32:=Lo _ _ _ _ _ (w:=w)
theorem Al0 (w:World):D3 w 36 6 51 6 0:=Ih _ _ _ _ _ (w:=w)
theorem Al1 (w:World):D3 w 37 6 51 7 0:=Ih _ _ _ _ _ (w:=w)
theorem Al2 (w:World):D3 w 38 6 51 0 1:=Lo _ _ _ _ _ (w:=w)
theorem Al3 (w:World):D3 w 39 6 51 1 1:=Lo _ _ _ _ _ (w:=w)
theorem Al4 (w:World):D3 w 40 6 51 2 1:=Lo _ _ _ _ _ (w:=w)
theorem Al5 (w:World):D3 w 41 6 51 3 1:=Lo _ _ _ _ _ (w:=w)
theorem Al6 (w:World):D3 w 42 6 51 4 1:=Lo _ _ _ _ _ (w:=w)
theorem Al7 (w:World):D3 w 43 6 51 5 1:=Lo _ _ _ _ _ (w:=w)
theorem Al8 (w:World):D3 w 44 6 51 6 1:=Lo _ _ _ _ _ (w:=w)
theorem Al9 (w:World):D3 w 45 6 51 7 1:=Lo _ _ _ _ _ (w:=w)
theorem Ama (w:World):D3 w 46 2 15 0 0:=Lo _ _ _ _ _ (w:=w)
theorem Amb (w:World):D3 w 47 7 115 0 0:=Lo _ _ _ _ _ (w:=w)
theorem Amc (w:World):D3 w 48 7 115 0 1:=Lo _ _ _ _ _ (w:=w)
abbrev Kind.cells (k:Kind):Array Value:=#[.int .i64 k.form, .int .u32 k.low, .int .u32 k.middle, .int .u32 k.upper]
theorem Akp (n:Nat) (hn:n<49) (k:Kind) (hk:Ks n=some k) (w:World):Calls Tryz.prog 23 #[.int .i64 n] w fun e w'=>e = .returned (.tuple #[.agg k.cells, .bool true])∧Below w.heap.size w w':=by
 match n,hn with
 |0,_=>have e:Ks ((0:Nat):Int)=none:=rfl;rw [e] at hk;cases hk
 |1,_=>obtain rfl:(⟨0,55,0,0⟩:Kind)=k:=qK hk;exact Amr w
 |2,_=>obtain rfl:(⟨0,23,0,0⟩:Kind)=k:=qK hk;exact Ams w
 |3,_=>obtain rfl:(⟨1,111,0,0⟩:Kind)=k:=qK hk;exact Amt w
 |4,_=>obtain rfl:(⟨2,103,0,0⟩:Kind)=k:=qK hk;exact Amu w
 |5,_=>obtain rfl:(⟨4,99,0,0⟩:Kind)=k:=qK hk;exact Amv w
 |6,_=>obtain rfl:(⟨4,99,1,0⟩:Kind)=k:=qK hk;exact Amw w
 |7,_=>obtain rfl:(⟨4,99,4,0⟩:Kind)=k:=qK hk;exact Amx w
 |8,_=>obtain rfl:(⟨4,99,5,0⟩:Kind)=k:=qK hk;exact Amy w
 |9,_=>obtain rfl:(⟨4,99,6,0⟩:Kind)=k:=qK hk;exact Amz w
 |10,_=>obtain rfl:(⟨4,99,7,0⟩:Kind)=k:=qK hk;exact Ala w
 |11,_=>obtain rfl:(⟨2,3,0,0⟩:Kind)=k:=qK hk;exact Alb w
 |12,_=>obtain rfl:(⟨2,3,1,0⟩:Kind)=k:=qK hk;exact Alc w
 |13,_=>obtain rfl:(⟨2,3,2,0⟩:Kind)=k:=qK hk;exact Ald w
 |14,_=>obtain rfl:(⟨2,3,4,0⟩:Kind)=k:=qK hk;exact Ale w
 |15,_=>obtain rfl:(⟨2,3,5,0⟩:Kind)=k:=qK hk;exact Alf w
 |16,_=>obtain rfl:(⟨5,35,0,0⟩:Kind)=k:=qK hk;exact Alg w
 |17,_=>obtain rfl:(⟨5,35,1,0⟩:Kind)=k:=qK hk;exact Alh w
 |18,_=>obtain rfl:(⟨5,35,2,0⟩:Kind)=k:=qK hk;exact Ali w
 |19,_=>obtain rfl:(⟨2,19,0,0⟩:Kind)=k:=qK hk;exact Alj w
 |20,_=>obtain rfl:(⟨2,19,2,0⟩:Kind)=k:=qK hk;exact Alk w
 |21,_=>obtain rfl:(⟨2,19,3,0⟩:Kind)=k:=qK hk;exact All w
 |22,_=>obtain rfl:(⟨2,19,4,0⟩:Kind)=k:=qK hk;exact Alm w
 |23,_=>obtain rfl:(⟨2,19,6,0⟩:Kind)=k:=qK hk;exact Aln w
 |24,_=>obtain rfl:(⟨2,19,7,0⟩:Kind)=k:=qK hk;exact Alo w
 |25,_=>obtain rfl:(⟨3,19,1,0⟩:Kind)=k:=qK hk;exact Alp w
 |26,_=>obtain rfl:(⟨3,19,5,0⟩:Kind)=k:=qK hk;exact Alq w
 |27,_=>obtain rfl:(⟨3,19,5,32⟩:Kind)=k:=qK hk;exact Alr w
 |28,_=>obtain rfl:(⟨6,51,0,0⟩:Kind)=k:=qK hk;exact Als w
 |29,_=>obtain rfl:(⟨6,51,0,32⟩:Kind)=k:=qK hk;exact Alt w
 |30,_=>obtain rfl:(⟨6,51,1,0⟩:Kind)=k:=qK hk;exact Alu w
 |31,_=>obtain rfl:(⟨6,51,2,0⟩:Kind)=k:=qK hk;exact Alv w
 |32,_=>obtain rfl:(⟨6,51,3,0⟩:Kind)=k:=qK hk;exact Alw w
 |33,_=>obtain rfl:(⟨6,51,4,0⟩:Kind)=k:=qK hk;exact Alx w
 |34,_=>obtain rfl:(⟨6,51,5,0⟩:Kind)=k:=qK hk;exact Aly w
 |35,_=>obtain rfl:(⟨6,51,5,32⟩:Kind)=k:=qK hk;exact Alz w
 |36,_=>obtain rfl:(⟨6,51,6,0⟩:Kind)=k:=qK hk;exact Al0 w
 |37,_=>obtain rfl:(⟨6,51,7,0⟩:Kind)=k:=qK hk;exact Al1 w
 |38,_=>obtain rfl:(⟨6,51,0,1⟩:Kind)=k:=qK hk;exact Al2 w
 |39,_=>obtain rfl:(⟨6,51,1,1⟩:Kind)=k:=qK hk;exact Al3 w
 |40,_=>obtain rfl:(⟨6,51,2,1⟩:Kind)=k:=qK hk;exact Al4 w
 |41,_=>obtain rfl:(⟨6,51,3,1⟩:Kind)=k:=qK hk;exact Al5 w
 |42,_=>obtain rfl:(⟨6,51,4,1⟩:Kind)=k:=qK hk;exact Al6 w
 |43,_=>obtain rfl:(⟨6,51,5,1⟩:Kind)=k:=qK hk;exact Al7 w
 |44,_=>obtain rfl:(⟨6,51,6,1⟩:Kind)=k:=qK hk;exact Al8 w
 |45,_=>obtain rfl:(⟨6,51,7,1⟩:Kind)=k:=qK hk;exact Al9 w
 |46,_=>obtain rfl:(⟨2,15,0,0⟩:Kind)=k:=qK hk;exact Ama w
 |47,_=>obtain rfl:(⟨7,115,0,0⟩:Kind)=k:=qK hk;exact Amb w
 |48,_=>obtain rfl:(⟨7,115,0,1⟩:Kind)=k:=qK hk;exact Amc w
theorem Aa1 {op:Int} {k:Kind} (hk:Ks op=some k):1≤op∧op≤48:=by
 rcases Int.lt_or_le op 1 with h1 | h1
 ·exfalso
  unfold Ks at hk
  repeat rw [if_neg (by omega)] at hk
  cases hk
 ·rcases Int.lt_or_le 48 op with h2 | h2
  ·exfalso
   unfold Ks at hk
   repeat rw [if_neg (by omega)] at hk
   cases hk
  ·exact⟨h1,h2⟩
theorem Ajb (op:Int) (k:Kind) (hk:Ks op=some k) (w:World):Calls Tryz.prog 23 #[.int .i64 op] w fun e w'=>e = .returned (.tuple #[.agg k.cells, .bool true])∧Below w.heap.size w w':=by
 obtain⟨h1,h2⟩:=Aa1 hk
 obtain⟨n,rfl⟩:=qH (show 0≤op by omega)
 exact Akp n (by omega) k hk w
theorem Agf (a b:Int) (a0:0≤a) (a1:a≤4294967295) (b0:0≤b) (b1:b≤4294967295):bits .or .u32 a b=bits .or .u32 b a:=by
 obtain⟨n,rfl⟩:=qH a0
 obtain⟨m,rfl⟩:=qH b0
 rw [u32_or_nat n m (by omega) (by omega),u32_or_nat m n (by omega) (by omega),Nat.or_comm]
theorem or_hi (x b:Int) (k:Nat) (K:Int) (hK:((2 ^ k:Nat):Int)=K) (hk:k≤31) (hx0:0≤x) (hx:x<K) (hb0:0≤b) (hb:b*K<4294967296):bits .or .u32 (b*K) x=b*K+x:=by
 subst hK
 have h:=Gt x b k hk hx0 hx hb0 hb
 have p:(0:Int)≤((2 ^ k:Nat):Int):=by omega
 have p2:((2 ^ k:Nat):Int)≤((2 ^ 31:Nat):Int):=by
  have:=Nat.pow_le_pow_right (n:=2) (by omega) hk
  omega
 have h31:((2 ^ 31:Nat):Int)=2147483648:=by decide
 rw [Agf _ _ (Int.mul_nonneg hb0 p) (by omega) hx0 (by omega),h]
 omega
theorem Amf (x b:Int) (k:Nat) (K:Int) (hK:((2 ^ k:Nat):Int)=K) (hk:k≤31) (hx0:0≤x) (hx:x<K) (hb0:0≤b) (hb:b*K<4294967296):bits .or .u32 x (b*K)=x+b*K:=by
 subst hK
 exact Gt x b k hk hx0 hx hb0 hb
theorem Agx (k:Kind) (x:Int) (w:World) (h0:0≤x) (h1:x≤4294967295) (l0:0≤k.low) (l1:k.low<128) (u0:0≤k.upper) (u1:k.upper<128) :
  Calls Tryz.prog 24 #[.agg k.cells, .int .u32 x] w fun e w'=>e = .returned (.bool (Ic k x))∧Below w.heap.size w w':=by
 obtain⟨form,low,mid,up⟩:=k
 dsimp only at l0 l1 u0 u1
 generalize hX:Ic ⟨form,low,mid,up⟩ x=X
 have HX:=qA hX
 clear hX
 by_cases hl:Av x 0 6=low
 ·have el:(Av x 0 6 != low)=false:=by simp [hl]
  have Hl:=qA hl
  clear hl
  by_cases f0:form=0
  ·subst f0
   go_enter Tryz.func24,Tryz.ntmps24
   go_wp2
   have z1:w.heap.size<(w.alloc (.cells #[.int .i64 0, .int .u32 low, .int .u32 mid, .int .u32 up] 90)).heap.size:=by simp
   refine Aw (by kernel_rfl) (by kernel_rfl) ?_
   repeat'(first
    |refine Bt rfl ?_
    |(refine' Bh _ (fun wq hwq K hK=>?_) ?_ ?_;rotate_left 1;(· obtain⟨hcq,hfq⟩:=Jg hwq;go_wp2_with((go_at_call 42;(with_reducible refine(Md x _ h0 h1).mono ?_);rintro e w1 ⟨rfl,hb1⟩;exact hK _ (hwq.trans (hb1.mono hwq.size))));all_goals exact hK _ hwq);rfl)
    |((first | refine Bj rfl rfl rfl ?_ ?_ | refine Bi rfl rfl rfl ?_ ?_)<;>intro hc<;>first | (cases hc;done) | ((try cases hc);simp only [Act.put,sA,sS,sZ]))
    |refine Bl rfl rfl rfl ?_)
   refine Ck ?_
   intro w4 hw4
   have hB:=(Blk.new w 90 #[.int .i64 0, .int .u32 low, .int .u32 mid, .int .u32 up]).ext hw4
   have hBc:=hB.cell
   have hBf:=hB.frozen
   have hb4:Below w.heap.size w w4:=((qB _ _).alloc (qC _) _).trans (hw4.mono (by simp))
   have z4:=hB.lt
   clear hw4 z1
   go_wp2
   go_ret
   refine⟨Gi ?_,hb4⟩
   rw [←HX.out]
   unfold Ic
   dsimp only
   rw [if_pos Hl.out,if_pos (.inl rfl)]
  by_cases f1:form=1
  ·subst f1
   go_enter Tryz.func24,Tryz.ntmps24
   go_wp2
   have z1:w.heap.size<(w.alloc (.cells #[.int .i64 1, .int .u32 low, .int .u32 mid, .int .u32 up] 90)).heap.size:=by simp
   refine Aw (by kernel_rfl) (by kernel_rfl) ?_
   repeat'(first
    |refine Bt rfl ?_
    |(refine' Bh _ (fun wq hwq K hK=>?_) ?_ ?_;rotate_left 1;(· obtain⟨hcq,hfq⟩:=Jg hwq;go_wp2_with((go_at_call 42;(with_reducible refine(Md x _ h0 h1).mono ?_);rintro e w1 ⟨rfl,hb1⟩;exact hK _ (hwq.trans (hb1.mono hwq.size))));all_goals exact hK _ hwq);rfl)
    |((first | refine Bj rfl rfl rfl ?_ ?_ | refine Bi rfl rfl rfl ?_ ?_)<;>intro hc<;>first | (cases hc;done) | ((try cases hc);simp only [Act.put,sA,sS,sZ]))
    |refine Bl rfl rfl rfl ?_)
   refine Ck ?_
   intro w4 hw4
   have hB:=(Blk.new w 90 #[.int .i64 1, .int .u32 low, .int .u32 mid, .int .u32 up]).ext hw4
   have hBc:=hB.cell
   have hBf:=hB.frozen
   have hb4:Below w.heap.size w w4:=((qB _ _).alloc (qC _) _).trans (hw4.mono (by simp))
   have z4:=hB.lt
   clear hw4 z1
   go_wp2
   go_ret
   refine⟨Gi ?_,hb4⟩
   rw [←HX.out]
   unfold Ic
   dsimp only
   rw [if_pos Hl.out,if_pos (.inr rfl)]
  have n0:(form==0)=false:=by simp [f0]
  have n1:(form==1)=false:=by simp [f1]
  by_cases f7:form=7
  ·subst f7
   have ho:=Amf low up 20 1048576 (by decide) (by omega) l0 (by omega) u0 (by omega)
   have up1:up*1048576%4294967296=up*1048576:=Int.emod_eq_of_lt (by omega) (by omega)
   clear f0 f1 n0 n1
   go_enter Tryz.func24,Tryz.ntmps24
   go_wp2
   have z1:w.heap.size<(w.alloc (.cells #[.int .i64 7, .int .u32 low, .int .u32 mid, .int .u32 up] 90)).heap.size:=by simp
   refine Aw (by kernel_rfl) (by kernel_rfl) ?_
   repeat'(first
    |refine Bt rfl ?_
    |(refine' Bh _ (fun wq hwq K hK=>?_) ?_ ?_;rotate_left 1;(· obtain⟨hcq,hfq⟩:=Jg hwq;go_wp2_with((go_at_call 42;(with_reducible refine(Md x _ h0 h1).mono ?_);rintro e w1 ⟨rfl,hb1⟩;exact hK _ (hwq.trans (hb1.mono hwq.size))));all_goals exact hK _ hwq);rfl)
    |((first | refine Bj rfl rfl rfl ?_ ?_ | refine Bi rfl rfl rfl ?_ ?_)<;>intro hc<;>first | (cases hc;done) | ((try cases hc);simp only [Act.put,sA,sS,sZ]))
    |refine Bl rfl rfl rfl ?_)
   refine Ck ?_
   intro w4 hw4
   have hB:=(Blk.new w 90 #[.int .i64 7, .int .u32 low, .int .u32 mid, .int .u32 up]).ext hw4
   have hBc:=hB.cell
   have hBf:=hB.frozen
   have hb4:Below w.heap.size w w4:=((qB _ _).alloc (qC _) _).trans (hw4.mono (by simp))
   have z4:=hB.lt
   clear hw4 z1
   go_wp2
   go_ret
   refine⟨Gi ?_,hb4⟩
   rw [←HX.out]
   unfold Ic
   dsimp only
   rw [if_pos Hl.out,if_neg (by decide),if_pos rfl]
   rw [Bool.eq_iff_iff]
   simp
  have n7:(form==7)=false:=by simp [f7]
  by_cases f3:form=3
  ·subst f3
   clear f0 f1 n0 n1 f7 n7
   go_enter Tryz.func24,Tryz.ntmps24
   go_wp2
   have z1:w.heap.size<(w.alloc (.cells #[.int .i64 3, .int .u32 low, .int .u32 mid, .int .u32 up] 90)).heap.size:=by simp
   refine Aw (by kernel_rfl) (by kernel_rfl) ?_
   repeat'(first
    |refine Bt rfl ?_
    |(refine' Bh _ (fun wq hwq K hK=>?_) ?_ ?_;rotate_left 1;(· obtain⟨hcq,hfq⟩:=Jg hwq;go_wp2_with((go_at_call 42;(with_reducible refine(Md x _ h0 h1).mono ?_);rintro e w1 ⟨rfl,hb1⟩;exact hK _ (hwq.trans (hb1.mono hwq.size))));all_goals exact hK _ hwq);rfl)
    |((first | refine Bj rfl rfl rfl ?_ ?_ | refine Bi rfl rfl rfl ?_ ?_)<;>intro hc<;>first | (cases hc;done) | ((try cases hc);simp only [Act.put,sA,sS,sZ]))
    |refine Bl rfl rfl rfl ?_)
   refine Ck ?_
   intro w4 hw4
   have hB:=(Blk.new w 90 #[.int .i64 3, .int .u32 low, .int .u32 mid, .int .u32 up]).ext hw4
   have hBc:=hB.cell
   have hBf:=hB.frozen
   have hb4:Below w.heap.size w w4:=((qB _ _).alloc (qC _) _).trans (hw4.mono (by simp))
   have z4:=hB.lt
   clear hw4 z1
   go_upto_region 11 with(fail)
   refine Aw (by kernel_rfl) (by kernel_rfl) ?_
   repeat'(first
    |refine Bt rfl ?_
    |(refine' Bh _ (fun wq hwq K hK=>?_) ?_ ?_;rotate_left 1;(· obtain⟨hcq,hfq⟩:=Jg hwq;go_wp2_with((first | (go_at_call 42;(with_reducible refine(Rv x _ h0 h1).mono ?_);rintro e w1 ⟨rfl,hb1⟩;exact hK _ (hwq.trans (hb1.mono hwq.size))) | (go_at_call 42;(with_reducible refine(Oc x _ h0 h1).mono ?_);rintro e w1 ⟨rfl,hb1⟩;exact hK _ (hwq.trans (hb1.mono hwq.size)))));all_goals exact hK _ hwq);rfl)
    |((first | refine Bj rfl rfl rfl ?_ ?_ | refine Bi rfl rfl rfl ?_ ?_)<;>intro hc<;>first | (cases hc;done) | ((try cases hc);simp only [Act.put,sA,sS,sZ]))
    |refine Bl rfl rfl rfl ?_)
   all_goals
    refine Ck ?_
    intro w5 hw5
    go_wp2
    go_ret
    refine⟨Gi ?_,hb4.trans (hw5.mono hb4.size)⟩
    rw [←HX.out]
    unfold Ic
    dsimp only
   all_goals
    rw [if_pos Hl.out,if_neg (by decide),if_neg (by decide),if_pos (.inl rfl)]
    first | (have e:=beq_iff_eq.1 hc;rw [Bool.eq_iff_iff];simp [e];done) | (have e:=beq_eq_false_iff_ne.1 hc;simp [e])
  by_cases f6:form=6
  ·subst f6
   clear f0 f1 n0 n1 f7 n7 f3
   go_enter Tryz.func24,Tryz.ntmps24
   go_wp2
   have z1:w.heap.size<(w.alloc (.cells #[.int .i64 6, .int .u32 low, .int .u32 mid, .int .u32 up] 90)).heap.size:=by simp
   refine Aw (by kernel_rfl) (by kernel_rfl) ?_
   repeat'(first
    |refine Bt rfl ?_
    |(refine' Bh _ (fun wq hwq K hK=>?_) ?_ ?_;rotate_left 1;(· obtain⟨hcq,hfq⟩:=Jg hwq;go_wp2_with((go_at_call 42;(with_reducible refine(Md x _ h0 h1).mono ?_);rintro e w1 ⟨rfl,hb1⟩;exact hK _ (hwq.trans (hb1.mono hwq.size))));all_goals exact hK _ hwq);rfl)
    |((first | refine Bj rfl rfl rfl ?_ ?_ | refine Bi rfl rfl rfl ?_ ?_)<;>intro hc<;>first | (cases hc;done) | ((try cases hc);simp only [Act.put,sA,sS,sZ]))
    |refine Bl rfl rfl rfl ?_)
   refine Ck ?_
   intro w4 hw4
   have hB:=(Blk.new w 90 #[.int .i64 6, .int .u32 low, .int .u32 mid, .int .u32 up]).ext hw4
   have hBc:=hB.cell
   have hBf:=hB.frozen
   have hb4:Below w.heap.size w w4:=((qB _ _).alloc (qC _) _).trans (hw4.mono (by simp))
   have z4:=hB.lt
   clear hw4 z1
   go_upto_region 11 with(fail)
   refine Aw (by kernel_rfl) (by kernel_rfl) ?_
   repeat'(first
    |refine Bt rfl ?_
    |(refine' Bh _ (fun wq hwq K hK=>?_) ?_ ?_;rotate_left 1;(· obtain⟨hcq,hfq⟩:=Jg hwq;go_wp2_with((first | (go_at_call 42;(with_reducible refine(Rv x _ h0 h1).mono ?_);rintro e w1 ⟨rfl,hb1⟩;exact hK _ (hwq.trans (hb1.mono hwq.size))) | (go_at_call 42;(with_reducible refine(Oc x _ h0 h1).mono ?_);rintro e w1 ⟨rfl,hb1⟩;exact hK _ (hwq.trans (hb1.mono hwq.size)))));all_goals exact hK _ hwq);rfl)
    |((first | refine Bj rfl rfl rfl ?_ ?_ | refine Bi rfl rfl rfl ?_ ?_)<;>intro hc<;>first | (cases hc;done) | ((try cases hc);simp only [Act.put,sA,sS,sZ]))
    |refine Bl rfl rfl rfl ?_)
   all_goals
    refine Ck ?_
    intro w5 hw5
    go_wp2
    go_ret
    refine⟨Gi ?_,hb4.trans (hw5.mono hb4.size)⟩
    rw [←HX.out]
    unfold Ic
    dsimp only
   all_goals
    rw [if_pos Hl.out,if_neg (by decide),if_neg (by decide),if_pos (.inr rfl)]
    first | (have e:=beq_iff_eq.1 hc;rw [Bool.eq_iff_iff];simp [e];done) | (have e:=beq_eq_false_iff_ne.1 hc;simp [e])
  have n3:(form==3)=false:=by simp [f3]
  have n6:(form==6)=false:=by simp [f6]
  have Hf:=qA (show ¬ (form=0∨form=1)∧¬ form=7∧¬ (form=3∨form=6) by omega)
  clear f0 f1 f7 f3 f6
  go_enter Tryz.func24,Tryz.ntmps24
  go_wp2
  have z1:w.heap.size<(w.alloc (.cells #[.int .i64 form, .int .u32 low, .int .u32 mid, .int .u32 up] 90)).heap.size:=by simp
  refine Aw (by kernel_rfl) (by kernel_rfl) ?_
  repeat'(first
   |refine Bt rfl ?_
   |(refine' Bh _ (fun wq hwq K hK=>?_) ?_ ?_;rotate_left 1;(· obtain⟨hcq,hfq⟩:=Jg hwq;go_wp2_with((go_at_call 42;(with_reducible refine(Md x _ h0 h1).mono ?_);rintro e w1 ⟨rfl,hb1⟩;exact hK _ (hwq.trans (hb1.mono hwq.size))));all_goals exact hK _ hwq);rfl)
   |((first | refine Bj rfl rfl rfl ?_ ?_ | refine Bi rfl rfl rfl ?_ ?_)<;>intro hc<;>first | (cases hc;done) | ((try cases hc);simp only [Act.put,sA,sS,sZ]))
   |refine Bl rfl rfl rfl ?_)
  refine Ck ?_
  intro w4 hw4
  have hB:=(Blk.new w 90 #[.int .i64 form, .int .u32 low, .int .u32 mid, .int .u32 up]).ext hw4
  have hBc:=hB.cell
  have hBf:=hB.frozen
  have hb4:Below w.heap.size w w4:=((qB _ _).alloc (qC _) _).trans (hw4.mono (by simp))
  have z4:=hB.lt
  clear hw4 z1
  go_upto_region 12 with(fail)
  refine Aw (by kernel_rfl) (by kernel_rfl) ?_
  repeat'(first
   |refine Bt rfl ?_
   |(refine' Bh _ (fun wq hwq K hK=>?_) ?_ ?_;rotate_left 1;(· obtain⟨hcq,hfq⟩:=Jg hwq;go_wp2_with((first | (go_at_call 42;(with_reducible refine(Rv x _ h0 h1).mono ?_);rintro e w1 ⟨rfl,hb1⟩;exact hK _ (hwq.trans (hb1.mono hwq.size))) | (go_at_call 42;(with_reducible refine(Oc x _ h0 h1).mono ?_);rintro e w1 ⟨rfl,hb1⟩;exact hK _ (hwq.trans (hb1.mono hwq.size)))));all_goals exact hK _ hwq);rfl)
   |((first | refine Bj rfl rfl rfl ?_ ?_ | refine Bi rfl rfl rfl ?_ ?_)<;>intro hc<;>first | (cases hc;done) | ((try cases hc);simp only [Act.put,sA,sS,sZ]))
   |refine Bl rfl rfl rfl ?_)
  all_goals
   refine Ck ?_
   intro w5 hw5
   go_wp2
   go_ret
   refine⟨Gi ?_,hb4.trans (hw5.mono hb4.size)⟩
   rw [←HX.out]
   unfold Ic
   dsimp only
  rw [if_pos Hl.out,if_neg Hf.out.1,if_neg Hf.out.2.1,if_neg Hf.out.2.2]
  rw [Bool.eq_iff_iff]
  simp
 ·have el:(Av x 0 6 != low)=true:=by simp [hl]
  have Hl:=qA hl
  clear hl
  go_enter Tryz.func24,Tryz.ntmps24
  go_wp2
  have z1:w.heap.size<(w.alloc (.cells #[.int .i64 form, .int .u32 low, .int .u32 mid, .int .u32 up] 90)).heap.size:=by simp
  refine Aw (by kernel_rfl) (by kernel_rfl) ?_
  repeat'(first
   |refine Bt rfl ?_
   |(refine' Bh _ (fun wq hwq K hK=>?_) ?_ ?_;rotate_left 1;(· obtain⟨hcq,hfq⟩:=Jg hwq;go_wp2_with((go_at_call 42;(with_reducible refine(Md x _ h0 h1).mono ?_);rintro e w1 ⟨rfl,hb1⟩;exact hK _ (hwq.trans (hb1.mono hwq.size))));all_goals exact hK _ hwq);rfl)
   |((first | refine Bj rfl rfl rfl ?_ ?_ | refine Bi rfl rfl rfl ?_ ?_)<;>intro hc<;>first | (cases hc;done) | ((try cases hc);simp only [Act.put,sA,sS,sZ]))
   |refine Bl rfl rfl rfl ?_)
  refine Ck ?_
  intro w4 hw4
  have hB:=(Blk.new w 90 #[.int .i64 form, .int .u32 low, .int .u32 mid, .int .u32 up]).ext hw4
  have hBc:=hB.cell
  have hBf:=hB.frozen
  have hb4:Below w.heap.size w w4:=((qB _ _).alloc (qC _) _).trans (hw4.mono (by simp))
  have z4:=hB.lt
  clear hw4 z1
  go_wp2
  go_ret
  refine⟨Gi ?_,hb4⟩
  rw [←HX.out]
  unfold Ic
  dsimp only
  rw [if_neg Hl.out]
end Go.Proofs.YtapgojgcmlnbgaaGreatDoor
namespace Go.Proofs.YtapgojgcmlnbgaaGreatDoor
open Go
theorem Ajn (a:Nat) (ha:a<4294967296):a &&& 4294963200=a - a%4096:=by
 have e:a - a%4096=(a >>> 12) <<< 12:=by rw [Nat.shiftRight_eq_div_pow,Nat.shiftLeft_eq];omega
 have m:4294963200=(2 ^ 20 - 1) <<< 12:=by decide
 rw [e,m]
 apply Nat.eq_of_testBit_eq
 intro i
 rw [Nat.testBit_and,Nat.testBit_shiftLeft,Nat.testBit_shiftLeft,Nat.testBit_shiftRight,Nat.testBit_two_pow_sub_one]
 by_cases h:12≤i
 ·rw [show 12+(i - 12)=i by omega]
  by_cases h2:i - 12<20
  ·simp [h,h2]
  ·have:a.testBit i=false:=Nat.testBit_lt_two_pow (qE ha (Nat.pow_le_pow_right (n:=2) (i:=32) (by omega) (by omega)))
   simp [this]
 ·simp [h]
theorem Ahb (x:Int) (h0:0≤x) (h1:x≤4294967295):bits .andNot .u32 x 4095=x - x%4096:=by
 obtain⟨n,rfl⟩:=qH h0
 have h:=u32_andNot_nat n 4095 (by omega) (by omega)
 rw [show 4294967295 - 4095=4294963200 by decide,Ajn n (by omega)] at h
 have h':bits .andNot .u32 (n:Int) 4095=((n - n%4096:Nat):Int):=h
 rw [h']
 omega
def In (m a:Nat):Prop:=a &&& m=a
theorem In.or_add {m n a b:Nat} (ha:In m a) (hb:In n b) (h:m &&& n=0):a ||| b=a+b∧In (m ||| n) (a+b):=by
 have h0:a &&& b=0:=by
  rw [←ha,←hb,show a &&& m &&& (b &&& n)=(a &&& b) &&& (m &&& n) by ac_rfl,h,Nat.and_zero]
 have e:a ||| b=a+b:=by
  have hlt:a<2 ^ (a+b)∧b<2 ^ (a+b):=⟨qE Nat.lt_two_pow_self (Nat.pow_le_pow_right (by omega) (by omega)),qE Nat.lt_two_pow_self (Nat.pow_le_pow_right (by omega) (by omega))⟩
  have hs:a+b<2 ^ (a+b):=Nat.lt_two_pow_self
  have hv:=BitVec.add_eq_or_of_and_eq_zero (BitVec.ofNat (a+b) a) (BitVec.ofNat (a+b) b) (by
   apply BitVec.eq_of_toNat_eq
   simp [BitVec.toNat_and,Nat.mod_eq_of_lt hlt.1,Nat.mod_eq_of_lt hlt.2,h0])
  have:=congrArg BitVec.toNat hv
  simp [BitVec.toNat_add,BitVec.toNat_or,Nat.mod_eq_of_lt hlt.1,Nat.mod_eq_of_lt hlt.2,Nat.mod_eq_of_lt hs] at this
  exact this.symm
 refine⟨e,?_⟩
 unfold In at *
 rw [←e,Nat.and_or_distrib_right,Nat.and_or_distrib_left,Nat.and_or_distrib_left,ha,hb]
 apply Nat.eq_of_testBit_eq
 intro i
 simp only [Nat.testBit_or,Nat.testBit_and]
 cases a.testBit i<;>cases b.testBit i<;>cases m.testBit i<;>cases n.testBit i<;>rfl
def InW (m:Nat) (a:Int):Prop:=∃ n:Nat,a=n∧In m n
theorem InW.or {m n:Nat} {a b:Int} (ha:InW m a) (hb:InW n b) (h:m &&& n=0) (hm:m ||| n<4294967296):bits .or .u32 a b=a+b∧InW (m ||| n) (a+b):=by
 obtain⟨x,rfl,hx⟩:=ha
 obtain⟨y,rfl,hy⟩:=hb
 obtain⟨e,hi⟩:=hx.or_add hy h
 have lx:x<4294967296:=by
  have h1:x≤m:=by rw [←hx];exact Nat.and_le_right
  have h2:m≤m ||| n:=Nat.left_le_or
  omega
 have ly:y<4294967296:=by
  have h1:y≤n:=by rw [←hy];exact Nat.and_le_right
  have h2:n≤m ||| n:=Nat.right_le_or
  omega
 refine⟨?_,x+y,by omega,hi⟩
 rw [u32_or_nat x y lx ly,e]
 omega
end Go.Proofs.YtapgojgcmlnbgaaGreatDoor
namespace Go.Proofs.YtapgojgcmlnbgaaGreatDoor
open Go.RowKit
abbrev Ins.cells (i:Ins):Array Value:=#[.int .i64 i.op, .int .i64 i.rd, .int .i64 i.rs1, .int .i64 i.rs2, .int .i32 i.imm]
theorem Cs {a b c d e:Value}:(Tryz.prog.info? 53).map (·.size)=some (#[a,b,c,d,e]:Array Value).size:=by kernel_rfl
theorem Mh {a b c d e:Int}:(#[.int .i64 a, .int .i64 b, .int .i64 c, .int .i64 d, .int .i32 e]:Array Value).all (·.oneCell')=true:=by kernel_rfl
theorem Ae7 (v:Int):Tryz.prog.built 53 [(0, .int .i64 v)]=some #[.int .i64 v, .int .i64 0, .int .i64 0, .int .i64 0, .int .i32 0]:=by kernel_rfl
theorem Aik (op f x:Int) (w:World) (h0:0≤x) (h1:x≤4294967295) (hf:0≤f∧f≤7) :
  Calls Tryz.prog 25 #[.int .i64 op, .int .i64 f, .int .u32 x] w fun e w'=>e = .returned (.agg (Fe op f x).cells)∧Below w.heap.size w w':=by
 obtain rfl | rfl | rfl | rfl | rfl | rfl | rfl | rfl:f=0∨f=1∨f=2∨f=3∨f=4∨f=5∨f=6∨f=7:=by omega
 focus
  have hn:bits .andNot .u32 x 4095=x - Av x 0 11:=by rw [Ahb x h0 h1,Gc x 0 11 1 4096 (by decide) (by decide)];omega
  have hw:wrap32 (x - Av x 0 11)=Is (x - Av x 0 11) 32:=by
   have c:=Gc x 0 11 1 4096 (by decide) (by decide)
   unfold Is wrap32
   rw [show(2:Int) ^ (32 - 1)=2147483648 by decide,show(2:Int) ^ 32=4294967296 by decide]
   split<;>omega
  have c0:=Ci x 0 11 4096 (by decide)
  obtain⟨c00,c01⟩:=c0
 rotate_left 1
 focus
  obtain⟨d310,d311⟩:=Ci x 31 31 2 (by decide)
  obtain⟨d120,d121⟩:=Ci x 12 19 256 (by decide)
  obtain⟨d200,d201⟩:=Ci x 20 20 2 (by decide)
  obtain⟨d210,d211⟩:=Ci x 21 30 1024 (by decide)
  have ho1:=or_hi (Av x 12 19*4096) (Av x 31 31) 20 1048576 (by decide) (by omega) (by omega) (by omega) d310 (by omega)
  have ho2:bits .or .u32 (Av x 31 31*1048576+Av x 12 19*4096) (Av x 20 20*2048)=Av x 31 31*1048576+Av x 12 19*4096+Av x 20 20*2048:=by
   have:=or_hi (Av x 20 20*2048) (Av x 31 31*256+Av x 12 19) 12 4096 (by decide) (by omega) (by omega) (by omega) (by omega) (by omega)
   rw [show(Av x 31 31*256+Av x 12 19)*4096=Av x 31 31*1048576+Av x 12 19*4096 by omega] at this
   exact this
  have ho3:bits .or .u32 (Av x 31 31*1048576+Av x 12 19*4096+Av x 20 20*2048) (Av x 21 30*2)=Av x 31 31*1048576+Av x 12 19*4096+Av x 20 20*2048+Av x 21 30*2:=by
   have:=or_hi (Av x 21 30*2) (Av x 31 31*512+Av x 12 19*2+Av x 20 20) 11 2048 (by decide) (by omega) (by omega) (by omega) (by omega) (by omega)
   rw [show(Av x 31 31*512+Av x 12 19*2+Av x 20 20)*2048=Av x 31 31*1048576+Av x 12 19*4096+Av x 20 20*2048 by omega] at this
   exact this
 rotate_left 1
 focus
  skip
 rotate_left 1
 focus
  skip
 rotate_left 1
 focus
  obtain⟨d310,d311⟩:=Ci x 31 31 2 (by decide)
  obtain⟨d70,d71⟩:=Ci x 7 7 2 (by decide)
  obtain⟨d250,d251⟩:=Ci x 25 30 64 (by decide)
  obtain⟨d80,d81⟩:=Ci x 8 11 16 (by decide)
  have ho1:=or_hi (Av x 7 7*2048) (Av x 31 31) 12 4096 (by decide) (by omega) (by omega) (by omega) d310 (by omega)
  have ho2:bits .or .u32 (Av x 31 31*4096+Av x 7 7*2048) (Av x 25 30*32)=Av x 31 31*4096+Av x 7 7*2048+Av x 25 30*32:=by
   have:=or_hi (Av x 25 30*32) (Av x 31 31*2+Av x 7 7) 11 2048 (by decide) (by omega) (by omega) (by omega) (by omega) (by omega)
   rw [show(Av x 31 31*2+Av x 7 7)*2048=Av x 31 31*4096+Av x 7 7*2048 by omega] at this
   exact this
  have ho3:bits .or .u32 (Av x 31 31*4096+Av x 7 7*2048+Av x 25 30*32) (Av x 8 11*2)=Av x 31 31*4096+Av x 7 7*2048+Av x 25 30*32+Av x 8 11*2:=by
   have:=or_hi (Av x 8 11*2) (Av x 31 31*128+Av x 7 7*64+Av x 25 30) 5 32 (by decide) (by omega) (by omega) (by omega) (by omega) (by omega)
   rw [show(Av x 31 31*128+Av x 7 7*64+Av x 25 30)*32=Av x 31 31*4096+Av x 7 7*2048+Av x 25 30*32 by omega] at this
   exact this
 rotate_left 1
 focus
  obtain⟨d0,d1⟩:=Ci x 25 31 128 (by decide)
  have ho:=or_hi (Av x 7 11) (Av x 25 31) 5 32 (by decide) (by omega) (Ci x 7 11 32 (by decide)).1 (Ci x 7 11 32 (by decide)).2 d0 (by omega)
 rotate_left 1
 focus
  skip
 rotate_left 1
 focus
  skip
 rotate_left 1
 all_goals
  have c7:=Ci x 7 11 32 (by decide)
  have c15:=Ci x 15 19 32 (by decide)
  have c20:=Ci x 20 24 32 (by decide)
  obtain⟨c70,c71⟩:=c7
  obtain⟨c150,c151⟩:=c15
  obtain⟨c200,c201⟩:=c20
  go_enter Tryz.func25,Tryz.ntmps25
  go_upto_region 1 with(fail)
  refine A1 fun wa hq=>?_
  have hR:Blk wa w.heap.size 53 #[.int .i64 0, .int .i64 0, .int .i64 0, .int .i64 0, .int .i32 0]:=by rw [hq];exact Blk.new w _ _
  have hb:Below w.heap.size w wa:=by rw [hq];exact(qB _ _).alloc (qC _) _
  clear hq
  go_upto_region 2 with(first
   |(go_at_call 42;(with_reducible refine(Aae x _ h0 h1).mono ?_);rintro e w1 ⟨rfl,hb1⟩;replace hR:=hR.ext hb1;replace hb:=hb.trans (hb1.mono hb.size);clear hb1)
   |(go_at_call 42;(with_reducible refine(Afg x _ h0 h1).mono ?_);rintro e w1 ⟨rfl,hb1⟩;replace hR:=hR.ext hb1;replace hb:=hb.trans (hb1.mono hb.size);clear hb1)
   |(go_at_call 42;(with_reducible refine(Xb x _ h0 h1).mono ?_);rintro e w3 ⟨rfl,hb1⟩;replace hR:=hR.ext hb1;replace hb:=hb.trans (hb1.mono hb.size);clear hb1))
  refine A1 fun wq hq=>?_
  have hI:Blk wq w3.heap.size 53 #[.int .i64 op, .int .i64 (Av x 7 11), .int .i64 (Av x 15 19), .int .i64 (Av x 20 24), .int .i32 0]:=by rw [hq];exact Blk.new w3 _ _
  have zR:=hR.lt
  have hge:=hb.size
  replace hR:Blk wq w.heap.size 53 #[.int .i64 0, .int .i64 0, .int .i64 0, .int .i64 0, .int .i32 0]:=by rw [hq];exact hR.alloc _
  replace hb:Below w.heap.size w wq:=by rw [hq];exact hb.alloc hge _
  have Hne:=qA (show w.heap.size≠w3.heap.size by omega)
  have Hge:=qA hge
  clear hq zR hge
  have hIc:=hI.cell
  have hIf:=hI.frozen
  have zI:=hI.lt
  have zR:=hR.lt
 focus
  go_upto_region 19 with(fail)
  refine A1 fun wr hq=>?_
  have hI2:Blk wr w3.heap.size 53 (Fe op 0 x).cells:=by rw [hq];exact(((hI).set 2 _).set 3 _).set 4 _
  have hR2:Blk wr w.heap.size 53 #[.int .i64 0, .int .i64 0, .int .i64 0, .int .i64 0, .int .i32 0]:=by rw [hq];exact(((hR).farAt Hne.out _).farAt Hne.out _).farAt Hne.out _
  have hb2:Below w.heap.size w wr:=by rw [hq];exact Ap Hge.out (Ap Hge.out (Ap Hge.out (hb)))
  clear hq hIc hIf zI zR hI hR hb
 rotate_left 1
 focus
  go_upto_region 7 with(fail)
  refine A1 fun wr hq=>?_
  replace hI:Blk wr w3.heap.size 53 #[.int .i64 op, .int .i64 (Av x 7 11), .int .i64 0, .int .i64 0, .int .i32 0]:=by rw [hq];exact(hI.set 2 _).set 3 _
  replace hR:Blk wr w.heap.size 53 #[.int .i64 0, .int .i64 0, .int .i64 0, .int .i64 0, .int .i32 0]:=by rw [hq];exact(hR.farAt Hne.out _).farAt Hne.out _
  replace hb:Below w.heap.size w wr:=by rw [hq];exact Ap Hge.out (Ap Hge.out hb)
  clear hq hIc hIf zI zR
  have hIc:=hI.cell
  have hIf:=hI.frozen
  have zI:=hI.lt
  have zR:=hR.lt
  go_upto_region 19 with(first | (go_at_call 42;(with_reducible refine(Xc x _ h0 h1).mono ?_);rintro e w1 ⟨rfl,hb1⟩;replace hI:=hI.ext hb1;replace hR:=hR.ext hb1;replace hb:=hb.trans (hb1.mono hb.size);clear hIc hIf zI zR;have hIc:=hI.cell;have hIf:=hI.frozen;have zI:=hI.lt;have zR:=hR.lt;clear hb1) | (go_at_call 42;(with_reducible refine(Aff x _ h0 h1).mono ?_);rintro e w1 ⟨rfl,hb1⟩;replace hI:=hI.ext hb1;replace hR:=hR.ext hb1;replace hb:=hb.trans (hb1.mono hb.size);clear hIc hIf zI zR;have hIc:=hI.cell;have hIf:=hI.frozen;have zI:=hI.lt;have zR:=hR.lt;clear hb1) | (go_at_call 42;(with_reducible refine(Afh x _ h0 h1).mono ?_);rintro e w1 ⟨rfl,hb1⟩;replace hI:=hI.ext hb1;replace hR:=hR.ext hb1;replace hb:=hb.trans (hb1.mono hb.size);clear hIc hIf zI zR;have hIc:=hI.cell;have hIf:=hI.frozen;have zI:=hI.lt;have zR:=hR.lt;clear hb1) | (go_at_call 42;(with_reducible refine(Afj x _ h0 h1).mono ?_);rintro e w1 ⟨rfl,hb1⟩;replace hI:=hI.ext hb1;replace hR:=hR.ext hb1;replace hb:=hb.trans (hb1.mono hb.size);clear hIc hIf zI zR;have hIc:=hI.cell;have hIf:=hI.frozen;have zI:=hI.lt;have zR:=hR.lt;clear hb1) | (go_at_call 43;(with_reducible refine(Agr _ _ ?_ ?_).mono ?_);omega;omega;rintro e w1 ⟨rfl,rfl⟩))
  refine A1 fun wr hq=>?_
  have hI2:Blk wr w3.heap.size 53 (Fe op 1 x).cells:=by rw [hq];exact(hI).set 4 _
  have hR2:Blk wr w.heap.size 53 #[.int .i64 0, .int .i64 0, .int .i64 0, .int .i64 0, .int .i32 0]:=by rw [hq];exact(hR).farAt Hne.out _
  have hb2:Below w.heap.size w wr:=by rw [hq];exact Ap Hge.out (hb)
  clear hq hIc hIf zI zR hI hR hb
 rotate_left 1
 focus
  go_upto_region 19 with(first | (go_at_call 42;(with_reducible refine(Afi x _ h0 h1).mono ?_);rintro e w1 ⟨rfl,hb1⟩;replace hI:=hI.ext hb1;replace hR:=hR.ext hb1;replace hb:=hb.trans (hb1.mono hb.size);clear hIc hIf zI zR;have hIc:=hI.cell;have hIf:=hI.frozen;have zI:=hI.lt;have zR:=hR.lt;clear hb1) | (go_at_call 43;(with_reducible refine(Yd _ _ ?_ ?_).mono ?_);exact(Ci x 20 31 4096 (by decide)).1;exact(Ci x 20 31 4096 (by decide)).2;rintro e w1 ⟨rfl,rfl⟩))
  refine A1 fun wr hq=>?_
  have hI2:Blk wr w3.heap.size 53 (Fe op 2 x).cells:=by rw [hq];exact((hI).set 3 _).set 4 _
  have hR2:Blk wr w.heap.size 53 #[.int .i64 0, .int .i64 0, .int .i64 0, .int .i64 0, .int .i32 0]:=by rw [hq];exact((hR).farAt Hne.out _).farAt Hne.out _
  have hb2:Below w.heap.size w wr:=by rw [hq];exact Ap Hge.out (Ap Hge.out (hb))
  clear hq hIc hIf zI zR hI hR hb
 rotate_left 1
 focus
  go_upto_region 19 with((go_at_call 42;(with_reducible refine(Xb x _ h0 h1).mono ?_);rintro e w1 ⟨rfl,hb1⟩;replace hI:=hI.ext hb1;replace hR:=hR.ext hb1;replace hb:=hb.trans (hb1.mono hb.size);clear hIc hIf zI zR;have hIc:=hI.cell;have hIf:=hI.frozen;have zI:=hI.lt;have zR:=hR.lt;clear hb1))
  refine A1 fun wr hq=>?_
  have hI2:Blk wr w3.heap.size 53 (Fe op 3 x).cells:=by rw [hq];exact((hI).set 3 _).set 4 _
  have hR2:Blk wr w.heap.size 53 #[.int .i64 0, .int .i64 0, .int .i64 0, .int .i64 0, .int .i32 0]:=by rw [hq];exact((hR).farAt Hne.out _).farAt Hne.out _
  have hb2:Below w.heap.size w wr:=by rw [hq];exact Ap Hge.out (Ap Hge.out (hb))
  clear hq hIc hIf zI zR hI hR hb
 rotate_left 1
 focus
  go_upto_region 14 with(fail)
  refine A1 fun wr hq=>?_
  replace hI:Blk wr w3.heap.size 53 #[.int .i64 op, .int .i64 0, .int .i64 (Av x 15 19), .int .i64 (Av x 20 24), .int .i32 0]:=by rw [hq];exact hI.set 1 _
  replace hR:Blk wr w.heap.size 53 #[.int .i64 0, .int .i64 0, .int .i64 0, .int .i64 0, .int .i32 0]:=by rw [hq];exact hR.farAt Hne.out _
  replace hb:Below w.heap.size w wr:=by rw [hq];exact Ap Hge.out hb
  clear hq hIc hIf zI zR
  have hIc:=hI.cell
  have hIf:=hI.frozen
  have zI:=hI.lt
  have zR:=hR.lt
  go_upto_region 19 with(first | (go_at_call 42;(with_reducible refine(Xc x _ h0 h1).mono ?_);rintro e w1 ⟨rfl,hb1⟩;replace hI:=hI.ext hb1;replace hR:=hR.ext hb1;replace hb:=hb.trans (hb1.mono hb.size);clear hIc hIf zI zR;have hIc:=hI.cell;have hIf:=hI.frozen;have zI:=hI.lt;have zR:=hR.lt;clear hb1) | (go_at_call 42;(with_reducible refine(Ai9 x _ h0 h1).mono ?_);rintro e w1 ⟨rfl,hb1⟩;replace hI:=hI.ext hb1;replace hR:=hR.ext hb1;replace hb:=hb.trans (hb1.mono hb.size);clear hIc hIf zI zR;have hIc:=hI.cell;have hIf:=hI.frozen;have zI:=hI.lt;have zR:=hR.lt;clear hb1) | (go_at_call 42;(with_reducible refine(Afk x _ h0 h1).mono ?_);rintro e w1 ⟨rfl,hb1⟩;replace hI:=hI.ext hb1;replace hR:=hR.ext hb1;replace hb:=hb.trans (hb1.mono hb.size);clear hIc hIf zI zR;have hIc:=hI.cell;have hIf:=hI.frozen;have zI:=hI.lt;have zR:=hR.lt;clear hb1) | (go_at_call 42;(with_reducible refine(Ahh x _ h0 h1).mono ?_);rintro e w1 ⟨rfl,hb1⟩;replace hI:=hI.ext hb1;replace hR:=hR.ext hb1;replace hb:=hb.trans (hb1.mono hb.size);clear hIc hIf zI zR;have hIc:=hI.cell;have hIf:=hI.frozen;have zI:=hI.lt;have zR:=hR.lt;clear hb1) | (go_at_call 43;(with_reducible refine(Agq _ _ ?_ ?_).mono ?_);omega;omega;rintro e w1 ⟨rfl,rfl⟩))
  refine A1 fun wr hq=>?_
  have hI2:Blk wr w3.heap.size 53 (Fe op 4 x).cells:=by rw [hq];exact(hI).set 4 _
  have hR2:Blk wr w.heap.size 53 #[.int .i64 0, .int .i64 0, .int .i64 0, .int .i64 0, .int .i32 0]:=by rw [hq];exact(hR).farAt Hne.out _
  have hb2:Below w.heap.size w wr:=by rw [hq];exact Ap Hge.out (hb)
  clear hq hIc hIf zI zR hI hR hb
 rotate_left 1
 focus
  go_upto_region 19 with(first | (go_at_call 42;(with_reducible refine(Oc x _ h0 h1).mono ?_);rintro e w1 ⟨rfl,hb1⟩;replace hI:=hI.ext hb1;replace hR:=hR.ext hb1;replace hb:=hb.trans (hb1.mono hb.size);clear hIc hIf zI zR;have hIc:=hI.cell;have hIf:=hI.frozen;have zI:=hI.lt;have zR:=hR.lt;clear hb1) | (go_at_call 42;(with_reducible refine(Aae x _ h0 h1).mono ?_);rintro e w1 ⟨rfl,hb1⟩;replace hI:=hI.ext hb1;replace hR:=hR.ext hb1;replace hb:=hb.trans (hb1.mono hb.size);clear hIc hIf zI zR;have hIc:=hI.cell;have hIf:=hI.frozen;have zI:=hI.lt;have zR:=hR.lt;clear hb1) | (go_at_call 43;(with_reducible refine(Yd _ _ ?_ ?_).mono ?_);omega;omega;rintro e w1 ⟨rfl,rfl⟩))
  refine A1 fun wr hq=>?_
  have hI2:Blk wr w3.heap.size 53 (Fe op 5 x).cells:=by rw [hq];exact((hI).set 1 _).set 4 _
  have hR2:Blk wr w.heap.size 53 #[.int .i64 0, .int .i64 0, .int .i64 0, .int .i64 0, .int .i32 0]:=by rw [hq];exact((hR).farAt Hne.out _).farAt Hne.out _
  have hb2:Below w.heap.size w wr:=by rw [hq];exact Ap Hge.out (Ap Hge.out (hb))
  clear hq hIc hIf zI zR hI hR hb
 rotate_left 1
 focus
  go_upto_region 19 with(fail)
  refine A1 fun wr hq=>?_
  have hI2:Blk wr w3.heap.size 53 (Fe op 6 x).cells:=by rw [hq];exact hI
  have hR2:Blk wr w.heap.size 53 #[.int .i64 0, .int .i64 0, .int .i64 0, .int .i64 0, .int .i32 0]:=by rw [hq];exact hR
  have hb2:Below w.heap.size w wr:=by rw [hq];exact hb
  clear hq hIc hIf zI zR hI hR hb
 rotate_left 1
 focus
  go_upto_region 18 with(fail)
  go_upto_region 19 with(first
   |(refine Am rfl 53 _ rfl [(0, .int .i64 op)] ?_ _ (Ae7 op) ?_;kernel_rfl)
   |(refine Ae rfl 53 _ _ rfl w3.heap.size _ rfl rfl 53 _ hI Cs rfl Mh ?_;intro w5 hB5 hg5))
  have hneS:=Hne.out
  replace hR:=hR.grown hg5 (fun e=>hneS (by injection e))
  replace hb:=below_grown hb hg5 hb.size Hge.out
  clear hneS
  go_simp
  refine A1 fun wr hq=>?_
  have hI2:Blk wr w3.heap.size 53 (Fe op 7 x).cells:=by rw [hq];exact hB5
  have hR2:Blk wr w.heap.size 53 #[.int .i64 0, .int .i64 0, .int .i64 0, .int .i64 0, .int .i32 0]:=by rw [hq];exact hR
  have hb2:Below w.heap.size w wr:=by rw [hq];exact hb
  clear hq hIc hIf zI zR hI hR hb
 rotate_left 1
 all_goals
  have hs2:=hb2.size
  go_wp2_with(first
   |(refine Ab rfl 53 _ rfl w3.heap.size rfl 53 _ _ hI2 Tryz.underlying53 rfl Cs ?_)
   |(refine Ae rfl 53 _ _ rfl w.heap.size _ rfl rfl 53 _ hR2 Cs rfl Mh ?_;intro w5 hB5 hg5))
  exact bodyPost_ret (v := .agg _) (Bo rfl _ _ w.heap.size 53 _ _ rfl hB5 Tryz.underlying53 rfl Cs) rfl ⟨rfl,below_grown hb2 hg5 hs2 (qC _)⟩
theorem Ail (op form x:Int) (w:World) (hf:0≤form) (hf':form≤7) (h0:0≤x) (h1:x≤4294967295) :
  Calls Tryz.prog 25 #[.int .i64 op, .int .i64 form, .int .u32 x] w fun e w'=>e = .returned (.agg (Fe op form x).cells)∧Below w.heap.size w w':=Aik op form x w h0 h1 ⟨hf,hf'⟩
theorem Xk (op:Int):0≤Mg op∧Mg op≤7:=by unfold Mg;(repeat' split)<;>omega
def Wm:Ins:=⟨0,0,0,0,0⟩
theorem Ach:Tryz.prog.built 53 []=some #[.int .i64 0, .int .i64 0, .int .i64 0, .int .i64 0, .int .i32 0]:=by kernel_rfl
theorem Pl (x:Int) (w:World) (h0:0≤x) (h1:x≤4294967295) :
  Calls Tryz.prog 14 #[.int .u32 x] w fun e w'=>e = .returned (.tuple #[.agg ((Ns x).getD Wm).cells, .bool (Ns x).isSome])∧Below w.heap.size w w':=by
 generalize hX:Ns x=X
 have HX:Hid (Kr x 48 1=X):=qA hX
 clear hX
 go_enter Tryz.func14,Tryz.ntmps14
 go_wp2_with(fail)
 go_loopw [4] (fun v wr=>∃ n:Nat,v = .int .i64 ((n:Int)+1)∧n≤48∧Below w.heap.size w wr∧Blk wr w.heap.size 53 Wm.cells∧Hid (Kr x (48 - n) ((n:Int)+1)=X)) (fun v _=>50 - (intOf v).toNat)
 case atStart=>exact⟨0,rfl,by omega,(qB _ _).alloc (qC _) _,Blk.new w _ _,HX⟩
 case round=>
  obtain⟨n,rfl,hn,hb,hR,HR⟩:=hrel
  by_cases hlt:n<48
  ·obtain⟨k,hk,l0,l1,m0,m1,u0,u1,hf,_⟩:=Aji ((n:Int)+1) (by omega) (by omega)
   have hstep:Kr x (48 - n) ((n:Int)+1)=if Ic k x=true then some (Fe ((n:Int)+1) k.form x) else Kr x (48 - (n+1)) ((n:Int)+1+1):=by
    rw [show 48 - n=(48 - (n+1))+1 by omega]
    show(match Ks ((n:Int)+1) with | some k=>_ | none=>_)=_
    rw [hk]
   have CO:=qA (fun W=>Ajb ((n:Int)+1) k hk W)
   have CT:=qA (fun W=>Agx k x W h0 h1 l0 l1 u0 u1)
   have CR:=qA (fun W=>Ail ((n:Int)+1) k.form x W (by rw [hf];exact(Xk _).1) (by rw [hf];exact(Xk _).2) h0 h1)
   obtain⟨form,low,mid,up⟩:=k
   clear hk l0 l1 m0 m1 u0 u1 hf
   rcases ht:Ic ⟨form,low,mid,up⟩ x with _ | _
   ·rw [ht] at hstep CT
    have HR2:Hid (Kr x (48 - (n+1)) (((n+1:Nat):Int)+1)=X):=by
     have h:=HR.out
     rw [hstep,if_neg (by decide)] at h
     exact qA (by simpa using h)
    clear HR hstep ht CR
    go_wp2_with(first
     |(go_at_call 23;(with_reducible refine(CO.out _).mono ?_);rintro e w1 ⟨rfl,hb1⟩;replace hR:=(hR.ext hb1).alloc (.cells #[.int .i64 form, .int .u32 low, .int .u32 mid, .int .u32 up] 90);replace hb:=(hb.trans (hb1.mono hb.size)).alloc (qD hb.size hb1.size) (.cells #[.int .i64 form, .int .u32 low, .int .u32 mid, .int .u32 up] 90);clear hb1)
     |(go_at_call 24;(with_reducible refine(CT.out _).mono ?_);rintro e w2 ⟨rfl,hb2⟩;replace hR:=hR.ext hb2;replace hb:=hb.trans (hb2.mono hb.size);clear hb2))
    go_roundw
    case rel=>exact⟨n+1,by go_num,by omega,hb,hR,HR2⟩
    case measure=>simp [intOf];omega
   ·rw [ht] at hstep CT
    have hX:X=some (Fe ((n:Int)+1) form x):=by
     have h:=HR.out
     rw [hstep,if_pos rfl] at h
     exact h.symm
    dsimp only at CR
    generalize Fe ((n:Int)+1) form x=i at CR hX
    subst hX
    clear HR hstep ht
    go_upto_region 5 with(go_at_call 23;(with_reducible refine(CO.out _).mono ?_);rintro e w1 ⟨rfl,hb1⟩;replace hR:=(hR.ext hb1).alloc (.cells #[.int .i64 form, .int .u32 low, .int .u32 mid, .int .u32 up] 90);replace hb:=(hb.trans (hb1.mono hb.size)).alloc (qD hb.size hb1.size) (.cells #[.int .i64 form, .int .u32 low, .int .u32 mid, .int .u32 up] 90);clear hb1)
    have hK:=Blk.new w1 90 #[.int .i64 form, .int .u32 low, .int .u32 mid, .int .u32 up]
    go_upto_region 6 with(go_at_call 24;(with_reducible refine(CT.out _).mono ?_);rintro e w2 ⟨rfl,hb2⟩;replace hR:=hR.ext hb2;replace hb:=hb.trans (hb2.mono hb.size);replace hK:=hK.ext hb2;clear hb2)
    have hKc:=hK.cell
    have zK:=hK.lt
    go_wp2_with(first
     |(go_at_call 25;(with_reducible refine(CR.out _).mono ?_);rintro e w3 ⟨rfl,hb3⟩;replace hR:=hR.ext hb3;replace hb:=hb.trans (hb3.mono hb.size))
     |(refine Ae rfl 53 _ _ rfl w.heap.size i.cells rfl rfl 53 _ hR Cs rfl Mh ?_;intro w5 hB5 hg5;have hBc:=hB5.cell))
    exact bodyPost_ret (v := .tuple #[.agg i.cells, .bool true]) (by simp [results,Tryz.results14,go_sem,hBc]) rfl ⟨rfl,below_grown hb hg5 hb.size (qC _)⟩
  ·obtain rfl:n=48:=by omega
   have hX:X=none:=HR.out.symm
   subst hX
   clear HR
   go_wp2_with(first
    |(refine Am rfl 53 _ rfl [] ?_ _ Ach ?_;kernel_rfl)
    |(refine Ae rfl 53 _ _ rfl w.heap.size Wm.cells rfl rfl 53 _ hR Cs rfl Mh ?_;intro w5 hB5 hg5;have hBc:=hB5.cell))
   exact bodyPost_ret (v := .tuple #[.agg Wm.cells, .bool false]) (by simp [results,Tryz.results14,go_sem,hBc]) rfl ⟨rfl,below_grown hb hg5 hb.size (qC _)⟩
end Go.Proofs.YtapgojgcmlnbgaaGreatDoor
namespace Go.Proofs.YtapgojgcmlnbgaaGreatDoor
open Go Go.RowKit
open Go.Lib (decDigits decDigits_length)
def Et (w:Int):Option (List Int):=(Ns w).map fun i=>[i.op,i.rd,i.rs1,i.rs2,i.imm%4294967296]
theorem Pn (w:Int):∀ (n:Nat) (op:Int) (i:Ins),Kr w n op=some i→∃ op form,i=Fe op form w
 |0,_,_,h=>by cases h
 |n+1,op,i,h=>by
  have e:Kr w (n+1) op=match Ks op with
   |some k=>if Ic k w=true then some (Fe op k.form w) else Kr w n (op+1)
   |none=>Kr w n (op+1):=rfl
  rw [e] at h
  split at h
  ·split at h
   ·exact⟨_,_,(qK h).symm⟩
   ·exact Pn w n _ i h
  ·exact Pn w n _ i h
theorem Uf {w:Int} {i:Ins} (w0:0≤w) (w1:w≤4294967295) (h:Ns w=some i) : -2147483648≤i.imm∧i.imm≤2147483647:=by
 obtain⟨op,form,rfl⟩:=Pn w 48 1 i h
 have b1:=Ci w 31 31 2 rfl
 have b2:=Ci w 12 19 256 rfl
 have b3:=Ci w 20 20 2 rfl
 have b4:=Ci w 21 30 1024 rfl
 have b5:=Ci w 20 31 4096 rfl
 have b6:=Ci w 20 24 32 rfl
 have b7:=Ci w 7 7 2 rfl
 have b8:=Ci w 25 30 64 rfl
 have b9:=Ci w 8 11 16 rfl
 have b10:=Ci w 25 31 128 rfl
 have b11:=Ci w 7 11 32 rfl
 have b12:=Ci w 0 11 4096 rfl
 have b13:Av w 0 11≤w:=by
  have:Av w 0 11=w / 1%4096:=Gc w 0 11 1 4096 rfl rfl
  omega
 unfold Fe
 dsimp only
 (repeat' split)<;>(try unfold Is)<;>(try split)<;>simp<;>omega
theorem Blk.new2 (W:World) (o:Obj) (t:TypeId) (cs:Array Value):Blk ((W.alloc o).alloc (.cells cs t)) (W.heap.size+1) t cs:=by have h:=Blk.new (W.alloc o) t cs;rw [World.size_alloc] at h;exact h
theorem Ct {w:World} {b:Nat} {k:IntKind} {t:TypeId} (l:List Int) (h:Blk w b t (l.map (Value.int k)).toArray):Ar w w.heap.size k (some ⟨b,0,none⟩) l:=fun _=>⟨b,0,rfl,h.lt,fun i v hi=>by rw [h.cell];simp [hi]⟩
theorem Aiz {B:Nat} (x:Int) (w:World) (V:Ig B w) (hB:B≤w.heap.size) (h0:0≤x) (h1:x≤4294967295) :
  Calls Tryz.prog 32 #[.int .u32 x] w fun e w'=>e = .returned (sV (K0 Et x))∧Below w.heap.size w w':=by
 have CD:=qA (fun W=>Pl x W h0 h1)
 rcases hd:Ns x with _ | i
 ·have hw:K0 Et x=noB:=by unfold K0 Et;rw [hd];rfl
  rw [hd] at CD
  rw [hw]
  replace CD:Hid (∀ W,Calls Tryz.prog 14 #[.int .u32 x] W fun e w'=>e = .returned (.tuple #[.agg Wm.cells, .bool false])∧Below W.heap.size W w'):=CD
  clear hd hw
  go_enter Tryz.func32,Tryz.ntmps32
  go_wp2_with(go_at_call 14;(with_reducible refine(CD.out _).mono ?_);rintro e w2 ⟨rfl,hb2⟩;have hq2:=fun o=>hb2.alloc hb2.size o)
  go_ret
  exact⟨rfl,hq2 _⟩
 ·obtain⟨op,rd,r1,r2,imm⟩:=i
  have hw:K0 Et x=Dz (Dz isB [op,rd,r1,r2]) [imm%4294967296]:=by unfold K0 Et;rw [hd,S9];rfl
  have him:=Uf h0 h1 hd
  obtain⟨⟨o1,o2⟩,⟨d1,d2⟩,⟨a1,a2⟩,b1,b2⟩:=Ho (Yv hd)
  dsimp only at o1 o2 d1 d2 a1 a2 b1 b2 him
  rw [hd] at CD
  replace CD:Hid (∀ W,Calls Tryz.prog 14 #[.int .u32 x] W fun e w'=>e = .returned (.tuple #[.agg (Ins.mk op rd r1 r2 imm).cells, .bool true])∧Below W.heap.size W w'):=CD
  rw [hw]
  clear hd hw
  go_enter Tryz.func32,Tryz.ntmps32
  go_upto_region 4 with(go_at_call 14;(with_reducible refine(CD.out _).mono ?_);rintro e w2 ⟨rfl,hb2⟩)
  try go_simp
  refine A1 fun W1 hq=>?_
  have hB1:Blk W1 w2.heap.size 53 (Ins.mk op rd r1 r2 imm).cells:=by rw [hq];exact Blk.new w2 _ _
  have hb1:Below w.heap.size w W1:=by rw [hq];exact hb2.alloc hb2.size _
  generalize w2.heap.size=gI at *
  clear hq hb2 CD
  have c0:W1.cell? ⟨gI,0,none⟩=some (.int .i64 op):=hB1.cell 0
  have c1:W1.cell? ⟨gI,1,none⟩=some (.int .i64 rd):=hB1.cell 1
  have c2:W1.cell? ⟨gI,2,none⟩=some (.int .i64 r1):=hB1.cell 2
  have c3:W1.cell? ⟨gI,3,none⟩=some (.int .i64 r2):=hB1.cell 3
  have c4:W1.cell? ⟨gI,4,none⟩=some (.int .i32 imm):=hB1.cell 4
  have SK:∀ w',Below W1.heap.size W1 w'→Below W1.heap.size W1 w'∧w'.cell? ⟨gI,0,none⟩=some (.int .i64 op)∧w'.cell? ⟨gI,1,none⟩=some (.int .i64 rd)∧w'.cell? ⟨gI,2,none⟩=some (.int .i64 r1)∧w'.cell? ⟨gI,3,none⟩=some (.int .i64 r2)∧w'.cell? ⟨gI,4,none⟩=some (.int .i32 imm):=fun w' h=>⟨h,(hB1.ext h).cell 0,(hB1.ext h).cell 1,(hB1.ext h).cell 2,(hB1.ext h).cell 3,(hB1.ext h).cell 4⟩
  have HSK:=qA SK
  have CI:=qA (fun W A (hW:Below W1.heap.size W1 W) (hA:Ar W W.heap.size .i64 A [op,rd,r1,r2])=>N2 isB A [op,rd,r1,r2] 4 W (V.ext ((hb1.trans (hW.mono hb1.size)).mono hB)) (qD hB (qD hb1.size hW.size)) (by simp) (by simp [isB]) (by simp;omega) hA)
  have CU:=qA (fun W A s (hs:s.length≤1000) (hW:Below W1.heap.size W1 W) (hA:Ar W W.heap.size .u32 A [imm%4294967296])=>Vt s A [imm%4294967296] 1 W (V.ext ((hb1.trans (hW.mono hb1.size)).mono hB)) (qD hB (qD hb1.size hW.size)) (by simp) (by omega) (by simp;omega) hA)
  have hlen:=(I9 [op,rd,r1,r2] isB (by simp;omega)).2
  have hL:(Dz isB [op,rd,r1,r2]).length≤1000:=by simp only [List.length_cons,List.length_nil] at hlen;have:isB.length=2:=rfl;omega
  have hwr:IntKind.u32.wrap imm=imm%4294967296:=IntKind.wrap_u32 imm
  have zB:=hB1.lt
  clear SK hlen
  go_region_held3 (fun w'=>Below W1.heap.size W1 w'∧w'.cell? ⟨gI,0,none⟩=some (.int .i64 op)∧w'.cell? ⟨gI,1,none⟩=some (.int .i64 rd)∧w'.cell? ⟨gI,2,none⟩=some (.int .i64 r1)∧w'.cell? ⟨gI,3,none⟩=some (.int .i64 r2)∧w'.cell? ⟨gI,4,none⟩=some (.int .i32 imm))
   (first
    |(refine HSK.out _ ?_;(repeat (first | exact qB _ _ | exact hq5 | refine Below.drew ?_ | refine Below.alloc ?_ (by first | (simp;done) | exact hq5.size | (simp;exact hq5.size)) _))))
   ((first
    |(go_at_call 49;refine(CI.out _ _ (by(repeat (first | exact qB _ _ | refine Below.drew ?_ | refine Below.alloc ?_ (by first | (simp;done) | (simp;omega)) _))) (by first | exact Ct [op,rd,r1,r2] (Blk.new W1 _ _) | exact Ct [op,rd,r1,r2] ((Blk.new W1 _ _).alloc _) | exact Ct [op,rd,r1,r2] (Blk.new2 W1 _ _ _))).mono ?_;rintro e w5 ⟨rfl,hb5⟩;have hq5:Below W1.heap.size W1 w5:=Below.trans (by(repeat (first | exact qB _ _ | refine Below.drew ?_ | refine Below.alloc ?_ (by first | (simp;done) | (simp;omega)) _))) (hb5.mono (by first | (simp;done) | (simp;omega))))
    |(go_at_call 51;refine(CU.out _ _ _ hL (by(repeat (first | exact hq5 | refine Below.drew ?_ | refine Below.alloc ?_ hq5.size _))) (by first | exact Ct [imm%4294967296] (Blk.new w5 _ _) | exact Ct [imm%4294967296] (Blk.ext (by exact(Blk.new W1 _ _).alloc _) hb5) | exact Ct [imm%4294967296] (Blk.ext (by exact Blk.new2 W1 _ _ _) hb5))).mono ?_;rintro e w7 ⟨rfl,hb7⟩;have hq5:Below W1.heap.size W1 w7:=Below.trans (by(repeat (first | exact hq5 | refine Below.drew ?_ | refine Below.alloc ?_ hq5.size _))) (hb7.mono (by first | exact hq5.size | (simp;exact Nat.le_succ_of_le hq5.size) | (simp;omega))))
    |fail))
  all_goals
   have hq9:=hb1.trans (hq5.mono hb1.size)
   clear hq5 HSK CI CU
   go_wp2_with(fail)
   go_ret
   exact⟨rfl,hq9⟩
end Go.Proofs.YtapgojgcmlnbgaaGreatDoor
