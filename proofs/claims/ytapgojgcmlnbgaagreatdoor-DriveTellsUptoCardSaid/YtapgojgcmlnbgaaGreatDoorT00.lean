/- Parts of a proof. -/
import Derived.Test.YtapgojgcmlnbgaaGreatDoorTZ
import Derived.Lib.ItoaNum
import Derived.Lib.Atoi
import Derived.Lib.ParseIntB
import Derived.Lib.SplitLaws
import Derived.WalkKit
import Derived.Test.YtapgojgcmlnbgaaGreatDoorProg
import Derived.Shelf.Strings.SplitShaped
import Derived.Shelf.Strings.Prefix
import Derived.Shelf.Strconv.Itoa3
import Derived.Shelf.Pu.ErrVarParseUint
import Derived.Lib.AppendIntMem
import Derived.Lib.AtoiErrMem
import Derived.Laws.Rows
import Derived.Laws.Tables
import Derived.Laws.CopyRow
import Derived.Laws.IdiomStrings
import Derived.Lib.ItoaMem
import Derived.Lib.Hide
import Derived.Lib.Walk
import Derived.BigCall
import Derived.BigGuard
set_option linter.unusedSimpArgs false
set_option linter.unusedVariables false
set_option maxRecDepth 100000
set_option maxHeartbeats 16000000
namespace Go.Proofs.YtapgojgcmlnbgaaGreatDoor
open Go Go.Lib
def As (c:UInt8):List UInt8→List (List UInt8)
 |[]=>[[]]
 |b::s=>if b=c then []::As c s else match As c s with
  |p::r=>(b::p)::r
  |[]=>[[b]]
theorem Jv (c:UInt8):∀ s,As c s≠[]
 |[]=>by unfold As;simp
 |b::s=>by
  unfold As
  split
  ·simp
  ·split<;>simp
theorem Iu (c:UInt8) (s:List UInt8):As c (c::s)=[]::As c s:=by rw [As,if_pos rfl]
theorem Jc {c b:UInt8} (h:b≠c) {s p:List UInt8} {r:List (List UInt8)} (hs:As c s=p::r):As c (b::s)=(b::p)::r:=by
 rw [As,if_neg h,hs]
theorem Lc (c:UInt8):∀ s,(As c s).length=s.count c+1
 |[]=>by simp [As]
 |b::s=>by
  have ih:=Lc c s
  by_cases h:b=c
  ·subst h
   rw [Iu,List.length_cons,ih,List.count_cons_self]
  ·obtain⟨p,r,hs⟩:∃ p r,As c s=p::r:=by
    cases e:As c s with
    |nil=>exact absurd e (Jv c s)
    |cons p r=>exact⟨p,r,rfl⟩
   rw [Jc h hs,List.count_cons_of_ne (by exact h)]
   rw [hs] at ih
   simpa using ih
theorem Ds (c:UInt8):∀ (s:List UInt8),∀ p∈As c s,p.length≤s.length
 |[],p,hp=>by simp [As] at hp;subst hp;simp
 |b::s,p,hp=>by
  by_cases h:b=c
  ·subst h
   rw [Iu] at hp
   rcases List.mem_cons.1 hp with rfl | hp
   ·simp
   ·have:=Ds b s p hp;simp;omega
  ·obtain⟨q,r,hs⟩:∃ p r,As c s=p::r:=by
    cases e:As c s with
    |nil=>exact absurd e (Jv c s)
    |cons p r=>exact⟨p,r,rfl⟩
   rw [Jc h hs] at hp
   rcases List.mem_cons.1 hp with rfl | hp
   ·have:=Ds c s q (by rw [hs];exact List.mem_cons_self);simp;omega
   ·have:=Ds c s p (by rw [hs];exact qP _ hp);simp;omega
theorem Lb {c:UInt8}:∀ {p:List UInt8} (_:∀ b∈p,b≠c) {s q:List UInt8} {r:List (List UInt8)} (_:As c s=q::r),As c (p++s)=(p++q)::r
 |[],_,_,_,_,hs=>hs
 |b::_,hp,_,_,_,hs=>Jc (hp b List.mem_cons_self) (Lb (fun x hx=>hp x (qP _ hx)) hs)
theorem Tb {c:UInt8} {p:List UInt8} (hp:∀ b∈p,b≠c):As c p=[p]:=by
 have:=Lb hp (s:=[]) (q:=[]) (r:=[]) rfl
 simpa using this
theorem Tc {c:UInt8} {p:List UInt8} (hp:∀ b∈p,b≠c) (s:List UInt8):As c (p++c::s)=p::As c s:=by
 have:=Lb hp (Iu c s)
 simpa using this
theorem La (c:UInt8):∀ (a b:List UInt8),As c (a++c::b)=As c a++As c b
 |[],b=>by rw [List.nil_append,Iu];rfl
 |x::a,b=>by
  have ih:=La c a b
  by_cases h:x=c
  ·subst h
   rw [List.cons_append,Iu,Iu,ih]
   rfl
  ·obtain⟨p,r,hs⟩:∃ p r,As c a=p::r:=by
    cases e:As c a with
    |nil=>exact absurd e (Jv c a)
    |cons p r=>exact⟨p,r,rfl⟩
   rw [hs] at ih
   rw [List.cons_append,Jc h ih,Jc h hs]
   rfl
theorem occ_one (s:List UInt8) (c:UInt8) (j:Nat):occAt s [c] j=true↔s[j]? = some c:=by
 unfold occAt
 rw [show s[j]? = (s.drop j)[0]? by simp]
 cases hd:s.drop j with
 |nil=>simp
 |cons x r=>simp;exact eq_comm
theorem Yf (c:UInt8):∀ (k:Nat) (s:List UInt8),s.count c=k→splitK [c] 0 k s=As c s
 |0,s,h=>by
  unfold splitK
  rw [Tb]
  intro b hb e
  subst e
  have:=List.count_pos_iff.2 hb
  omega
 |k+1,s,h=>by
  unfold splitK
  rcases index_spec s [c] with⟨h1,h2⟩ | ⟨i,h1,h2,h3,h4⟩
  ·exfalso
   have hc:c∈s:=List.count_pos_iff.1 (by omega)
   obtain⟨j,hj,hjc⟩:=List.getElem_of_mem hc
   have h5:=h2 j (by omega)
   have h6:=(occ_one s c j).2 (by rw [qI hj,hjc])
   rw [h6] at h5
   cases h5
  ·rw [h1]
   have hne:¬ (((i:Nat):Int) == -1)=true:=fun e=>by have:=beq_iff_eq.1 e;omega
   rw [if_neg hne]
   have hi:=(occ_one s c i).1 h3
   obtain⟨hil,hic⟩:=qJ.1 hi
   have hs:s=s.take i++c::s.drop (i+1):=by
    have:=(List.take_append_drop i s).symm
    rw [qM hil,hic] at this
    exact this
   have hp:∀ b∈s.take i,b≠c:=by
    intro b hb e
    subst e
    obtain⟨j,hj,hjb⟩:=List.getElem_of_mem hb
    have hji:j<i:=by rw [List.length_take] at hj;omega
    have h5:=h4 j hji
    rw [List.getElem_take] at hjb
    have h6:=(occ_one s b j).2 (by rw [qI (by omega),hjb])
    rw [h6] at h5
    cases h5
   have hcount:(s.drop (i+1)).count c=k:=by
    have h7:s.count c=(s.take i).count c+((s.drop (i+1)).count c+1):=by
     conv=>lhs;rw [hs]
     rw [List.count_append,List.count_cons_self]
    have h8:(s.take i).count c=0:=List.count_eq_zero.2 (fun hm=>hp c hm rfl)
    omega
   have ih:=Yf c k (s.drop (i+1)) hcount
   conv=>rhs;rw [hs]
   rw [Tc hp,←ih]
   simp
theorem Aiq (c:UInt8) (s:ByteArray):(splitB ⟨#[c]⟩ 0 (countB s ⟨#[c]⟩) s).map (·.data.toList)=As c s.data.toList:=by
 rw [splitB_data]
 have:countB s ⟨#[c]⟩=s.data.toList.count c:=count_one c s.data.toList
 rw [this]
 exact Yf c _ _ rfl
theorem Ww (c:UInt8) (s:ByteArray):countB s ⟨#[c]⟩=s.data.toList.count c:=count_one c s.data.toList
def Jl (w:List UInt8):Option Nat:=
 match decNat w with
 |some u=>if u<4294967296∧decDigits u=w then some u else none
 |none=>none
theorem We {b:UInt8} {d:Nat} (h:digitVal b=some d):48≤b.toNat∧b.toNat≤57∧d=b.toNat - 48∧d<10∧b=UInt8.ofNat (48+d):=by
 unfold digitVal at h
 split at h
 ·rename_i hh
  injection h with h
  subst h
  refine⟨hh.1,hh.2,rfl,by omega,?_⟩
  rw [show 48+(b.toNat - 48)=b.toNat by omega]
  simp
 ·cases h
theorem Su {d:Nat} (h:d<10):digitVal (UInt8.ofNat (48+d))=some d:=by
 have e:(UInt8.ofNat (48+d)).toNat=48+d:=by
  rw [UInt8.toNat_ofNat']
  omega
 unfold digitVal
 rw [e,if_pos ⟨by omega,by omega⟩]
 congr 1
 omega
theorem Nq (acc:Nat):∀ (l r:List UInt8),decFrom acc (l++r)=(decFrom acc l).bind fun a=>decFrom a r:=by
 intro l
 induction l generalizing acc with
 |nil=>intro r;rfl
 |cons b l ih=>
  intro r
  rw [List.cons_append]
  simp only [decFrom]
  cases digitVal b with
  |none=>rfl
  |some d=>exact ih (acc*10+d) r
theorem Nr (acc:Nat) (b:UInt8):decFrom acc [b]=(digitVal b).map fun d=>acc*10+d:=by
 simp only [decFrom]
 cases digitVal b<;>rfl
theorem J1 (u:Nat):decFrom 0 (decDigits u)=some u:=by
 induction u using Nat.strongRecOn with
 |_ u ih=>
  by_cases h:u<10
  ·rw [decDigits_one h,Nr,Su h]
   simp
  ·rw [decDigits,dif_neg h,Nq,ih (u / 10) (by omega)]
   simp only [Option.bind_some]
   rw [Nr,Su (Nat.mod_lt _ (by omega))]
   simp
   omega
theorem Qi (u:Nat):decDigits u≠[]:=by
 intro h
 have:=decDigits_length u
 rw [h] at this
 have h1:=nDigits_pos u
 simp at this
 omega
theorem O2 (u:Nat):decNat (decDigits u)=some u:=by
 unfold decNat
 rw [if_neg (by simp [Qi u])]
 exact J1 u
theorem Abd {u:Nat} (h:u<4294967296):Jl (decDigits u)=some u:=by
 unfold Jl
 rw [O2]
 simp [h]
theorem Nz {w:List UInt8} {u:Nat}:Jl w=some u↔u<4294967296∧decDigits u=w:=by
 constructor
 ·intro h
  unfold Jl at h
  split at h
  ·split at h
   ·rename_i hh
    injection h with h
    subst h
    exact hh
   ·cases h
  ·cases h
 ·rintro⟨h,rfl⟩
  exact Abd h
theorem Ue:∀ (u:Nat),10≤u→∀ r,decDigits u≠48::r:=by
 intro u
 induction u using Nat.strongRecOn with
 |_ u ih=>
  intro h r e
  have h9:¬ u<10:=by omega
  rw [decDigits,dif_neg h9] at e
  by_cases h10:u / 10<10
  ·rw [decDigits_one h10] at e
   simp at e
   have e1:=congrArg UInt8.toNat e.1
   have e2:(UInt8.ofNat (u / 10)).toNat=u / 10:=by rw [UInt8.toNat_ofNat'];omega
   rw [e2] at e1
   have e3:UInt8.toNat 0=0:=rfl
   omega
  ·cases hd:decDigits (u / 10) with
   |nil=>exact Qi _ hd
   |cons b t=>
    rw [hd] at e
    injection e with e1 e2
    subst e1
    exact ih (u / 10) (by omega) (by omega) t hd
theorem Afn:∀ (n:Nat) (w:List UInt8) (u:Nat),w.length=n→w≠[]→(∀ r,w=48::r→r=[])→decFrom 0 w=some u→decDigits u=w:=by
 intro n
 induction n with
 |zero=>intro w u hl hne;exact absurd (qN hl) hne
 |succ n ih=>
  intro w u hl hne hz hd
  obtain⟨l,b,rfl⟩:∃ l b,w=l++[b]:=⟨w.dropLast,w.getLast hne,(List.dropLast_concat_getLast hne).symm⟩
  rw [Nq] at hd
  cases hv:decFrom 0 l with
  |none=>rw [hv] at hd;cases hd
  |some v=>
   rw [hv] at hd
   simp only [Option.bind_some] at hd
   rw [Nr] at hd
   cases hb:digitVal b with
   |none=>rw [hb] at hd;cases hd
   |some d=>
    rw [hb] at hd
    injection hd with hd
    have hd:v*10+d=u:=hd
    obtain⟨_,_,_,hd10,hbe⟩:=We hb
    by_cases hl0:l=[]
    ·subst hl0
     injection hv with hv
     subst hv
     simp at hd
     subst hd
     rw [decDigits_one hd10,hbe]
     rfl
    ·have hz2:∀ r,l=48::r→r=[]:=by
      intro r e
      subst e
      have:=hz (r++[b]) rfl
      simp at this
     have ih2:=ih l v (by simpa using hl) hl0 hz2 hv
     have hv1:1≤v:=by
      rcases Nat.eq_zero_or_pos v with h0 | h0
      ·subst h0
       rw [decDigits_one (by omega)] at ih2
       have:=hz [b] (by rw [←ih2];rfl)
       cases this
      ·exact h0
     rw [decDigits,dif_neg (by omega),show u / 10=v by omega,show u%10=d by omega,ih2,hbe]
theorem Tl {u:Nat} (h:u<10000000000):nDigits u≤10:=by
 apply Nat.le_of_not_lt
 intro h2
 have h3:∀ (k u:Nat),k+1<nDigits u→u<10 ^ (k+1)→False:=by
  intro k
  induction k with
  |zero=>intro u h1 h2;rw [nDigits_small (by simpa using h2)] at h1;omega
  |succ k ih=>
   intro u h1 h2
   by_cases h10:u<10
   ·rw [nDigits_small h10] at h1;omega
   ·rw [nDigits_big h10] at h1
    exact ih (u / 10) (by omega) (by rw [Nat.pow_succ] at h2;omega)
 exact h3 9 u h2 (by simpa using h)
theorem Aia {w:List UInt8} {u:Nat} (h1:1≤w.length) (h10:w.length≤10) (hz:∀ r,w=48::r→r=[]) (hd:decFrom 0 w=some u):Jl w=if u<4294967296 then some u else none:=by
 have e:=Afn w.length w u rfl (by intro e;subst e;simp at h1) hz hd
 split
 ·rename_i h
  exact Nz.2 ⟨h,e⟩
 ·rename_i h
  cases hn:Jl w with
  |none=>rfl
  |some v=>
   obtain⟨hv,hw⟩:=Nz.1 hn
   rw [←hw,J1] at hd
   injection hd with hd
   omega
theorem Qz {w:List UInt8} (h:w.length<1∨10<w.length∨(∃ r,r≠[]∧w=48::r)∨decFrom 0 w=none):Jl w=none:=by
 cases hn:Jl w with
 |none=>rfl
 |some v=>
  obtain⟨hv,hw⟩:=Nz.1 hn
  exfalso
  have hlen:=decDigits_length v
  rw [hw] at hlen
  rcases h with h | h | ⟨r,hr,h⟩ | h
  ·have:=nDigits_pos v;omega
  ·have:=Tl (u:=v) (by omega);omega
  ·by_cases h9:v<10
   ·rw [decDigits_one h9,h] at hw
    injection hw with _ hw
    exact hr hw.symm
   ·exact Ue v (by omega) r (hw.trans h)
  ·rw [←hw,J1] at h
   cases h
theorem Vi:∀ (l:List UInt8) (acc u:Nat),acc≤4294967295→(parseUintM 4294967295 acc l = .ok u↔decFrom acc l=some u∧u≤4294967295)
 |[],acc,u,ha=>by
  simp only [parseUintM,decFrom]
  constructor
  ·intro h;injection h with h;subst h;exact⟨rfl,ha⟩
  ·rintro⟨h,_⟩;injection h with h;subst h;rfl
 |c::r,acc,u,ha=>by
  simp only [parseUintM,decFrom]
  by_cases hc:48≤c.toNat∧c.toNat≤57
  ·have hv:digitVal c=some (c.toNat - 48):=by unfold digitVal;rw [if_pos hc]
   rw [if_pos hc,if_neg (by omega),hv]
   by_cases hM:4294967295<acc*10+(c.toNat - 48)
   ·rw [if_pos hM]
    constructor
    ·intro h;cases h
    ·rintro⟨h,hu⟩
     exfalso
     have:=decFrom_ge r _ _ h
     omega
   ·rw [if_neg hM]
    exact Vi r _ u (by omega)
  ·have hv:digitVal c=none:=by unfold digitVal;rw [if_neg hc]
   rw [if_neg hc,hv]
   constructor
   ·intro h;cases h
   ·rintro⟨h,_⟩;cases h
where
 decFrom_ge:∀ (l:List UInt8) (acc u:Nat),decFrom acc l=some u→acc≤u
  |[],acc,u,h=>by simp only [decFrom] at h;injection h with h;omega
  |c::r,acc,u,h=>by
   simp only [decFrom] at h
   cases hv:digitVal c with
   |none=>rw [hv] at h;cases h
   |some d=>
    rw [hv] at h
    have:=decFrom_ge r _ _ h
    omega
theorem R9 (w:List UInt8) (u:Nat):parseUintB 32 w = .ok u↔decNat w=some u∧u<4294967296:=by
 unfold parseUintB decNat
 by_cases h:w=[]
 ·subst h
  simp
 ·rw [if_neg h,if_neg (by simp [h]),show(2:Nat) ^ 32 - 1=4294967295 from rfl,Vi w 0 u (by omega)]
  constructor
  ·rintro⟨h1,h2⟩;exact⟨h1,by omega⟩
  ·rintro⟨h1,h2⟩;exact⟨h1,by omega⟩
theorem Wu {w:List UInt8} {u:Nat} (h:parseUintB 32 w = .ok u):Jl w=if decDigits u=w then some u else none:=by
 obtain⟨h1,h2⟩:=(R9 w u).1 h
 unfold Jl
 rw [h1]
 simp [h2]
theorem Add {w:List UInt8} (h:∀ u,parseUintB 32 w ≠ .ok u):Jl w=none:=by
 cases hn:Jl w with
 |none=>rfl
 |some u=>
  obtain⟨h1,rfl⟩:=Nz.1 hn
  exact absurd ((R9 _ u).2 ⟨O2 u,h1⟩) (h u)
end Go.Proofs.YtapgojgcmlnbgaaGreatDoor
namespace Go.Proofs.YtapgojgcmlnbgaaGreatDoor
open Go
structure Ins where
 op:Int
 rd:Int
 rs1:Int
 rs2:Int
 imm:Int
 deriving DecidableEq
instance:Inhabited Ins:=⟨⟨0,0,0,0,0⟩⟩
def Av (w:Int) (f t:Nat):Int:=w / 2 ^ f%2 ^ (t+1 - f)
def Is (n:Int) (b:Nat):Int:=if n<2 ^ (b - 1) then n else n - 2 ^ b
structure Kind where
 form:Int
 low:Int
 middle:Int
 upper:Int
 deriving DecidableEq
def Ks (op:Int):Option Kind:=
 if op=1 then some ⟨0,55,0,0⟩
 else if op=2 then some ⟨0,23,0,0⟩
 else if op=3 then some ⟨1,111,0,0⟩
 else if op=4 then some ⟨2,103,0,0⟩
 else if op=5 then some ⟨4,99,0,0⟩
 else if op=6 then some ⟨4,99,1,0⟩
 else if op=7 then some ⟨4,99,4,0⟩
 else if op=8 then some ⟨4,99,5,0⟩
 else if op=9 then some ⟨4,99,6,0⟩
 else if op=10 then some ⟨4,99,7,0⟩
 else if op=11 then some ⟨2,3,0,0⟩
 else if op=12 then some ⟨2,3,1,0⟩
 else if op=13 then some ⟨2,3,2,0⟩
 else if op=14 then some ⟨2,3,4,0⟩
 else if op=15 then some ⟨2,3,5,0⟩
 else if op=16 then some ⟨5,35,0,0⟩
 else if op=17 then some ⟨5,35,1,0⟩
 else if op=18 then some ⟨5,35,2,0⟩
 else if op=19 then some ⟨2,19,0,0⟩
 else if op=20 then some ⟨2,19,2,0⟩
 else if op=21 then some ⟨2,19,3,0⟩
 else if op=22 then some ⟨2,19,4,0⟩
 else if op=23 then some ⟨2,19,6,0⟩
 else if op=24 then some ⟨2,19,7,0⟩
 else if op=25 then some ⟨3,19,1,0⟩
 else if op=26 then some ⟨3,19,5,0⟩
 else if op=27 then some ⟨3,19,5,32⟩
 else if op=28 then some ⟨6,51,0,0⟩
 else if op=29 then some ⟨6,51,0,32⟩
 else if op=30 then some ⟨6,51,1,0⟩
 else if op=31 then some ⟨6,51,2,0⟩
 else if op=32 then some ⟨6,51,3,0⟩
 else if op=33 then some ⟨6,51,4,0⟩
 else if op=34 then some ⟨6,51,5,0⟩
 else if op=35 then some ⟨6,51,5,32⟩
 else if op=36 then some ⟨6,51,6,0⟩
 else if op=37 then some ⟨6,51,7,0⟩
 else if op=38 then some ⟨6,51,0,1⟩
 else if op=39 then some ⟨6,51,1,1⟩
 else if op=40 then some ⟨6,51,2,1⟩
 else if op=41 then some ⟨6,51,3,1⟩
 else if op=42 then some ⟨6,51,4,1⟩
 else if op=43 then some ⟨6,51,5,1⟩
 else if op=44 then some ⟨6,51,6,1⟩
 else if op=45 then some ⟨6,51,7,1⟩
 else if op=46 then some ⟨2,15,0,0⟩
 else if op=47 then some ⟨7,115,0,0⟩
 else if op=48 then some ⟨7,115,0,1⟩
 else none
def Ic (k:Kind) (w:Int):Bool:=
 if Av w 0 6=k.low then
  if k.form=0∨k.form=1 then true
  else if k.form=7 then decide (w=k.low+k.upper*1048576)
  else if k.form=3∨k.form=6 then decide (Av w 12 14=k.middle∧Av w 25 31=k.upper)
  else decide (Av w 12 14=k.middle)
 else false
def Fe (op form w:Int):Ins:=
 let rd:=Av w 7 11
 let rs1:=Av w 15 19
 let rs2:=Av w 20 24
 if form=0 then ⟨op,rd,0,0,Is (w - Av w 0 11) 32⟩
 else if form=1 then ⟨op,rd,0,0,Is (Av w 31 31*1048576+Av w 12 19*4096+Av w 20 20*2048+Av w 21 30*2) 21⟩
 else if form=2 then ⟨op,rd,rs1,0,Is (Av w 20 31) 12⟩
 else if form=3 then ⟨op,rd,rs1,0,Av w 20 24⟩
 else if form=4 then ⟨op,0,rs1,rs2,Is (Av w 31 31*4096+Av w 7 7*2048+Av w 25 30*32+Av w 8 11*2) 13⟩
 else if form=5 then ⟨op,0,rs1,rs2,Is (Av w 25 31*32+Av w 7 11) 12⟩
 else if form=7 then ⟨op,0,0,0,0⟩
 else ⟨op,rd,rs1,rs2,0⟩
def Kr (w:Int):Nat→Int→Option Ins
 |0,_=>none
 |n+1,op=>
  match Ks op with
  |some k=>if Ic k w=true then some (Fe op k.form w) else Kr w n (op+1)
  |none=>Kr w n (op+1)
def Ns (w:Int):Option Ins:=Kr w 48 1
def Adw (k:Kind) (low mid up w:Int):Bool:=
 if low=k.low then
  if k.form=0∨k.form=1 then true
  else if k.form=7 then decide (w=k.low+k.upper*1048576)
  else if k.form=3∨k.form=6 then decide (mid=k.middle∧up=k.upper)
  else decide (mid=k.middle)
 else false
theorem Agw (k:Kind) (w:Int):Ic k w=Adw k (Av w 0 6) (Av w 12 14) (Av w 25 31) w:=rfl
def Xi (low mid up w:Int):List (Int×Kind)→Int×Int
 |[]=>(-1,7)
 |(op,k)::l=>if Adw k low mid up w=true then (op,k.form) else Xi low mid up w l
def kinds:Nat→Int→List (Int×Kind)
 |0,_=>[]
 |n+1,op=>match Ks op with
  |some k=>(op,k)::kinds n (op+1)
  |none=>kinds n (op+1)
theorem Up (w:Int):∀ (n:Nat) (op:Int),1≤op→Kr w n op=let p:=Xi (Av w 0 6) (Av w 12 14) (Av w 25 31) w (kinds n op);if p.1<0 then none else some (Fe p.1 p.2 w)
 |0,_,_=>rfl
 |n+1,op,h=>by
  unfold Kr kinds
  cases hk:Ks op with
  |none=>simpa using Up w n (op+1) (by omega)
  |some k=>
   simp only [hk]
   unfold Xi
   rw [Agw]
   by_cases ht:Adw k (Av w 0 6) (Av w 12 14) (Av w 25 31) w=true
   ·rw [if_pos ht,if_pos ht]
    simp only
    rw [if_neg (by omega)]
   ·rw [if_neg ht,if_neg ht]
    exact Up w n (op+1) (by omega)
def Y3:List (Int×Kind):=[(1,⟨0,55,0,0⟩),(2,⟨0,23,0,0⟩),(3,⟨1,111,0,0⟩),(4,⟨2,103,0,0⟩),
 (5,⟨4,99,0,0⟩),(6,⟨4,99,1,0⟩),(7,⟨4,99,4,0⟩),(8,⟨4,99,5,0⟩),(9,⟨4,99,6,0⟩),(10,⟨4,99,7,0⟩),
 (11,⟨2,3,0,0⟩),(12,⟨2,3,1,0⟩),(13,⟨2,3,2,0⟩),(14,⟨2,3,4,0⟩),(15,⟨2,3,5,0⟩),(16,⟨5,35,0,0⟩),(17,⟨5,35,1,0⟩),(18,⟨5,35,2,0⟩),
 (19,⟨2,19,0,0⟩),(20,⟨2,19,2,0⟩),(21,⟨2,19,3,0⟩),(22,⟨2,19,4,0⟩),(23,⟨2,19,6,0⟩),(24,⟨2,19,7,0⟩),(25,⟨3,19,1,0⟩),(26,⟨3,19,5,0⟩),(27,⟨3,19,5,32⟩),
 (28,⟨6,51,0,0⟩),(29,⟨6,51,0,32⟩),(30,⟨6,51,1,0⟩),(31,⟨6,51,2,0⟩),(32,⟨6,51,3,0⟩),(33,⟨6,51,4,0⟩),(34,⟨6,51,5,0⟩),(35,⟨6,51,5,32⟩),(36,⟨6,51,6,0⟩),(37,⟨6,51,7,0⟩),
 (38,⟨6,51,0,1⟩),(39,⟨6,51,1,1⟩),(40,⟨6,51,2,1⟩),(41,⟨6,51,3,1⟩),(42,⟨6,51,4,1⟩),(43,⟨6,51,5,1⟩),(44,⟨6,51,6,1⟩),(45,⟨6,51,7,1⟩),
 (46,⟨2,15,0,0⟩),(47,⟨7,115,0,0⟩),(48,⟨7,115,0,1⟩)]
theorem Ahx:kinds 48 1=Y3:=by decide +kernel
theorem Akj (w:Int) (f t:Nat):0≤Av w f t∧Av w f t<2 ^ (t+1 - f):=by
 unfold Av
 have h:(0:Int)<2 ^ (t+1 - f):=Int.pow_pos (by omega)
 exact⟨Int.emod_nonneg _ (by omega),Int.emod_lt_of_pos _ h⟩
def IsP (i:Ins):Bool:=
 if 1≤i.op∧i.op≤48∧0≤i.rd∧i.rd≤31∧0≤i.rs1∧i.rs1≤31∧0≤i.rs2∧i.rs2≤31 then
  if i.op≤2 then decide (i.rs1=0∧i.rs2=0∧i.imm%4096=0)
  else if i.op=3 then decide (i.rs1=0∧i.rs2=0∧(-1048576≤i.imm∧i.imm≤1048574)∧i.imm%2=0)
  else if i.op=4∨(11≤i.op∧i.op≤15)∨(19≤i.op∧i.op≤24)∨i.op=46 then decide (i.rs2=0∧(-2048≤i.imm∧i.imm≤2047))
  else if 5≤i.op∧i.op≤10 then decide (i.rd=0∧(-4096≤i.imm∧i.imm≤4094)∧i.imm%2=0)
  else if 16≤i.op∧i.op≤18 then decide (i.rd=0∧(-2048≤i.imm∧i.imm≤2047))
  else if 25≤i.op∧i.op≤27 then decide (i.rs2=0∧(0≤i.imm∧i.imm≤31))
  else if 28≤i.op∧i.op≤45 then decide (i.imm=0)
  else decide (i.rd=0∧i.rs1=0∧i.rs2=0∧i.imm=0)
 else false
def Mg (op:Int):Int:=
 if op≤2 then 0 else if op=3 then 1
 else if op=4∨(11≤op∧op≤15)∨(19≤op∧op≤24)∨op=46 then 2
 else if 5≤op∧op≤10 then 4 else if 16≤op∧op≤18 then 5 else if 25≤op∧op≤27 then 3 else if 28≤op∧op≤45 then 6 else 7
def Ajx (p:Int×Int):Bool:=decide (p.1<0) || (decide (1≤p.1∧p.1≤48)&&decide (p.2=Mg p.1))
theorem find_ok (low mid up w:Int):∀ l:List (Int×Kind),(∀ q∈l,Ajx (q.1,q.2.form)=true)→Ajx (Xi low mid up w l)=true
 |[],_=>rfl
 |(op,k)::l,h=>by
  unfold Xi
  split
  ·exact h (op,k) (by simp)
  ·exact find_ok low mid up w l fun q hq=>h q (by simp [hq])
theorem Af8:∀ q∈Y3,Ajx (q.1,q.2.form)=true:=by decide +kernel
theorem Aks (op w:Int):Fe op 0 w=⟨op,Av w 7 11,0,0,Is (w - Av w 0 11) 32⟩:=rfl
theorem Akt (op w:Int):Fe op 1 w=⟨op,Av w 7 11,0,0,Is (Av w 31 31*1048576+Av w 12 19*4096+Av w 20 20*2048+Av w 21 30*2) 21⟩:=rfl
theorem Aku (op w:Int):Fe op 2 w=⟨op,Av w 7 11,Av w 15 19,0,Is (Av w 20 31) 12⟩:=rfl
theorem Akv (op w:Int):Fe op 3 w=⟨op,Av w 7 11,Av w 15 19,0,Av w 20 24⟩:=rfl
theorem Akw (op w:Int):Fe op 4 w=⟨op,0,Av w 15 19,Av w 20 24,Is (Av w 31 31*4096+Av w 7 7*2048+Av w 25 30*32+Av w 8 11*2) 13⟩:=rfl
theorem Akx (op w:Int):Fe op 5 w=⟨op,0,Av w 15 19,Av w 20 24,Is (Av w 25 31*32+Av w 7 11) 12⟩:=rfl
theorem Aky (op w:Int):Fe op 6 w=⟨op,Av w 7 11,Av w 15 19,Av w 20 24,0⟩:=rfl
theorem Akz (op w:Int):Fe op 7 w=⟨op,0,0,0,0⟩:=rfl
theorem Ci (w:Int) (f t:Nat) (n:Int) (h:(2:Int) ^ (t+1 - f)=n):0≤Av w f t∧Av w f t<n:=by
 rw [←h]
 exact Akj w f t
theorem Yv {w:Int} {i:Ins} (h:Ns w=some i):IsP i=true:=by
 unfold Ns at h
 rw [Up w 48 1 (by omega),Ahx] at h
 have hk:=find_ok (Av w 0 6) (Av w 12 14) (Av w 25 31) w Y3 Af8
 generalize Xi (Av w 0 6) (Av w 12 14) (Av w 25 31) w Y3=p at h hk
 obtain⟨op,form⟩:=p
 simp only at h
 by_cases hop:op<0
 ·rw [if_pos hop] at h
  cases h
 rw [if_neg hop] at h
 have hfo:(1≤op∧op≤48)∧form=Mg op:=by
  unfold Ajx at hk
  simp only [Bool.or_eq_true,Bool.and_eq_true,decide_eq_true_eq] at hk
  omega
 clear hk
 obtain⟨⟨o1,o2⟩,rfl⟩:=hfo
 obtain rfl:Fe op (Mg op) w=i:=by injection h
 clear h
 have hrd:=Ci w 7 11 32 (by decide)
 have hr1:=Ci w 15 19 32 (by decide)
 have hr2:=Ci w 20 24 32 (by decide)
 have h31:=Ci w 31 31 2 (by decide)
 have h1219:=Ci w 12 19 256 (by decide)
 have h20:=Ci w 20 20 2 (by decide)
 have h2130:=Ci w 21 30 1024 (by decide)
 have h2031:=Ci w 20 31 4096 (by decide)
 have h7:=Ci w 7 7 2 (by decide)
 have h2530:=Ci w 25 30 64 (by decide)
 have h811:=Ci w 8 11 16 (by decide)
 have h2531:=Ci w 25 31 128 (by decide)
 have h011:Av w 0 11=w%4096:=by unfold Av;simp
 have e31:(2:Int) ^ 31=2147483648:=by decide
 have e32:(2:Int) ^ 32=4294967296:=by decide
 have e20:(2:Int) ^ 20=1048576:=by decide
 have e21:(2:Int) ^ 21=2097152:=by decide
 have e11:(2:Int) ^ 11=2048:=by decide
 have e12:(2:Int) ^ 12=4096:=by decide
 have e13:(2:Int) ^ 13=8192:=by decide
 unfold Mg
 by_cases c:op≤2
 ·rw [if_pos c,Aks]
  unfold IsP
  dsimp only
  rw [if_pos (by omega),if_pos c,decide_eq_true_eq]
  unfold Is
  simp only [e31,e32]
  refine⟨trivial,trivial,?_⟩
  split<;>omega
 rw [if_neg c]
 by_cases c1:op=3
 ·rw [if_pos c1,Akt]
  unfold IsP
  dsimp only
  rw [if_pos (by omega),if_neg c,if_pos c1,decide_eq_true_eq]
  unfold Is
  simp only [e20,e21]
  refine⟨trivial,trivial,?_⟩
  split<;>omega
 rw [if_neg c1]
 by_cases c2:op=4∨(11≤op∧op≤15)∨(19≤op∧op≤24)∨op=46
 ·rw [if_pos c2,Aku]
  unfold IsP
  dsimp only
  rw [if_pos (by omega),if_neg c,if_neg c1,if_pos c2,decide_eq_true_eq]
  unfold Is
  simp only [e11,e12]
  refine⟨trivial,?_⟩
  split<;>omega
 rw [if_neg c2]
 by_cases c3:5≤op∧op≤10
 ·rw [if_pos c3,Akw]
  unfold IsP
  dsimp only
  rw [if_pos (by omega),if_neg c,if_neg c1,if_neg c2,if_pos c3,decide_eq_true_eq]
  unfold Is
  simp only [e12,e13]
  refine⟨trivial,?_⟩
  split<;>omega
 rw [if_neg c3]
 by_cases c4:16≤op∧op≤18
 ·rw [if_pos c4,Akx]
  unfold IsP
  dsimp only
  rw [if_pos (by omega),if_neg c,if_neg c1,if_neg c2,if_neg c3,if_pos c4,decide_eq_true_eq]
  unfold Is
  simp only [e11,e12]
  refine⟨trivial,?_⟩
  split<;>omega
 rw [if_neg c4]
 by_cases c5:25≤op∧op≤27
 ·rw [if_pos c5,Akv]
  unfold IsP
  dsimp only
  rw [if_pos (by omega),if_neg c,if_neg c1,if_neg c2,if_neg c3,if_neg c4,if_pos c5,decide_eq_true_eq]
  exact⟨rfl,by omega⟩
 rw [if_neg c5]
 by_cases c6:28≤op∧op≤45
 ·rw [if_pos c6,Aky]
  unfold IsP
  dsimp only
  rw [if_pos (by omega),if_neg c,if_neg c1,if_neg c2,if_neg c3,if_neg c4,if_neg c5,if_pos c6]
  rfl
 rw [if_neg c6,Akz]
 unfold IsP
 dsimp only
 rw [if_pos (by omega),if_neg c,if_neg c1,if_neg c2,if_neg c3,if_neg c4,if_neg c5,if_neg c6]
 rfl
theorem Gc (w:Int) (f t:Nat) (a b:Int) (ha:(2:Int) ^ f=a) (hb:(2:Int) ^ (t+1 - f)=b):Av w f t=w / a%b:=by unfold Av;rw [ha,hb]
def Aei (op:Int):Bool:=
 match Ks op with
 |some k=>decide (0≤k.low∧k.low<128∧0≤k.middle∧k.middle<8∧0≤k.upper∧k.upper<128∧k.form=Mg op∧(k.form=7→k.low=115∧k.upper≤1))
 |none=>false
theorem Ac6:∀ n:Nat,n<48→Aei ((n:Int)+1)=true:=by decide +kernel
theorem Aji (op:Int) (h0:1≤op) (h1:op≤48):∃ k,Ks op=some k∧0≤k.low∧k.low<128∧0≤k.middle∧k.middle<8∧0≤k.upper∧k.upper<128∧k.form=Mg op∧(k.form=7→k.low=115∧k.upper≤1):=by
 have h:=Ac6 (op - 1).toNat (by omega)
 rw [show(((op - 1).toNat:Int)+1)=op by omega] at h
 unfold Aei at h
 cases hk:Ks op with
 |none=>rw [hk] at h;cases h
 |some k=>rw [hk] at h;exact⟨k,rfl,of_decide_eq_true h⟩
theorem Ho {i:Ins} (h:IsP i=true):(1≤i.op∧i.op≤48)∧(0≤i.rd∧i.rd≤31)∧(0≤i.rs1∧i.rs1≤31)∧0≤i.rs2∧i.rs2≤31:=by
 unfold IsP at h
 split at h
 ·omega
 ·cases h
end Go.Proofs.YtapgojgcmlnbgaaGreatDoor
namespace Go.Proofs.YtapgojgcmlnbgaaGreatDoor
open Go.RowKit
def sg (a:Int):Int:=if a<2147483648 then a else a - 4294967296
def Yi (op a b:Int):Int:=
 if op=28 then (a+b)%4294967296
 else if op=29 then (a - b)%4294967296
 else if op=37 then bits .and .u32 a b
 else if op=36 then bits .or .u32 a b
 else if op=33 then bits .xor .u32 a b
 else if op=30 then a*((2 ^ (b%32).toNat:Nat):Int)%4294967296
 else if op=34 then a / ((2 ^ (b%32).toNat:Nat):Int)
 else if op=35 then sg a / ((2 ^ (b%32).toNat:Nat):Int)%4294967296
 else if op=31 then (if sg a<sg b then 1 else 0)
 else if op=32 then (if a<b then 1 else 0)
 else if op=38 then a*b%4294967296
 else if op=39 then sg a*sg b / 4294967296%4294967296
 else if op=40 then sg a*b / 4294967296%4294967296
 else if op=41 then a*b / 4294967296
 else if op=42 then (if b=0 then 4294967295 else (sg a).tdiv (sg b)%4294967296)
 else if op=44 then (if b=0 then a else (sg a).tmod (sg b)%4294967296)
 else if op=43 then (if b=0 then 4294967295 else a / b)
 else if op=45 then (if b=0 then a else a%b)
 else 0
def Pp (op a b:Int):Bool:=
 if op=5 then decide (a=b) else if op=6 then decide (a≠b) else if op=7 then decide (sg a<sg b) else if op=8 then decide (sg b≤sg a)
 else if op=9 then decide (a<b) else if op=10 then decide (b≤a) else false
theorem Aeo {a:Int} (h0:0≤a) (h1:a≤4294967295) : -2147483648≤sg a:=by unfold sg;split<;>omega
theorem Aen {a:Int} (h0:0≤a) (h1:a≤4294967295):sg a≤2147483647:=by unfold sg;split<;>omega
theorem Jw {a:Int} (h0:0≤a) (h1:a≤4294967295):wrap32 a=sg a:=by unfold sg wrap32;split<;>omega
theorem Ak2 {a:Int} (h0:0≤a) (h1:a≤4294967295):sg a%4294967296=a:=by unfold sg;split<;>omega
theorem Aec (a b:Nat) (ha:a<4294967296) (hb:b<4294967296):bits .and .u32 (a:Int) (b:Int)=((a &&& b:Nat):Int):=by
 have hx:a &&& b<2 ^ 32:=Nat.and_lt_two_pow _ (by omega)
 have h1:(BitVec.ofInt 32 (a:Int)).toNat=a:=by
  rw [BitVec.ofInt_natCast,BitVec.toNat_ofNat];exact Nat.mod_eq_of_lt (by omega)
 have h2:(BitVec.ofInt 32 (b:Int)).toNat=b:=by
  rw [BitVec.ofInt_natCast,BitVec.toNat_ofNat];exact Nat.mod_eq_of_lt (by omega)
 show IntKind.u32.wrap ((BitVec.ofInt 32 (a:Int) &&& BitVec.ofInt 32 (b:Int)).toNat:Int)=_
 rw [BitVec.toNat_and,h1,h2,IntKind.wrap_u32]
 omega
theorem Akq (a b:Nat) (ha:a<4294967296) (hb:b<4294967296):bits .or .u32 (a:Int) (b:Int)=((a ||| b:Nat):Int):=by
 have hx:a ||| b<2 ^ 32:=Nat.or_lt_two_pow (by omega) (by omega)
 have h1:(BitVec.ofInt 32 (a:Int)).toNat=a:=by
  rw [BitVec.ofInt_natCast,BitVec.toNat_ofNat];exact Nat.mod_eq_of_lt (by omega)
 have h2:(BitVec.ofInt 32 (b:Int)).toNat=b:=by
  rw [BitVec.ofInt_natCast,BitVec.toNat_ofNat];exact Nat.mod_eq_of_lt (by omega)
 show IntKind.u32.wrap ((BitVec.ofInt 32 (a:Int) ||| BitVec.ofInt 32 (b:Int)).toNat:Int)=_
 rw [BitVec.toNat_or,h1,h2,IntKind.wrap_u32]
 omega
theorem Akd (a b:Nat) (ha:a<4294967296) (hb:b<4294967296):bits .xor .u32 (a:Int) (b:Int)=((a ^^^ b:Nat):Int):=by
 have hx:a ^^^ b<2 ^ 32:=Nat.xor_lt_two_pow (by omega) (by omega)
 have h1:(BitVec.ofInt 32 (a:Int)).toNat=a:=by
  rw [BitVec.ofInt_natCast,BitVec.toNat_ofNat];exact Nat.mod_eq_of_lt (by omega)
 have h2:(BitVec.ofInt 32 (b:Int)).toNat=b:=by
  rw [BitVec.ofInt_natCast,BitVec.toNat_ofNat];exact Nat.mod_eq_of_lt (by omega)
 show IntKind.u32.wrap ((BitVec.ofInt 32 (a:Int) ^^^ BitVec.ofInt 32 (b:Int)).toNat:Int)=_
 rw [BitVec.toNat_xor,h1,h2,IntKind.wrap_u32]
 omega
theorem Em (b:Int) (k:Nat) (hk:k≤32) (h0:0≤b) (h1:b≤4294967295):bits .and .u32 b ((2 ^ k - 1:Nat):Int)=b%((2 ^ k:Nat):Int):=by
 obtain⟨n,rfl⟩:=qH h0
 have hp:2 ^ k≤2 ^ 32:=Nat.pow_le_pow_right (by omega) hk
 have hp0:=Nat.two_pow_pos k
 rw [Aec n _ (by omega) (by omega),Nat.and_two_pow_sub_one_eq_mod]
 omega
theorem Ak8 (b:Int) (h0:0≤b) (h1:b≤4294967295):bits .and .u32 b 31=b%32:=Em b 5 (by omega) h0 h1
theorem Za {a b:Int} {A B:Nat} (ha:a.natAbs≤A) (hb:b.natAbs≤B) : -((A*B:Nat):Int)≤a*b∧a*b≤((A*B:Nat):Int):=by
 have:=Nat.mul_le_mul ha hb
 rw [←Int.natAbs_mul] at this
 omega
theorem Aep {b:Int} (h0:0≤b) (h1:b≤4294967295):sg b=0↔b=0:=by unfold sg;split<;>omega
theorem Aj9 (a b:Int) (ha0 : -2147483648≤a) (ha1:a≤2147483647) (h:b≠0) (h':b ≠ -1) : -2147483648≤a.tdiv b∧a.tdiv b≤2147483647:=by
 by_cases h1:b=1
 ·subst h1
  rw [Int.tdiv_one]
  exact⟨ha0,ha1⟩
 ·have e:=Int.natAbs_tdiv a b
  have e2:a.natAbs / b.natAbs≤a.natAbs / 2:=Nat.div_le_div_left (by omega) (by omega)
  have e3:a.natAbs.div b.natAbs=a.natAbs / b.natAbs:=rfl
  omega
def Aag (a b:Int):Int×Int:=if b=0 then (-1,a) else if b = -1 then (wrap32 (-a),0) else (a.tdiv b,a.tmod b)
theorem Akk {a b:Int} (hb0:0≤b) (hb1:b≤4294967295):(Aag (sg a) (sg b)).1%4294967296=if b=0 then 4294967295 else (sg a).tdiv (sg b)%4294967296:=by
 have hz:=Aep hb0 hb1
 unfold Aag
 by_cases h:b=0
 ·rw [if_pos (hz.2 h),if_pos h];rfl
 ·rw [if_neg (fun e=>h (hz.1 e)),if_neg h]
  split
  ·rename_i e
   rw [e,Int.tdiv_neg,Int.tdiv_one]
   show wrap32 (-(sg a))%4294967296=_
   unfold wrap32
   omega
  ·rfl
theorem Akl {a b:Int} (ha0:0≤a) (ha1:a≤4294967295) (hb0:0≤b) (hb1:b≤4294967295):(Aag (sg a) (sg b)).2%4294967296=if b=0 then a else (sg a).tmod (sg b)%4294967296:=by
 have hz:=Aep hb0 hb1
 unfold Aag
 by_cases h:b=0
 ·rw [if_pos (hz.2 h),if_pos h];exact Ak2 ha0 ha1
 ·rw [if_neg (fun e=>h (hz.1 e)),if_neg h]
  split
  ·rename_i e
   rw [e,Int.tmod_neg,Int.tmod_one]
  ·rfl
def Abl (op a b:Int):Int:=
 if op=42 then (if b=0 then 4294967295 else (sg a).tdiv (sg b)%4294967296)
 else if op=44 then (if b=0 then a else (sg a).tmod (sg b)%4294967296)
 else if op=43 then (if b=0 then 4294967295 else a / b)
 else if op=45 then (if b=0 then a else a%b)
 else 0
theorem A1 {P:Program} {c:Code} {Q:Exit→Act→World→Prop} {a:Act} {w:World} (h:∀ w',w'=w→c.wp P Q a w'):c.wp P Q a w:=h w rfl
theorem Gi {a b:Bool} (h:a=b):Ending.returned (.bool a)=Ending.returned (.bool b):=by rw [h]
theorem Dx {k:IntKind} {a b:Int} (h:a=b):Ending.returned (.int k a) = .returned (.int k b):=by rw [h]
theorem Rc {k:IntKind} {a b:Int} {c:Bool} (h:a=b):Ending.returned (.tuple #[.int k a, .bool c]) = .returned (.tuple #[.int k b, .bool c]):=by rw [h]
structure Acc where
 seq:Int
 store:Bool
 known:Bool
 at_:Int
 many:Int
 data:Int
 done:Bool
 deriving DecidableEq
instance:Inhabited Acc:=⟨⟨0,false,false,0,0,0,false⟩⟩
abbrev Acc.cells (a:Acc):Array Value:=#[.int .i64 a.seq, .bool a.store, .bool a.known, .int .u32 a.at_, .int .i64 a.many, .int .u32 a.data, .bool a.done]
abbrev Acc.val (a:Acc):Value := .agg a.cells
structure Acc.Wf (a:Acc):Prop where
 at0:0≤a.at_
 at1:a.at_≤4294967295
 data0:0≤a.data
 data1:a.data≤4294967295
 seq0 : -9223372036854775808≤a.seq
 seq1:a.seq≤9223372036854775807
 many0 : -9223372036854775808≤a.many
 many1:a.many≤9223372036854775807
theorem grownBy_trans {a b c:World} {row:Option Nat} (h:a.grownBy b row) (k:b.grownBy c row):a.grownBy c row:=
 ⟨k.os.trans h.os,k.tape.trans h.tape,k.output.trans h.output,qD h.size k.size,fun i hi hne=>(k.block i (qE hi h.size) hne).trans (h.block i hi hne)⟩
theorem Al {w:World} {base:Nat} {e:TypeId} {size:Nat} {v:Value} {n:Nat} {xs:List Value} (h:w.ownsRow base e size v n xs):∃ A c,v = .slice A n c:=by
 rcases h.2 with⟨rfl,rfl⟩ | ⟨g,c,cur,hv,_⟩
 ·exact⟨none,0,rfl⟩
 ·exact⟨_,c,hv⟩
theorem sA {α:Type} (l:List α) (i:Nat) (a:α):l.toArray.setIfInBounds i a=(l.set i a).toArray:=List.setIfInBounds_toArray ..
theorem sS {α:Type} (l:List α) (x:α) (i:Nat) (a:α):(x::l).set (i+1) a=x::l.set i a:=List.set_cons_succ
theorem sZ {α:Type} (l:List α) (x a:α):(x::l).set 0 a=a::l:=List.set_cons_zero
theorem _root_.Go.RowKit.Below.at_ {B:Nat} {W w1:World} (hb:Below B W w1) {b o:Nat} {x:Option Value} (h:b<B) (hc:W.cell? ⟨b,o,none⟩=x):w1.cell? ⟨b,o,none⟩=x:=(hb.cell (p:=⟨b,o,none⟩) h).trans hc
theorem Jg {B:Nat} {W w1:World} (hb:Below B W w1):(∀ b o,b<B→w1.cell? ⟨b,o,none⟩=W.cell? ⟨b,o,none⟩)∧(∀ b o,b<B→w1.frozen? ⟨b,o,none⟩=W.frozen? ⟨b,o,none⟩):=
 ⟨fun b o h=>hb.cell (p:=⟨b,o,none⟩) h,fun b o h=>hb.frozen (p:=⟨b,o,none⟩) h⟩
def Ox (w:World) (g:Nat) (cs:Array Value):Prop:=∀ i,w.cell? ⟨g,i,none⟩=cs[i]?
theorem Ox.below {w w':World} {B g:Nat} {cs:Array Value} (h:Ox w g cs) (hb:Below B w w') (hB:g<B):Ox w' g cs:=fun i=>(hb.cell (p:=⟨g,i,none⟩) hB).trans (h i)
theorem Ox.new (w:World) (cs:Array Value) (t:TypeId):Ox (w.alloc (.cells cs t)) w.heap.size cs:=fun i=>World.cell?_alloc_new w _ _ i
theorem Ox.alloc {w:World} {g:Nat} {cs:Array Value} (h:Ox w g cs) (hg:g<w.heap.size) (o:Obj):Ox (w.alloc o) g cs:=fun i=>(World.cell?_alloc_lt w o ⟨g,i,none⟩ hg).trans (h i)
def Blk (w:World) (g:Nat) (t:TypeId) (cs:Array Value):Prop:=w.heap[g]? = some (.cells cs t (0,0))
theorem Blk.lt {w:World} {g:Nat} {t:TypeId} {cs:Array Value} (h:Blk w g t cs):g<w.heap.size:=by
 rcases Nat.lt_or_ge g w.heap.size with h' | h'
 ·exact h'
 ·unfold Blk at h
  rw [Array.getElem?_eq_none h'] at h
  cases h
theorem Blk.cell {w:World} {g:Nat} {t:TypeId} {cs:Array Value} (h:Blk w g t cs) (i:Nat):w.cell? ⟨g,i,none⟩=cs[i]? := by
 unfold Blk at h
 simp [World.cell?,h]
theorem Blk.frozen {w:World} {g:Nat} {t:TypeId} {cs:Array Value} (h:Blk w g t cs) (i:Nat):w.frozen? ⟨g,i,none⟩=false:=by
 unfold Blk at h
 simp [World.frozen?,h]
theorem Blk.new (w:World) (t:TypeId) (cs:Array Value):Blk (w.alloc (.cells cs t)) w.heap.size t cs:=by
 unfold Blk World.alloc
 simp
theorem Blk.set {w:World} {g:Nat} {t:TypeId} {cs:Array Value} (h:Blk w g t cs) (i:Nat) (u:Value):Blk (w.setCell ⟨g,i,none⟩ u) g t (cs.setIfInBounds i u):=by
 unfold Blk at h ⊢
 simp [World.setCell,Array.getElem?_modify,h]
theorem Blk.far {w:World} {g:Nat} {t:TypeId} {cs:Array Value} (h:Blk w g t cs) {p:Addr} (hp:g≠p.block) (u:Value):Blk (w.setCell p u) g t cs:=(Below.heap_setCell w p u g hp).trans h
theorem Blk.alloc {w:World} {g:Nat} {t:TypeId} {cs:Array Value} (h:Blk w g t cs) (o:Obj):Blk (w.alloc o) g t cs:=(Below.heap_alloc w o g h.lt).trans h
theorem Blk.below {w w':World} {g B:Nat} {t:TypeId} {cs:Array Value} (h:Blk w g t cs) (hb:Below B w w') (hB:g<B):Blk w' g t cs:=(hb.block g hB).trans h
theorem Blk.ext {w w':World} {g:Nat} {t:TypeId} {cs:Array Value} (h:Blk w g t cs) (hb:Below w.heap.size w w'):Blk w' g t cs:=h.below hb h.lt
theorem Blk.grown {w w':World} {g:Nat} {t:TypeId} {cs:Array Value} {row:Option Nat} (h:Blk w g t cs) (hb:w.grownBy w' row) (hg:some g≠row):Blk w' g t cs:=(hb.block g h.lt hg).trans h
def Ar (w:World) (B:Nat) (k:IntKind) (A:Option Addr) (l:List Int):Prop:=
 l≠[]→∃ b o,A=some ⟨b,o,none⟩∧b<B∧∀ (i:Nat) (v:Int),l[i]? = some v→w.cell? ⟨b,o+i,none⟩=some (.int k v)
theorem Ar.below {w w':World} {B:Nat} {k:IntKind} {A:Option Addr} {l:List Int} (h:Ar w B k A l) (hb:Below B w w'):Ar w' B k A l:=fun hne=>by
 obtain⟨b,o,hA,hB,hc⟩:=h hne
 exact⟨b,o,hA,hB,fun i v hi=>(hb.cell (p:=⟨b,o+i,none⟩) hB).trans (hc i v hi)⟩
theorem Ar.mono {w:World} {B B':Nat} {k:IntKind} {A:Option Addr} {l:List Int} (h:Ar w B k A l) (hB:B≤B'):Ar w B' k A l:=fun hne=>by
 obtain⟨b,o,hA,hb,hc⟩:=h hne
 exact⟨b,o,hA,by omega,hc⟩
theorem Ar.at_ {w:World} {B:Nat} {k:IntKind} {A:Option Addr} {l:List Int} (h:Ar w B k A l) {n:Nat} (hn:n<l.length) :
  ∃ b o,A=some ⟨b,o,none⟩∧b<B∧∀ i,i<l.length→w.cell? ⟨b,o+i,none⟩=some (.int k (l.getD i 0)):=by
 obtain⟨b,o,hA,hB,hc⟩:=h (by intro e;simp [e] at hn)
 refine⟨b,o,hA,hB,fun i hi=>?_⟩
 have hg:l[i]? = some l[i]:=qI hi
 rw [hc i _ hg]
 simp [List.getD,hg]
theorem Ar.cells {w:World} {B:Nat} {k:IntKind} {A:Option Addr} {l:List Int} (h:Ar w B k A l):∀ ad,A=some ad→∀ j u,(l.map (Value.int k))[j]? = some u→w.cell? (ad.add j)=some u:=by
 intro ad hA j u hu
 have hj:j<l.length:=by have:=(qJ.1 hu).1;simpa using this
 obtain⟨b,o,hA',_,hc⟩:=h (by intro e;simp [e] at hj)
 rw [hA] at hA'
 injection hA' with hA'
 subst hA'
 rw [List.getElem?_map] at hu
 obtain⟨x,hx,rfl⟩:=Option.map_eq_some_iff.1 hu
 rw [Addr.add_lit]
 exact hc j x hx
theorem Ar.own {w:World} {base:Nat} {e:TypeId} {k:IntKind} {A:Option Addr} {n cap:Nat} {l:List Int} (h:w.ownsRow base e 1 (.slice A n cap) n (l.map (Value.int k))):Ar w w.heap.size k A l:=by
 intro hne
 have hln:l.length=n:=by simpa using h.1
 rcases h.2 with⟨_,h0⟩ | ⟨g,c,cur,hv,_,hh,_⟩
 ·subst h0
  exact absurd (qN hln) hne
 ·injection hv with hA _ _
  subst hA
  have hlt:g<w.heap.size:=by
   rcases Nat.lt_or_ge g w.heap.size with h' | h'
   ·exact h'
   ·rw [Array.getElem?_eq_none h'] at hh;cases hh
  refine⟨g,0,rfl,hlt,fun i v hi=>?_⟩
  have:=World.ownsRow.cells h (g:=g) rfl i (.int k v) (by simp [hi])
  rwa [Addr.add_lit] at this
structure Zs (w:World) (b o:Nat) (a:Acc):Prop where
 c0:w.cell? ⟨b,o,none⟩=some (.int .i64 a.seq)
 c1:w.cell? ⟨b,o+1,none⟩=some (.bool a.store)
 c2:w.cell? ⟨b,o+2,none⟩=some (.bool a.known)
 c3:w.cell? ⟨b,o+3,none⟩=some (.int .u32 a.at_)
 c4:w.cell? ⟨b,o+4,none⟩=some (.int .i64 a.many)
 c5:w.cell? ⟨b,o+5,none⟩=some (.int .u32 a.data)
 c6:w.cell? ⟨b,o+6,none⟩=some (.bool a.done)
theorem Zs.below {w w':World} {B b o:Nat} {a:Acc} (h:Zs w b o a) (hb:Below B w w') (hB:b<B):Zs w' b o a:=
 ⟨(hb.cell (p:=⟨b,o,none⟩) hB).trans h.c0,(hb.cell (p:=⟨b,o+1,none⟩) hB).trans h.c1,(hb.cell (p:=⟨b,o+2,none⟩) hB).trans h.c2,(hb.cell (p:=⟨b,o+3,none⟩) hB).trans h.c3,
  (hb.cell (p:=⟨b,o+4,none⟩) hB).trans h.c4,(hb.cell (p:=⟨b,o+5,none⟩) hB).trans h.c5,(hb.cell (p:=⟨b,o+6,none⟩) hB).trans h.c6⟩
def Ee (w:World) (B:Nat) (A:Option Addr) (l:List Acc):Prop:=
 l≠[]→∃ b o,A=some ⟨b,o,none⟩∧b<B∧∀ (k:Nat) (a:Acc),l[k]? = some a→Zs w b (o+k*7) a
theorem Ee.below {w w':World} {B:Nat} {A:Option Addr} {l:List Acc} (h:Ee w B A l) (hb:Below B w w'):Ee w' B A l:=fun hne=>by
 obtain⟨b,o,hA,hB,hc⟩:=h hne
 exact⟨b,o,hA,hB,fun k a hk=>(hc k a hk).below hb hB⟩
theorem Ee.mono {w:World} {B B':Nat} {A:Option Addr} {l:List Acc} (h:Ee w B A l) (hB:B≤B'):Ee w B' A l:=fun hne=>by
 obtain⟨b,o,hA,hb,hc⟩:=h hne
 exact⟨b,o,hA,by omega,hc⟩
theorem Ee.at_ {w:World} {B:Nat} {A:Option Addr} {l:List Acc} (h:Ee w B A l) {k:Nat} (hk:k<l.length) :
  ∃ b o a,A=some ⟨b,o,none⟩∧b<B∧l[k]? = some a∧l.drop k=a::l.drop (k+1)∧a∈l∧Zs w b (o+k*7) a:=by
 obtain⟨b,o,hA,hB,hc⟩:=h (by intro e;simp [e] at hk)
 have hg:l[k]? = some l[k]:=qI hk
 exact⟨b,o,l[k],hA,hB,hg,qM hk,List.getElem_mem hk,hc k _ hg⟩
end Go.Proofs.YtapgojgcmlnbgaaGreatDoor
namespace Go.Proofs.YtapgojgcmlnbgaaGreatDoor
def Cu (len:Nat) (at_ many:Int):Bool:=decide (0<many)&&decide (at_%many=0)&&decide (at_+many≤len)
def Dh (op:Int):Int:=if op=11∨op=14∨op=16 then 1 else if op=12∨op=15∨op=17 then 2 else if op=13∨op=18 then 4 else 0
def Kt (op x0 x1 x2 x3:Int):Int:=
 if op=11 then (if x0<128 then x0 else x0+4294967040)
 else if op=12 then (if x0+256*x1<32768 then x0+256*x1 else x0+256*x1+4294901760)
 else if op=13 then x0+256*x1+65536*x2+16777216*x3
 else if op=14 then x0
 else x0+256*x1
def Lm (m:List Int) (op:Int) (n:Nat):Int:=Kt op (m.getD n 0) (m.getD (n+1) 0) (m.getD (n+2) 0) (m.getD (n+3) 0)
def Dg (m:List Int) (op at_:Int):Int×Bool:=
 if (decide (11≤op)&&decide (op≤15)&&Cu m.length at_ (Dh op))=true then (Lm m op at_.toNat,true) else (0,false)
def Zd (m:List Int) (n:Nat) (w:Int):List Int:=m.set n (w%256)
def Abj (m:List Int) (n:Nat) (w:Int):List Int:=(Zd m n w).set (n+1) (w / 256%256)
def Adi (m:List Int) (n:Nat) (w:Int):List Int:=((Abj m n w).set (n+2) (w / 65536%256)).set (n+3) (w / 16777216%256)
def Bytes (m:List Int):Prop:=∀ b∈m,0≤b∧b≤255
theorem Bytes.getD {m:List Int} (h:Bytes m) (i:Nat):0≤m.getD i 0∧m.getD i 0≤255:=by
 rw [List.getD]
 cases hi:m[i]? with
 |none=>simp
 |some v=>exact h v (List.mem_of_getElem? hi)
theorem Akc (n:Int):IntKind.i8.wrap n=(n+128)%256 - 128:=by
 simp [IntKind.wrap,IntKind.bits,IntKind.signed]
 split<;>omega
theorem Ai1 (n:Int):IntKind.i16.wrap n=(n+32768)%65536 - 32768:=by
 simp [IntKind.wrap,IntKind.bits,IntKind.signed]
 split<;>omega
theorem Gt (x b:Int) (k:Nat) (hk:k≤31) (hx0:0≤x) (hx:x<((2 ^ k:Nat):Int)) (hb0:0≤b) (hb:b*((2 ^ k:Nat):Int)<4294967296):bits .or .u32 x (b*((2 ^ k:Nat):Int))=x+b*((2 ^ k:Nat):Int):=by
 obtain⟨a,rfl⟩:=qH hx0
 obtain⟨c,rfl⟩:=qH hb0
 have ha:a<2 ^ k:=Int.ofNat_lt.mp hx
 have hc:c*2 ^ k<4294967296:=Int.ofNat_lt.mp (by rw [Int.natCast_mul];exact hb)
 have hpow:2 ^ k≤2 ^ 31:=Nat.pow_le_pow_right (by omega) hk
 have h:=Nat.two_pow_add_eq_or_of_lt ha c
 have e:((c:Int)*((2 ^ k:Nat):Int))=((c*2 ^ k:Nat):Int):=by rw [Int.natCast_mul]
 rw [e,u32_or_nat a (c*2 ^ k) (by omega) hc,Nat.or_comm,Nat.mul_comm c,←h]
 omega
theorem or8 (x b:Int) (hx0:0≤x) (hx:x<256) (hb0:0≤b) (hb:b≤255):bits .or .u32 x (b*256)=x+256*b:=by
 have:=Gt x b 8 (by omega) hx0 (by simpa using hx) hb0 (by simp;omega)
 simp at this
 rw [this];omega
theorem Amd (x b:Int) (hx0:0≤x) (hx:x<65536) (hb0:0≤b) (hb:b≤255):bits .or .u32 x (b*65536)=x+65536*b:=by
 have:=Gt x b 16 (by omega) hx0 (by simpa using hx) hb0 (by simp;omega)
 simp at this
 rw [this];omega
theorem Ame (x b:Int) (hx0:0≤x) (hx:x<16777216) (hb0:0≤b) (hb:b≤255):bits .or .u32 x (b*16777216)=x+16777216*b:=by
 have:=Gt x b 24 (by omega) hx0 (by simpa using hx) hb0 (by simp;omega)
 simp at this
 rw [this];omega
theorem or0 (b:Int) (hb0:0≤b) (hb:b≤255):bits .or .u32 0 b=b:=by
 have:=Gt 0 b 0 (by omega) (by omega) (by simp) hb0 (by simp;omega)
 simpa using this
end Go.Proofs.YtapgojgcmlnbgaaGreatDoor
namespace Go.Proofs.YtapgojgcmlnbgaaGreatDoor
open Go
structure Aq where
 regs:List Int
 pc:Int
 state:Int
 cause:Int
 deriving DecidableEq
structure Com where
 pc:Int
 next:Int
 state:Int
 cause:Int
 rd:Int
 value:Int
 at_:Int
 many:Int
 data:Int
 out:Bool
 told:Int
 deriving DecidableEq
def u32 (x:Int):Int:=x%4294967296
def Aq.reg (h:Aq) (i:Int):Int:=h.regs.getD i.toNat 0
structure Aq.Wf (h:Aq):Prop where
 len:h.regs.length=32
 word:∀ x∈h.regs,0≤x∧x≤4294967295
 pc0:0≤h.pc
 pc1:h.pc≤4294967295
theorem Aq.Wf.reg {h:Aq} (hw:h.Wf) (i:Int):0≤h.reg i∧h.reg i≤4294967295:=by
 unfold Aq.reg
 rw [List.getD]
 cases hi:h.regs[i.toNat]? with
 |none=>simp
 |some v=>exact hw.word v (List.mem_of_getElem? hi)
def Ip (h:Aq):Bool:=decide (h.reg 0=0)&&((decide (h.state=2)&&decide (1≤h.cause)&&decide (h.cause≤6)) || ((decide (h.state=0) || decide (h.state=1))&&decide (h.cause=0)))
def Ahv (op:Int):Int:=[28,31,32,33,36,37,30,34,35].getD (op - 19).toNat 0
def Bg (i:Ins):Bool:=decide (0<i.rd)&&!(decide (16≤i.op)&&decide (i.op≤18))&&!(decide (5≤i.op)&&decide (i.op≤10))&&decide (i.op<46)
def F6 (i:Ins) (pc a b:Int):Int×Int:=
 if i.op=1 then (u32 i.imm,u32 (pc+4))
 else if i.op=2 then (u32 (pc+i.imm),u32 (pc+4))
 else if i.op=3 then (u32 (pc+4),u32 (pc+i.imm))
 else if i.op=4 then (u32 (pc+4),u32 (a+i.imm) - u32 (a+i.imm)%2)
 else if 5≤i.op∧i.op≤10 then (0,if Pp i.op a b=true then u32 (pc+i.imm) else u32 (pc+4))
 else if 19≤i.op∧i.op≤27 then (Yi (Ahv i.op) a (u32 i.imm),u32 (pc+4))
 else (Yi i.op a b,u32 (pc+4))
def Fl (op:Int):Int:=if op=16 then 1 else if op=17 then 2 else 4
def R8 (w many:Int):Int:=if many=1 then w%256 else if many=2 then w%65536 else w
def By (pc cause:Int):Com:=⟨pc,pc,2,cause,0,0,0,0,0,false,0⟩
def Cl (i:Ins) (h:Aq) (m:List Int):Com:=
 let a:=h.reg i.rs1
 let b:=h.reg i.rs2
 let at_:=u32 (a+i.imm)
 let rd:=if Bg i=true then i.rd else 0
 let v:=fun x:Int=>if Bg i=true then x else 0
 if 11≤i.op∧i.op≤15 then
  if (Dg m i.op at_).2=true then ⟨h.pc,u32 (h.pc+4),0,0,rd,v (Dg m i.op at_).1,0,0,0,false,0⟩ else By h.pc 3
 else if 16≤i.op∧i.op≤18 then
  if Cu m.length at_ (Fl i.op)=true then ⟨h.pc,u32 (h.pc+4),0,0,0,0,at_,Fl i.op,R8 b (Fl i.op),false,0⟩ else By h.pc 4
 else if i.op=48 then By h.pc 6
 else if i.op=47 then
  if h.reg 17=0 then ⟨h.pc,h.pc,1,0,0,0,0,0,0,false,0⟩
  else if h.reg 17=1 then ⟨h.pc,u32 (h.pc+4),0,0,0,0,0,0,0,true,h.reg 10⟩
  else By h.pc 5
 else if i.op=46 then ⟨h.pc,u32 (h.pc+4),0,0,0,0,0,0,0,false,0⟩
 else ⟨h.pc,(F6 i h.pc a b).2,0,0,rd,v (F6 i h.pc a b).1,0,0,0,false,0⟩
def Cw (c:Com) (h:Aq):Aq:=⟨if 0<c.rd then h.regs.set c.rd.toNat c.value else h.regs,c.next,c.state,c.cause⟩
def Wv (m:List Int) (many:Int) (n:Nat) (d:Int):List Int:=if many=1 then Zd m n d else if many=2 then Abj m n d else if many=4 then Adi m n d else m
def C4 (c:Com) (m:List Int):List Int:=Wv m c.many c.at_.toNat c.data
def Fz:Ins:=⟨0,0,0,0,0⟩
def Dn (m:List Int) (pc:Int):Ins×Int:=
 if (Dg m 13 pc).2=true then (match Ns (Dg m 13 pc).1 with | some i=>(i,0) | none=>(Fz,2)) else (Fz,1)
def K3 (h:Aq) (m:List Int):Com:=if (Dn m h.pc).2=0 then Cl (Dn m h.pc).1 h m else By h.pc (Dn m h.pc).2
def goH (h:Aq) (m:List Int):Aq:=Cw (K3 h m) h
def goM (h:Aq) (m:List Int):List Int:=C4 (K3 h m) m
theorem Da (x:Int):0≤u32 x∧u32 x≤4294967295:=by unfold u32;omega
structure Com.Wf (c:Com):Prop where
 pc:0≤c.pc∧c.pc≤4294967295
 next:0≤c.next∧c.next≤4294967295
 rd:0≤c.rd∧c.rd≤31
 value:0≤c.value∧c.value≤4294967295
 at_:0≤c.at_∧c.at_≤4294967295
 many:c.many=0∨c.many=1∨c.many=2∨c.many=4
 data:0≤c.data∧c.data≤4294967295
 told:0≤c.told∧c.told≤4294967295
 state:(c.state=2∧1≤c.cause∧c.cause≤6)∨((c.state=0∨c.state=1)∧c.cause=0)
theorem Ym (f:Nat→Nat→Nat) (hf:∀ a b,a<2 ^ 32→b<2 ^ 32→f a b<2 ^ 32) (op:BinOp) (h:∀ a b:Nat,a<4294967296→b<4294967296→bits op .u32 (a:Int) (b:Int)=((f a b:Nat):Int))
  {a b:Int} (ha0:0≤a) (ha1:a≤4294967295) (hb0:0≤b) (hb1:b≤4294967295):0≤bits op .u32 a b∧bits op .u32 a b≤4294967295:=by
 obtain⟨x,rfl⟩:=qH ha0
 obtain⟨y,rfl⟩:=qH hb0
 rw [h x y (by omega) (by omega)]
 have:=hf x y (by omega) (by omega)
 omega
theorem Aeh {a b:Int} (ha0:0≤a) (ha1:a≤4294967295) (hb:0≤b):0≤a / b∧a / b≤4294967295:=
 ⟨Int.ediv_nonneg ha0 hb,Int.le_trans (Int.ediv_le_self b ha0) ha1⟩
theorem Ajc {a b:Int} (ha0:0≤a) (ha1:a≤4294967295) (hb:0≤b):0≤a%b∧a%b≤4294967295:=by
 obtain⟨x,rfl⟩:=qH ha0
 obtain⟨y,rfl⟩:=qH hb
 have:=Nat.mod_le x y
 rw [←Int.natCast_emod]
 omega
theorem Ml (a:Int):0≤a%4294967296∧a%4294967296≤4294967295:=by omega
def W32 (x:Int):Prop:=0≤x∧x≤4294967295
theorem Bu {α:Type} {c:Prop} [Decidable c] {P:α→Prop} {x y:α} (h1:c→P x) (h2:¬ c→P y):P (if c then x else y):=by
 by_cases h:c
 ·rw [if_pos h];exact h1 h
 ·rw [if_neg h];exact h2 h
theorem Aea (op:Int) {a b:Int} (ha0:0≤a) (ha1:a≤4294967295) (hb0:0≤b) (hb1:b≤4294967295):0≤Yi op a b∧Yi op a b≤4294967295:=by
 have hp:∀ k:Nat,(0:Int)≤((2 ^ k:Nat):Int):=fun k=>Int.natCast_nonneg _
 have hm:0≤a*b / 4294967296∧a*b / 4294967296≤4294967295:=by
  have h:=Za (a:=a) (b:=b) (A:=4294967295) (B:=4294967295) (by omega) (by omega)
  have h2:=Int.mul_nonneg ha0 hb0
  omega
 have z:W32 0:=⟨by omega,by omega⟩
 have o:W32 1:=⟨by omega,by omega⟩
 have t:W32 4294967295:=⟨by omega,by omega⟩
 show W32 (Yi op a b)
 unfold Yi
 refine Bu (fun _=>Ml _) fun _=>?_
 refine Bu (fun _=>Ml _) fun _=>?_
 refine Bu (fun _=>Ym (· &&& ·) (fun a b _ h=>Nat.and_lt_two_pow a h) .and Aec ha0 ha1 hb0 hb1) fun _=>?_
 refine Bu (fun _=>Ym (· ||| ·) (fun a b h h'=>Nat.or_lt_two_pow h h') .or Akq ha0 ha1 hb0 hb1) fun _=>?_
 refine Bu (fun _=>Ym (· ^^^ ·) (fun a b h h'=>Nat.xor_lt_two_pow h h') .xor Akd ha0 ha1 hb0 hb1) fun _=>?_
 refine Bu (fun _=>Ml _) fun _=>?_
 refine Bu (fun _=>Aeh ha0 ha1 (hp _)) fun _=>?_
 refine Bu (fun _=>Ml _) fun _=>?_
 refine Bu (fun _=>Bu (fun _=>o) fun _=>z) fun _=>?_
 refine Bu (fun _=>Bu (fun _=>o) fun _=>z) fun _=>?_
 refine Bu (fun _=>Ml _) fun _=>?_
 refine Bu (fun _=>Ml _) fun _=>?_
 refine Bu (fun _=>Ml _) fun _=>?_
 refine Bu (fun _=>hm) fun _=>?_
 refine Bu (fun _=>Bu (fun _=>t) fun _=>Ml _) fun _=>?_
 refine Bu (fun _=>Bu (fun _=>⟨ha0,ha1⟩) fun _=>Ml _) fun _=>?_
 refine Bu (fun _=>Bu (fun _=>t) fun _=>Aeh ha0 ha1 hb0) fun _=>?_
 refine Bu (fun _=>Bu (fun _=>⟨ha0,ha1⟩) fun _=>Ajc ha0 ha1 hb0) fun _=>?_
 exact z
theorem U8 {m:List Int} (hm:Bytes m) (op at_:Int):0≤(Dg m op at_).1∧(Dg m op at_).1≤4294967295:=by
 unfold Dg
 split
 ·show 0≤Lm m op at_.toNat∧Lm m op at_.toNat≤4294967295
  unfold Lm
  have b0:=hm.getD at_.toNat
  have b1:=hm.getD (at_.toNat+1)
  have b2:=hm.getD (at_.toNat+2)
  have b3:=hm.getD (at_.toNat+3)
  unfold Kt
  (repeat' split)<;>omega
 ·exact⟨Int.le_refl _,by decide⟩
theorem Adk (i:Ins) {pc a b:Int} (ha:0≤a∧a≤4294967295) (hb:0≤b∧b≤4294967295) :
  (0≤(F6 i pc a b).1∧(F6 i pc a b).1≤4294967295)∧0≤(F6 i pc a b).2∧(F6 i pc a b).2≤4294967295:=by
 have z:(0:Int)≤0∧(0:Int)≤4294967295:=by omega
 unfold F6
 split
 ·exact⟨Da _,Da _⟩
 split
 ·exact⟨Da _,Da _⟩
 split
 ·exact⟨Da _,Da _⟩
 split
 ·have:=Da (a+i.imm)
  exact⟨Da _,by omega,by omega⟩
 split
 ·refine⟨z,?_⟩
  show 0≤(if Pp i.op a b=true then u32 (pc+i.imm) else u32 (pc+4))∧(if Pp i.op a b=true then u32 (pc+i.imm) else u32 (pc+4))≤4294967295
  split
  ·exact Da _
  ·exact Da _
 split
 ·exact⟨Aea _ ha.1 ha.2 (Da _).1 (Da _).2,Da _⟩
 ·exact⟨Aea _ ha.1 ha.2 hb.1 hb.2,Da _⟩
theorem Ka {pc cause:Int} (hpc:0≤pc∧pc≤4294967295) (hc:1≤cause∧cause≤6):(By pc cause).Wf:=by
 have z:(0:Int)≤0∧(0:Int)≤4294967295:=by omega
 exact⟨hpc,hpc,⟨by show(0:Int)≤0;omega,by show(0:Int)≤31;omega⟩,z,z,Or.inl rfl,z,z,Or.inl ⟨rfl,hc⟩⟩
theorem Ajm {w:Int} (many:Int) (h:0≤w∧w≤4294967295):0≤R8 w many∧R8 w many≤4294967295:=by
 unfold R8
 (repeat' split)<;>omega
theorem Z8 (op:Int):Fl op=0∨Fl op=1∨Fl op=2∨Fl op=4:=by
 unfold Fl
 (repeat' split)<;>omega
theorem Aah {i:Ins} {h:Aq} {m:List Int} (hi:0≤i.rd∧i.rd≤31) (hh:h.Wf) (hm:Bytes m):(Cl i h m).Wf:=by
 have z:(0:Int)≤0∧(0:Int)≤4294967295:=by omega
 have z0:(0:Int)≤0∧(0:Int)≤31:=by omega
 have hpc:0≤h.pc∧h.pc≤4294967295:=⟨hh.pc0,hh.pc1⟩
 have hrd:0≤(if Bg i=true then i.rd else 0)∧(if Bg i=true then i.rd else 0)≤31:=by split<;>omega
 have hv:∀ x:Int,0≤x∧x≤4294967295→0≤(if Bg i=true then x else 0)∧(if Bg i=true then x else 0)≤4294967295:=fun x hx=>by split<;>omega
 unfold Cl
 dsimp only
 refine Bu (fun _=>Bu (fun _=>?_) fun _=>Ka hpc (by omega)) fun _=>?_
 ·exact⟨hpc,Da _,hrd,hv _ (U8 hm _ _),z,Or.inl rfl,z,z,Or.inr ⟨Or.inl rfl,rfl⟩⟩
 refine Bu (fun _=>Bu (fun _=>?_) fun _=>Ka hpc (by omega)) fun _=>?_
 ·exact⟨hpc,Da _,z0,z,Da _,Z8 _,Ajm _ (hh.reg _),z,Or.inr ⟨Or.inl rfl,rfl⟩⟩
 refine Bu (fun _=>Ka hpc (by omega)) fun _=>?_
 refine Bu (fun _=>Bu (fun _=>?_) fun _=>Bu (fun _=>?_) fun _=>Ka hpc (by omega)) fun _=>?_
 ·exact⟨hpc,hpc,z0,z,z,Or.inl rfl,z,z,Or.inr ⟨Or.inr rfl,rfl⟩⟩
 ·exact⟨hpc,Da _,z0,z,z,Or.inl rfl,z,hh.reg _,Or.inr ⟨Or.inl rfl,rfl⟩⟩
 refine Bu (fun _=>?_) fun _=>?_
 ·exact⟨hpc,Da _,z0,z,z,Or.inl rfl,z,z,Or.inr ⟨Or.inl rfl,rfl⟩⟩
 ·obtain⟨h1,h2⟩:=Adk i (pc:=h.pc) (hh.reg i.rs1) (hh.reg i.rs2)
  exact⟨hpc,h2,hrd,hv _ h1,z,Or.inl rfl,z,z,Or.inr ⟨Or.inl rfl,rfl⟩⟩
theorem Oe {m:List Int} {pc:Int} (h:(Dn m pc).2=0):IsP (Dn m pc).1=true∧(Dg m 13 pc).2=true∧Ns (Dg m 13 pc).1=some (Dn m pc).1:=by
 unfold Dn at h ⊢
 split at h
 ·rename_i hl
  rw [if_pos hl]
  cases hd:Ns (Dg m 13 pc).1 with
  |none=>rw [hd] at h;cases h
  |some i=>exact⟨Yv hd,hl,rfl⟩
 ·cases h
theorem Qo (m:List Int) (pc:Int):(Dn m pc).2=0∨(Dn m pc).2=1∨(Dn m pc).2=2:=by
 unfold Dn
 split
 ·split
  ·exact Or.inl rfl
  ·exact Or.inr (Or.inr rfl)
 ·exact Or.inr (Or.inl rfl)
theorem Qf {h:Aq} {m:List Int} (hh:h.Wf) (hm:Bytes m):(K3 h m).Wf:=by
 unfold K3
 split
 ·rename_i hf
  exact Aah (Ho (Oe hf).1).2.1 hh hm
 ·rename_i hf
  have:=Qo m h.pc
  exact Ka ⟨hh.pc0,hh.pc1⟩ (by omega)
theorem N8 {c:Com} {h:Aq} (hc:c.Wf) (hh:h.Wf):(Cw c h).Wf:=by
 refine⟨?_,?_,hc.next.1,hc.next.2⟩
 ·unfold Cw
  split
  ·simp [hh.len]
  ·exact hh.len
 ·unfold Cw
  split
  ·intro x hx
   rcases List.mem_or_eq_of_mem_set hx with hx | rfl
   ·exact hh.word x hx
   ·exact hc.value
  ·exact hh.word
theorem T4 {c:Com} {h:Aq} (hc:c.Wf) (hm:Ip h=true):Ip (Cw c h)=true:=by
 have h0:h.reg 0=0:=by unfold Ip at hm;simp at hm;exact hm.1
 have hr:(Cw c h).reg 0=0:=by
  unfold Cw Aq.reg
  split
  ·rename_i hp
   simp only [List.getD]
   rw [List.getElem?_set_ne (by have:=hc.rd;simp;omega)]
   exact h0
  ·exact h0
 have hs:=hc.state
 unfold Ip
 rw [hr]
 show(decide ((0:Int)=0)&&((decide (c.state=2)&&decide (1≤c.cause)&&decide (c.cause≤6)) || ((decide (c.state=0) || decide (c.state=1))&&decide (c.cause=0))))=true
 simp
 omega
theorem Abk (m:List Int) (many:Int) (n:Nat) (d:Int):(Wv m many n d).length=m.length:=by
 unfold Wv Adi Abj Zd
 (repeat' split)<;>simp
theorem I0 (c:Com) (m:List Int):(C4 c m).length=m.length:=Abk _ _ _ _
theorem Bytes.set {m:List Int} (hm:Bytes m) (n:Nat) (x:Int):Bytes (m.set n (x%256)):=by
 intro b hb
 rcases List.mem_or_eq_of_mem_set hb with hb | rfl
 ·exact hm b hb
 ·omega
theorem Adj {m:List Int} (hm:Bytes m) (many:Int) (n:Nat) (d:Int):Bytes (Wv m many n d):=by
 unfold Wv Adi Abj Zd
 split
 ·exact hm.set _ _
 split
 ·exact(hm.set _ _).set _ _
 split
 ·exact(((hm.set _ _).set _ _).set _ _).set _ _
 ·exact hm
theorem Qa {c:Com} {m:List Int} (hm:Bytes m):Bytes (C4 c m):=Adj hm _ _ _
def Com.Fits (c:Com) (len:Nat):Prop:=c.many=0∨c.at_+c.many≤len
theorem Acs (i:Ins) (h:Aq) (m:List Int):(Cl i h m).Fits m.length:=by
 unfold Cl
 dsimp only
 refine Bu (P:=fun c:Com=>c.Fits m.length) (fun _=>Bu (P:=fun c:Com=>c.Fits m.length) (fun _=>Or.inl rfl) fun _=>Or.inl rfl) fun _=>?_
 refine Bu (P:=fun c:Com=>c.Fits m.length) (fun _=>Bu (P:=fun c:Com=>c.Fits m.length) (fun ht=>?_) fun _=>Or.inl rfl) fun _=>?_
 ·unfold Cu at ht
  simp at ht
  exact Or.inr (by show u32 _+Fl _≤_;omega)
 refine Bu (P:=fun c:Com=>c.Fits m.length) (fun _=>Or.inl rfl) fun _=>?_
 refine Bu (P:=fun c:Com=>c.Fits m.length) (fun _=>Bu (P:=fun c:Com=>c.Fits m.length) (fun _=>Or.inl rfl) fun _=>Bu (P:=fun c:Com=>c.Fits m.length) (fun _=>Or.inl rfl) fun _=>Or.inl rfl) fun _=>?_
 exact Bu (P:=fun c:Com=>c.Fits m.length) (fun _=>Or.inl rfl) fun _=>Or.inl rfl
theorem Rt (h:Aq) (m:List Int):(K3 h m).Fits m.length:=by
 unfold K3
 split
 ·exact Acs _ _ _
 ·exact Or.inl rfl
def Cz:Nat→Aq→List Int→List Com×Aq×List Int
 |0,h,m=>([],h,m)
 |n+1,h,m=>if h.state=0 then (K3 h m::(Cz n (goH h m) (goM h m)).1,(Cz n (goH h m) (goM h m)).2) else ([],h,m)
theorem Lr {h:Aq} (hs:h.state≠0) (m:List Int):∀ n,Cz n h m=([],h,m)
 |0=>rfl
 |n+1=>by unfold Cz;rw [if_neg hs]
theorem Gr {h:Aq} (hs:h.state=0) (m:List Int) (n:Nat):Cz (n+1) h m=(K3 h m::(Cz n (goH h m) (goM h m)).1,(Cz n (goH h m) (goM h m)).2):=by
 conv=>lhs;unfold Cz
 rw [if_pos hs]
theorem Abq (a b:Nat):∀ (h:Aq) (m:List Int),Cz (a+b) h m=((Cz a h m).1++(Cz b (Cz a h m).2.1 (Cz a h m).2.2).1,(Cz b (Cz a h m).2.1 (Cz a h m).2.2).2):=by
 induction a with
 |zero=>intro h m;simp [Cz]
 |succ a ih=>
  intro h m
  rw [show a+1+b=(a+b)+1 by omega]
  by_cases hs:h.state=0
  ·rw [Gr hs,Gr hs,ih]
   rfl
  ·rw [Lr hs,Lr hs,Lr hs]
   rfl
structure Sm (h:Aq) (m:List Int):Prop where
 hart:h.Wf
 may:Ip h=true
 bytes:Bytes m
theorem Sm.next {h:Aq} {m:List Int} (k:Sm h m):Sm (goH h m) (goM h m):=
 ⟨N8 (Qf k.hart k.bytes) k.hart,T4 (Qf k.hart k.bytes) k.may,Qa k.bytes⟩
theorem Ac2 (h:Aq) (m:List Int):(goM h m).length=m.length:=I0 _ _
theorem Tw:∀ (n:Nat) {h:Aq} {m:List Int},Sm h m→Sm (Cz n h m).2.1 (Cz n h m).2.2∧(Cz n h m).2.2.length=m.length∧(∀ c∈(Cz n h m).1,c.Wf∧c.Fits m.length)∧(Cz n h m).1.length≤n∧((Cz n h m).1.length=n∨(Cz n h m).2.1.state≠0)
 |0,_,_,k=>⟨k,rfl,fun c hc=>(by cases hc),qC _,Or.inl rfl⟩
 |n+1,h,m,k=>by
  by_cases hs:h.state=0
  ·rw [Gr hs]
   obtain⟨h1,h2,h3,h4,h5⟩:=Tw n k.next
   rw [Ac2] at h2 h3
   refine⟨h1,h2,fun c hc=>?_,by simpa using h4,by simpa using h5⟩
   rcases List.mem_cons.1 hc with rfl | hc
   ·exact⟨Qf k.hart k.bytes,Rt _ _⟩
   ·exact h3 c hc
  ·rw [Lr hs]
   exact⟨k,rfl,fun c hc=>(by cases hc),Nat.zero_le _,Or.inr hs⟩
end Go.Proofs.YtapgojgcmlnbgaaGreatDoor
namespace Go.Proofs.YtapgojgcmlnbgaaGreatDoor
open Go Go.Lib
structure Plr where
 hart:Aq
 mem:List Int
 window:Int
 phys:Int
 wide:Int
 choices:List Int
def Ki:Plr:=⟨⟨List.replicate 32 0,0,0,0⟩,[],8,64,2,[]⟩
def Dz (w:List UInt8) (l:List Int):List UInt8:=l.foldl (fun s n=>s++32::decDigits n.toNat) w
theorem S9 (w:List UInt8) (a b:List Int):Dz (Dz w a) b=Dz w (a++b):=by
 unfold Dz
 rw [List.foldl_append]
theorem Vs (x:List UInt8):∀ (l:List Int) (w:List UInt8),Dz (x++w) l=x++Dz w l
 |[],_=>rfl
 |n::l,w=>by
  have h:=Vs x l (w++32::decDigits n.toNat)
  rw [←List.append_assoc] at h
  exact h
def okB:List UInt8:=[111,107]
def Ly:List UInt8:=[63]
def Yl:List UInt8:=[98,97,100]
def isB:List UInt8:=[105,115]
def noB:List UInt8:=[110,111]
def Kf:List UInt8:=[119,111,114,100,115]
def pcB:List UInt8:=[112,99]
def Sd:List UInt8:=[115,101,116]
def M0:List UInt8:=[99,111,114,101]
def H5:List UInt8:=[99,104,111,111,115,101]
def Jd:List UInt8:=[109,111,100,101,108]
def Tm:List UInt8:=[114,117,110]
def M7:List UInt8:=[119,104,97,116]
def Kv (s:List UInt8) (l:List Com):List UInt8:=l.foldl (fun s c=>if c.out=true then s++32::decDigits c.told.toNat else s) s
def M5 (l:List Com) (h:Aq) (e:Int):List UInt8:=
 if e≠0 then Dz Yl [e] else Kv (Dz (decDigits l.length) [h.state,h.cause,h.pc]) l
def D2:List (List UInt8)→Option (List Int)
 |[]=>some []
 |w::r=>match Jl w with
  |none=>none
  |some u=>(D2 r).map fun l=>(u:Int)::l
theorem Mo:∀ {ws:List (List UInt8)} {l:List Int},D2 ws=some l→l.length=ws.length
 |[],l,h=>by simp only [D2] at h;injection h with h;subst h;rfl
 |w::r,l,h=>by
  simp only [D2] at h
  cases hn:Jl w with
  |none=>rw [hn] at h;cases h
  |some u=>
   rw [hn] at h
   cases hr:D2 r with
   |none=>rw [hr] at h;cases h
   |some k=>
    rw [hr] at h
    injection h with h
    subst h
    simp [Mo hr]
theorem Mp:∀ {ws:List (List UInt8)} {l:List Int},D2 ws=some l→∀ x∈l,0≤x∧x≤4294967295
 |[],l,h,x,hx=>by simp only [D2] at h;injection h with h;subst h;cases hx
 |w::r,l,h,x,hx=>by
  simp only [D2] at h
  cases hn:Jl w with
  |none=>rw [hn] at h;cases h
  |some u=>
   rw [hn] at h
   cases hr:D2 r with
   |none=>rw [hr] at h;cases h
   |some k=>
    rw [hr] at h
    injection h with h
    subst h
    rcases List.mem_cons.1 hx with rfl | hx
    ·have:=(Nz.1 hn).1;omega
    ·exact Mp hr x hx
def Bb (w:Int):List Int:=[w%256,w / 256%256,w / 65536%256,w / 16777216%256]
theorem Afa {w:Int}:Bytes (Bb w):=by
 intro b hb
 unfold Bb at hb
 simp at hb
 rcases hb with rfl | rfl | rfl | rfl<;>omega
section
variable (M R:Plr→Int→List Com×Aq×Int) (D:Int→Option (List Int)) (may:Int→Int→Int→Bool)
def K0 (w:Int):List UInt8:=match D w with
 |none=>noB
 |some l=>Dz isB l
def Gf (p:Plr) (s:List UInt8):Plr×List UInt8:=
 match D2 (As 32 s).tail with
 |none=>(p,Ly)
 |some l=>
  let k:=(As 32 s).headD []
  if k=Kf then if 4096<p.mem.length+4*l.length then (p,Ly) else ({ p with mem:=p.mem++l.flatMap Bb },Dz okB [((p.mem++l.flatMap Bb).length:Nat)])
  else if k=pcB∧l.length=1 then ({ p with hart:={ p.hart with pc:=l.getD 0 0 } },okB)
  else if k=Sd∧l.length=2∧1≤l.getD 0 0∧l.getD 0 0≤31 then ({ p with hart:={ p.hart with regs:=p.hart.regs.set (l.getD 0 0).toNat (l.getD 1 0) } },okB)
  else if k=M0∧l.length=3 then if may (l.getD 0 0) (l.getD 1 0) (l.getD 2 0)=true then ({ p with window:=l.getD 0 0,phys:=l.getD 1 0,wide:=l.getD 2 0 },okB) else (p,Ly)
  else if k=H5 then ({ p with choices:=l },Dz okB [(l.length:Nat)])
  else if k=Jd∧l.length=1 then (p,M5 (M p (l.getD 0 0)).1 (M p (l.getD 0 0)).2.1 (M p (l.getD 0 0)).2.2)
  else if k=Tm∧l.length=1 then (p,M5 (R p (l.getD 0 0)).1 (R p (l.getD 0 0)).2.1 (R p (l.getD 0 0)).2.2)
  else if k=M7∧l.length=1 then (p,K0 D (l.getD 0 0))
  else (p,Ly)
def F0:Plr→List (List UInt8)→List UInt8
 |_,[]=>[]
 |p,s::r=>(Gf M R D may p s).2++10::F0 (Gf M R D may p s).1 r
def Akn:Plr→List (List UInt8)→Plr
 |p,[]=>p
 |p,s::r=>Akn (Gf M R D may p s).1 r
theorem O6:∀ (p:Plr) (a b:List (List UInt8)),F0 M R D may p (a++b)=F0 M R D may p a++F0 M R D may (Akn M R D may p a) b
 |p,[],b=>rfl
 |p,s::a,b=>by
  rw [List.cons_append]
  simp only [F0,Akn]
  rw [O6 _ a b]
  simp
def Ms (s:List UInt8):List (List UInt8):=(if (As 10 s).getLastD []=[] then (As 10 s).dropLast else As 10 s).take 40
def N1 (s:List UInt8):List UInt8:=F0 M R D may Ki (Ms s)
theorem Zh (a b:List UInt8):∃ r,Ms (a++[10]++b)=Ms (a++[10])++r:=by
 unfold Ms
 have e1:As 10 (a++[10])=As 10 a++[[]]:=La 10 a []
 have e2:As 10 (a++[10]++b)=As 10 a++As 10 b:=by
  rw [List.append_assoc]
  exact La 10 a b
 rw [e1,e2]
 have e3:(if (As 10 a++[[]]).getLastD []=[] then (As 10 a++[[]]).dropLast else As 10 a++[[]])=As 10 a:=by rw [if_pos (by simp),List.dropLast_concat]
 rw [e3]
 obtain⟨X,hX⟩:∃ X,(if (As 10 a++As 10 b).getLastD []=[] then (As 10 a++As 10 b).dropLast else As 10 a++As 10 b)=As 10 a++X:=by
  split
  ·exact⟨(As 10 b).dropLast,List.dropLast_append_of_ne_nil (Jv 10 b)⟩
  ·exact⟨_,rfl⟩
 rw [hX]
 exact⟨X.take (40 - (As 10 a).length),List.take_append⟩
theorem Adf (a b:List UInt8):∃ r,N1 M R D may (a++[10]++b)=N1 M R D may (a++[10])++r:=by
 obtain⟨r,hr⟩:=Zh a b
 unfold N1
 rw [hr,O6]
 exact⟨_,rfl⟩
theorem Aif:N1 M R D may [63]=[63,10]:=by
 have e:Ms [63]=[[63]]:=by decide
 unfold N1
 rw [e]
 simp only [F0]
 have:(Gf M R D may Ki [63]).2=[63]:=by
  unfold Gf
  have e1:As 32 [63]=[[63]]:=by decide
  rw [e1]
  simp only [List.tail_cons,D2,List.headD_cons]
  simp [Kf,pcB,Sd,M0,H5,Jd,Tm,M7,Ly]
 rw [this]
 rfl
end
end Go.Proofs.YtapgojgcmlnbgaaGreatDoor
namespace Go.Proofs.YtapgojgcmlnbgaaGreatDoor
open Go.Shelf
def K6:Go.Shelf.Ren:=⟨fun | 146=>15 | 221=>26 | 268=>44 | 138=>45 | 143=>46 | 195=>78 | 197=>79 | 218=>80 | 219=>81 | 260=>112 | 217=>113 | 225=>114 | 224=>115 | 267=>116 | 266=>143 | 314=>144 | n=>n,fun | 9=>9 | 31=>22 | 3=>3 | 4=>4 | 0=>0 | 105=>156 | 21=>21 | 5=>5 | 46=>113 | 119=>214 | 139=>217 | 138=>216 | 146=>130 | 51=>27 | n=>n,fun | 1=>0 | 3=>1 | 4=>2 | n=>n⟩
theorem Xw:Go.Proofs.LaysM.n146 Tryz.prog K6 where
 mixed:=by kernel_rfl
 f138:=Tryz.func45.trans (congrArg some (by kernel_rfl))
 f143:=Tryz.func46.trans (congrArg some (by kernel_rfl))
 f146:=Tryz.func15.trans (congrArg some (by kernel_rfl))
 f195:=Tryz.func78.trans (congrArg some (by kernel_rfl))
 f197:=Tryz.func79.trans (congrArg some (by kernel_rfl))
 f217:=Tryz.func113.trans (congrArg some (by kernel_rfl))
 f218:=Tryz.func80.trans (congrArg some (by kernel_rfl))
 f219:=Tryz.func81.trans (congrArg some (by kernel_rfl))
 f221:=Tryz.func26.trans (congrArg some (by kernel_rfl))
 f224:=Tryz.func115.trans (congrArg some (by kernel_rfl))
 f225:=Tryz.func114.trans (congrArg some (by kernel_rfl))
 f260:=Tryz.func112.trans (congrArg some (by kernel_rfl))
 f266:=Tryz.func143.trans (congrArg some (by kernel_rfl))
 f267:=Tryz.func116.trans (congrArg some (by kernel_rfl))
 f268:=Tryz.func44.trans (congrArg some (by kernel_rfl))
 f314:=Tryz.func144.trans (congrArg some (by kernel_rfl))
 t0:=Tryz.underlying0
 a0:=Tryz.isAgg0
 z0:=Tryz.sizeOf0
 v0:=Tryz.zeroValue0
 t3:=Tryz.underlying3
 a3:=Tryz.isAgg3
 z3:=Tryz.sizeOf3
 v3:=Tryz.zeroValue3
 t4:=Tryz.underlying4
 a4:=Tryz.isAgg4
 z4:=Tryz.sizeOf4
 v4:=Tryz.zeroValue4
 t5:=Tryz.underlying5
 a5:=Tryz.isAgg5
 z5:=Tryz.sizeOf5
 v5:=Tryz.zeroValue5
 t9:=Tryz.underlying9
 a9:=Tryz.isAgg9
 z9:=Tryz.sizeOf9
 v9:=Tryz.zeroValue9
 t21:=Tryz.underlying21
 a21:=Tryz.isAgg21
 z21:=Tryz.sizeOf21
 v21:=Tryz.zeroValue21
 t31:=Tryz.underlying22
 a31:=Tryz.isAgg22
 z31:=Tryz.sizeOf22
 v31:=Tryz.zeroValue22
 t46:=Tryz.underlying113
 a46:=Tryz.isAgg113
 z46:=Tryz.sizeOf113
 v46:=Tryz.zeroValue113
 t51:=Tryz.underlying27
 a51:=Tryz.isAgg27
 z51:=Tryz.sizeOf27
 v51:=Tryz.zeroValue27
 t105:=Tryz.underlying156
 a105:=Tryz.isAgg156
 z105:=Tryz.sizeOf156
 v105:=Tryz.zeroValue156
 t119:=Tryz.underlying214
 a119:=Tryz.isAgg214
 z119:=Tryz.sizeOf214
 t138:=Tryz.underlying216
 a138:=Tryz.isAgg216
 z138:=Tryz.sizeOf216
 v138:=Tryz.zeroValue216
 t139:=Tryz.underlying217
 a139:=Tryz.isAgg217
 z139:=Tryz.sizeOf217
 v139:=Tryz.zeroValue217
 t146:=Tryz.underlying130
 a146:=Tryz.isAgg130
 z146:=Tryz.sizeOf130
 v146:=Tryz.zeroValue130
 g1:=by kernel_rfl
 g3:=by kernel_rfl
 g4:=by kernel_rfl
 i0:=by kernel_rfl
 i3:=by kernel_rfl
 i4:=by kernel_rfl
 i5:=by kernel_rfl
 i9:=by kernel_rfl
 i21:=by kernel_rfl
 i31:=by kernel_rfl
 i46:=by kernel_rfl
 i51:=by kernel_rfl
 i105:=by kernel_rfl
 i138:=by kernel_rfl
 i139:=by kernel_rfl
 i146:=by kernel_rfl
 m1:=by kernel_rfl
 s1_3:=fun w h=>Go.Proofs.cell_of_shapedOpen_int (zero:=#[.int .i64 0]) (t:=3) h (of_decide_eq_true (by kernel_rfl)) (by kernel_rfl) rfl (by kernel_rfl) (by kernel_rfl) Tryz.underlying3
 m3:=by kernel_rfl
 m4:=by kernel_rfl
def Y5:Go.Shelf.Ren:=⟨fun | 101=>50 | 208=>85 | 206=>127 | n=>n,fun | 9=>9 | 4=>4 | 3=>3 | n=>n,fun | n=>n⟩
theorem Ahz:Go.Proofs.Lays.n101 Tryz.prog Y5 where
 mixed:=by kernel_rfl
 f101:=Tryz.func50.trans (congrArg some (by kernel_rfl))
 f206:=Tryz.func127.trans (congrArg some (by kernel_rfl))
 f208:=Tryz.func85.trans (congrArg some (by kernel_rfl))
 t3:=Tryz.underlying3
 a3:=Tryz.isAgg3
 z3:=Tryz.sizeOf3
 v3:=Tryz.zeroValue3
 t4:=Tryz.underlying4
 a4:=Tryz.isAgg4
 z4:=Tryz.sizeOf4
 v4:=Tryz.zeroValue4
 t9:=Tryz.underlying9
 a9:=Tryz.isAgg9
 z9:=Tryz.sizeOf9
 v9:=Tryz.zeroValue9
def Aa4:Go.Shelf.Ren:=⟨fun | 246=>158 | 283=>123 | 284=>124 | 285=>125 | 286=>126 | 129=>149 | 317=>148 | 318=>150 | 319=>151 | 320=>152 | 337=>156 | 338=>157 | n=>n,fun | 2=>2 | 3=>3 | 9=>9 | 4=>4 | 171=>193 | 0=>0 | 53=>117 | 37=>31 | 5=>5 | 173=>196 | 212=>223 | 51=>27 | 20=>20 | 213=>224 | 46=>113 | 232=>236 | 233=>237 | n=>n,fun | 17=>5 | 18=>6 | 19=>7 | n=>n⟩
theorem Y4:Go.Proofs.LaysM.n246 Tryz.prog Aa4 where
 mixed:=by kernel_rfl
 f129:=Tryz.func149.trans (congrArg some (by kernel_rfl))
 f246:=Tryz.func158.trans (congrArg some (by kernel_rfl))
 f283:=Tryz.func123.trans (congrArg some (by kernel_rfl))
 f284:=Tryz.func124.trans (congrArg some (by kernel_rfl))
 f285:=Tryz.func125.trans (congrArg some (by kernel_rfl))
 f286:=Tryz.func126.trans (congrArg some (by kernel_rfl))
 f317:=Tryz.func148.trans (congrArg some (by kernel_rfl))
 f318:=Tryz.func150.trans (congrArg some (by kernel_rfl))
 f319:=Tryz.func151.trans (congrArg some (by kernel_rfl))
 f320:=Tryz.func152.trans (congrArg some (by kernel_rfl))
 f337:=Tryz.func156.trans (congrArg some (by kernel_rfl))
 f338:=Tryz.func157.trans (congrArg some (by kernel_rfl))
 t0:=Tryz.underlying0
 a0:=Tryz.isAgg0
 z0:=Tryz.sizeOf0
 v0:=Tryz.zeroValue0
 t2:=Tryz.underlying2
 a2:=Tryz.isAgg2
 z2:=Tryz.sizeOf2
 v2:=Tryz.zeroValue2
 t3:=Tryz.underlying3
 a3:=Tryz.isAgg3
 z3:=Tryz.sizeOf3
 v3:=Tryz.zeroValue3
 t4:=Tryz.underlying4
 a4:=Tryz.isAgg4
 z4:=Tryz.sizeOf4
 v4:=Tryz.zeroValue4
 t5:=Tryz.underlying5
 a5:=Tryz.isAgg5
 z5:=Tryz.sizeOf5
 v5:=Tryz.zeroValue5
 t9:=Tryz.underlying9
 a9:=Tryz.isAgg9
 z9:=Tryz.sizeOf9
 v9:=Tryz.zeroValue9
 t20:=Tryz.underlying20
 a20:=Tryz.isAgg20
 z20:=Tryz.sizeOf20
 v20:=Tryz.zeroValue20
 t37:=Tryz.underlying31
 a37:=Tryz.isAgg31
 z37:=Tryz.sizeOf31
 v37:=Tryz.zeroValue31
 t46:=Tryz.underlying113
 a46:=Tryz.isAgg113
 z46:=Tryz.sizeOf113
 v46:=Tryz.zeroValue113
 t51:=Tryz.underlying27
 a51:=Tryz.isAgg27
 z51:=Tryz.sizeOf27
 v51:=Tryz.zeroValue27
 t53:=Tryz.underlying117
 a53:=Tryz.isAgg117
 z53:=Tryz.sizeOf117
 v53:=Tryz.zeroValue117
 t171:=Tryz.underlying193
 a171:=Tryz.isAgg193
 z171:=Tryz.sizeOf193
 v171:=Tryz.zeroValue193
 t173:=Tryz.underlying196
 a173:=Tryz.isAgg196
 z173:=Tryz.sizeOf196
 v173:=Tryz.zeroValue196
 t212:=Tryz.underlying223
 a212:=Tryz.isAgg223
 z212:=Tryz.sizeOf223
 v212:=Tryz.zeroValue223
 t213:=Tryz.underlying224
 a213:=Tryz.isAgg224
 z213:=Tryz.sizeOf224
 t232:=Tryz.underlying236
 a232:=Tryz.isAgg236
 z232:=Tryz.sizeOf236
 v232:=Tryz.zeroValue236
 t233:=Tryz.underlying237
 a233:=Tryz.isAgg237
 z233:=Tryz.sizeOf237
 v233:=Tryz.zeroValue237
 g17:=by kernel_rfl
 g18:=by kernel_rfl
 g19:=by kernel_rfl
 i0:=by kernel_rfl
 i2:=by kernel_rfl
 i3:=by kernel_rfl
 i4:=by kernel_rfl
 i5:=by kernel_rfl
 i9:=by kernel_rfl
 i20:=by kernel_rfl
 i37:=by kernel_rfl
 i46:=by kernel_rfl
 i51:=by kernel_rfl
 i53:=by kernel_rfl
 i171:=by kernel_rfl
 i173:=by kernel_rfl
 i212:=by kernel_rfl
 i232:=by kernel_rfl
 i233:=by kernel_rfl
 m17:=by kernel_rfl
 m18:=by kernel_rfl
 m19:=by kernel_rfl
def J3:Go.Shelf.Ren:=⟨fun | 14=>47 | 16=>82 | 17=>83 | 19=>117 | 20=>118 | 21=>119 | 22=>120 | 23=>121 | 24=>122 | 25=>145 | 27=>147 | 26=>146 | 28=>155 | 29=>158 | 30=>123 | 31=>124 | 32=>125 | 33=>126 | 35=>149 | 34=>148 | 36=>150 | 37=>151 | 38=>152 | 39=>156 | 40=>157 | n=>n,fun | 9=>9 | 3=>3 | 22=>117 | 24=>119 | 25=>120 | 4=>4 | 34=>187 | 5=>5 | 36=>113 | 37=>31 | 0=>0 | 39=>189 | 21=>21 | 44=>220 | 47=>230 | 50=>233 | 48=>231 | 2=>2 | 52=>193 | 55=>196 | 59=>223 | 60=>27 | 20=>20 | 61=>224 | 65=>236 | 66=>237 | 67=>238 | n=>n,fun | 0=>3 | 1=>4 | 2=>5 | 3=>6 | 4=>7 | n=>n⟩
theorem Ac9:Go.Proofs.LaysPu.n14 Tryz.prog J3 where
 mixed:=by kernel_rfl
 f14:=Tryz.func47.trans (congrArg some (by kernel_rfl))
 f16:=Tryz.func82.trans (congrArg some (by kernel_rfl))
 f17:=Tryz.func83.trans (congrArg some (by kernel_rfl))
 f19:=Tryz.func117.trans (congrArg some (by kernel_rfl))
 f20:=Tryz.func118.trans (congrArg some (by kernel_rfl))
 f21:=Tryz.func119.trans (congrArg some (by kernel_rfl))
 f22:=Tryz.func120.trans (congrArg some (by kernel_rfl))
 f23:=Tryz.func121.trans (congrArg some (by kernel_rfl))
 f24:=Tryz.func122.trans (congrArg some (by kernel_rfl))
 f25:=Tryz.func145.trans (congrArg some (by kernel_rfl))
 f26:=Tryz.func146.trans (congrArg some (by kernel_rfl))
 f27:=Tryz.func147.trans (congrArg some (by kernel_rfl))
 f28:=Tryz.func155.trans (congrArg some (by kernel_rfl))
 f29:=Tryz.func158.trans (congrArg some (by kernel_rfl))
 f30:=Tryz.func123.trans (congrArg some (by kernel_rfl))
 f31:=Tryz.func124.trans (congrArg some (by kernel_rfl))
 f32:=Tryz.func125.trans (congrArg some (by kernel_rfl))
 f33:=Tryz.func126.trans (congrArg some (by kernel_rfl))
 f34:=Tryz.func148.trans (congrArg some (by kernel_rfl))
 f35:=Tryz.func149.trans (congrArg some (by kernel_rfl))
 f36:=Tryz.func150.trans (congrArg some (by kernel_rfl))
 f37:=Tryz.func151.trans (congrArg some (by kernel_rfl))
 f38:=Tryz.func152.trans (congrArg some (by kernel_rfl))
 f39:=Tryz.func156.trans (congrArg some (by kernel_rfl))
 f40:=Tryz.func157.trans (congrArg some (by kernel_rfl))
 t0:=Tryz.underlying0
 a0:=Tryz.isAgg0
 z0:=Tryz.sizeOf0
 v0:=Tryz.zeroValue0
 i0:=by kernel_rfl
 t2:=Tryz.underlying2
 a2:=Tryz.isAgg2
 z2:=Tryz.sizeOf2
 v2:=Tryz.zeroValue2
 i2:=by kernel_rfl
 t3:=Tryz.underlying3
 a3:=Tryz.isAgg3
 z3:=Tryz.sizeOf3
 v3:=Tryz.zeroValue3
 i3:=by kernel_rfl
 t4:=Tryz.underlying4
 a4:=Tryz.isAgg4
 z4:=Tryz.sizeOf4
 v4:=Tryz.zeroValue4
 i4:=by kernel_rfl
 t5:=Tryz.underlying5
 a5:=Tryz.isAgg5
 z5:=Tryz.sizeOf5
 v5:=Tryz.zeroValue5
 i5:=by kernel_rfl
 t9:=Tryz.underlying9
 a9:=Tryz.isAgg9
 z9:=Tryz.sizeOf9
 v9:=Tryz.zeroValue9
 i9:=by kernel_rfl
 t20:=Tryz.underlying20
 a20:=Tryz.isAgg20
 z20:=Tryz.sizeOf20
 v20:=Tryz.zeroValue20
 i20:=by kernel_rfl
 t21:=Tryz.underlying21
 a21:=Tryz.isAgg21
 z21:=Tryz.sizeOf21
 v21:=Tryz.zeroValue21
 i21:=by kernel_rfl
 t22:=Tryz.underlying117
 a22:=Tryz.isAgg117
 z22:=Tryz.sizeOf117
 v22:=Tryz.zeroValue117
 i22:=by kernel_rfl
 t24:=Tryz.underlying119
 a24:=Tryz.isAgg119
 z24:=Tryz.sizeOf119
 v24:=Tryz.zeroValue119
 i24:=by kernel_rfl
 t25:=Tryz.underlying120
 a25:=Tryz.isAgg120
 z25:=Tryz.sizeOf120
 v25:=Tryz.zeroValue120
 i25:=by kernel_rfl
 t34:=Tryz.underlying187
 a34:=Tryz.isAgg187
 z34:=Tryz.sizeOf187
 v34:=Tryz.zeroValue187
 i34:=by kernel_rfl
 c34:=by kernel_rfl
 t36:=Tryz.underlying113
 a36:=Tryz.isAgg113
 z36:=Tryz.sizeOf113
 v36:=Tryz.zeroValue113
 i36:=by kernel_rfl
 t37:=Tryz.underlying31
 a37:=Tryz.isAgg31
 z37:=Tryz.sizeOf31
 v37:=Tryz.zeroValue31
 i37:=by kernel_rfl
 t39:=Tryz.underlying189
 a39:=Tryz.isAgg189
 z39:=Tryz.sizeOf189
 v39:=Tryz.zeroValue189
 i39:=by kernel_rfl
 t44:=Tryz.underlying220
 a44:=Tryz.isAgg220
 z44:=Tryz.sizeOf220
 v44:=Tryz.zeroValue220
 i44:=by kernel_rfl
 t47:=Tryz.underlying230
 a47:=Tryz.isAgg230
 z47:=Tryz.sizeOf230
 v47:=Tryz.zeroValue230
 i47:=by kernel_rfl
 t48:=Tryz.underlying231
 a48:=Tryz.isAgg231
 z48:=Tryz.sizeOf231
 v48:=Tryz.zeroValue231
 i48:=by kernel_rfl
 t50:=Tryz.underlying233
 a50:=Tryz.isAgg233
 z50:=Tryz.sizeOf233
 v50:=Tryz.zeroValue233
 i50:=by kernel_rfl
 t52:=Tryz.underlying193
 a52:=Tryz.isAgg193
 z52:=Tryz.sizeOf193
 v52:=Tryz.zeroValue193
 i52:=by kernel_rfl
 t55:=Tryz.underlying196
 a55:=Tryz.isAgg196
 z55:=Tryz.sizeOf196
 v55:=Tryz.zeroValue196
 i55:=by kernel_rfl
 t59:=Tryz.underlying223
 a59:=Tryz.isAgg223
 z59:=Tryz.sizeOf223
 v59:=Tryz.zeroValue223
 i59:=by kernel_rfl
 t60:=Tryz.underlying27
 a60:=Tryz.isAgg27
 z60:=Tryz.sizeOf27
 v60:=Tryz.zeroValue27
 i60:=by kernel_rfl
 t61:=Tryz.underlying224
 a61:=Tryz.isAgg224
 z61:=Tryz.sizeOf224
 t65:=Tryz.underlying236
 a65:=Tryz.isAgg236
 z65:=Tryz.sizeOf236
 v65:=Tryz.zeroValue236
 i65:=by kernel_rfl
 t66:=Tryz.underlying237
 a66:=Tryz.isAgg237
 z66:=Tryz.sizeOf237
 v66:=Tryz.zeroValue237
 i66:=by kernel_rfl
 t67:=Tryz.underlying238
 a67:=Tryz.isAgg238
 z67:=Tryz.sizeOf238
 v67:=Tryz.zeroValue238
 i67:=by kernel_rfl
 g0:=by kernel_rfl
 m0:=by kernel_rfl
 g1:=by kernel_rfl
 m1:=by kernel_rfl
 g2:=by kernel_rfl
 m2:=by kernel_rfl
 g3:=by kernel_rfl
 m3:=by kernel_rfl
 g4:=by kernel_rfl
 m4:=by kernel_rfl
end Go.Proofs.YtapgojgcmlnbgaaGreatDoor
namespace Go.Proofs.YtapgojgcmlnbgaaGreatDoor
open Go Go.Lib Go.RowKit Go.Shelf
structure Ig (B:Nat) (w:World):Prop where
 tab : ∀ w', Below B w w' → TabIs Tryz.prog w' "internal/strconv.uint64pow10" .u64 pow10Tab
 synt:∃ ev,w.cell? ⟨J3.g 0,0,none⟩=some ev∧(ev = .nilIface∨∃ te pe,ev = .iface te pe)
 rng:∃ ev,w.cell? ⟨J3.g 1,0,none⟩=some ev∧(ev = .nilIface∨∃ te pe,ev = .iface te pe)
 most:∃ m,w.cell? ⟨K6.g 1,0,none⟩=some (.int .i64 m)
 low:8≤B
theorem Ig.ext {B:Nat} {w w':World} (V:Ig B w) (hb:Below B w w'):Ig B w':=
 have lo:=V.low
 ⟨fun x hx=>V.tab x (hb.trans hx),by obtain⟨ev,h1,h2⟩:=V.synt;exact⟨ev,(hb.cell (p:=⟨J3.g 0,0,none⟩) (qE (by decide) lo)).trans h1,h2⟩,
  by obtain⟨ev,h1,h2⟩:=V.rng;exact⟨ev,(hb.cell (p:=⟨J3.g 1,0,none⟩) (qE (by decide) lo)).trans h1,h2⟩,
  by obtain⟨m,h1⟩:=V.most;exact⟨m,(hb.cell (p:=⟨K6.g 1,0,none⟩) (qE (by decide) lo)).trans h1⟩,lo⟩
abbrev sV (l:List UInt8):Value := .string ⟨l.toArray⟩
theorem Sf {B:Nat} (c:UInt8) (l:List UInt8) (w:World) (V:Ig B w) (hs:l.length<4294967281) :
  Calls Tryz.prog 15 #[sV l, .string ⟨#[c]⟩] w fun e w'=>e = .returned (.slice (some ⟨w.heap.size,0,none⟩) (As c l).length (As c l).length)∧w'=w.alloc (.cells ((As c l).map sV).toArray 9):=by
 obtain⟨m,hm⟩:=V.most
 have h:=Any.strings_Split { Xw with } Xw.i9 ⟨l.toArray⟩ ⟨#[c]⟩ m w (by simpa [ByteArray.size] using hs) hm (qC 1)
 refine h.mono ?_
 rintro e w' ⟨rfl,rfl⟩
 have h1:=Aiq c ⟨l.toArray⟩
 have h2:(ByteArray.mk l.toArray).data.toList=l:=by simp
 rw [h2] at h1
 have h3:countB ⟨l.toArray⟩ ⟨#[c]⟩+1=(As c l).length:=by
  rw [Lc,Ww,h2]
 have h4:(splitB ⟨#[c]⟩ 0 (countB ⟨l.toArray⟩ ⟨#[c]⟩) ⟨l.toArray⟩).map Value.string=(As c l).map sV:=by
  rw [←h1,List.map_map]
  rfl
 rw [h3,h4]
 exact⟨rfl,rfl⟩
theorem Aiw (l:List UInt8) (w:World):Calls Tryz.prog 50 #[sV (32::l), .string ⟨#[32]⟩] w fun e w'=>e = .returned (sV l)∧w'=w:=by
 refine(Any.strings_TrimPrefix Ahz ⟨(32::l).toArray⟩ ⟨#[32]⟩ w).mono ?_
 rintro e w' ⟨rfl,rfl⟩
 refine⟨?_,rfl⟩
 simp [Lib.trimPrefix,Lib.hasPrefix]
theorem Aie (l:List UInt8) (u:Nat) (w:World) (hl:l.length≤9223372036854775806) (h:parseUintB 32 l = .ok u) :
  Calls Tryz.prog 47 #[sV l, .int .i64 10, .int .i64 32] w fun e w'=>e = .returned (.tuple #[.int .u64 u, .nilIface])∧Below w.heap.size w w':=by
 refine(Any.strconv_ParseUint_10_at32_ok Ac9 ⟨l.toArray⟩ (by simpa [ByteArray.size] using hl) u (by simpa using h) w).mono ?_
 rintro e w' ⟨rfl,h | h⟩
 ·exact⟨rfl,by rw [h];exact qB _ _⟩
 ·exact⟨rfl,by rw [h];exact bytesWorld_below _ _ _⟩
theorem Aid {B:Nat} (l:List UInt8) (w:World) (V:Ig B w) (hl:l.length≤281474976710656) (h:∀ u,parseUintB 32 l ≠ .ok u) :
  Calls Tryz.prog 47 #[sV l, .int .i64 10, .int .i64 32] w fun e w'=>∃ n t p,e = .returned (.tuple #[.int .u64 n, .iface t (.pointer (some p))])∧Below w.heap.size w w':=by
 obtain⟨e1,a1,b1⟩:=V.synt
 obtain⟨e2,a2,b2⟩:=V.rng
 rcases hp:parseUintB 32 l with u | _ | _
 ·exact absurd hp (h u)
 ·refine(Any.strconv_ParseUint_10_at32_syntax Ac9 ⟨l.toArray⟩ (by simpa [ByteArray.size] using hl) (by simpa using hp) e1 w a1 b1).mono ?_
  rintro e w' ⟨N,rfl,_,_,hb⟩
  exact⟨_,_,_,rfl,hb⟩
 ·refine(Any.strconv_ParseUint_10_at32_range Ac9 ⟨l.toArray⟩ (by simpa [ByteArray.size] using hl) (by simpa using hp) e2 w a2 b2).mono ?_
  rintro e w' ⟨N,rfl,_,_,hb⟩
  exact⟨_,_,_,rfl,hb⟩
end Go.Proofs.YtapgojgcmlnbgaaGreatDoor
namespace Go.Proofs.YtapgojgcmlnbgaaGreatDoor
open Go Go.RowKit
def splice (cur:Array Value) (o:Nat) (vs:List Value):Array Value:=(cur.toList.take o++vs++cur.toList.drop (o+vs.length)).toArray
theorem Ht (cur:Array Value) (o:Nat) (vs:List Value) (h:o+vs.length≤cur.size):(splice cur o vs).size=cur.size:=by
 simp [splice];omega
theorem E6 (cur:Array Value) (o:Nat) (vs:List Value) (h:o+vs.length≤cur.size) (i:Nat):(splice cur o vs)[i]? = if i<o then cur[i]? else if i<o+vs.length then vs[i - o]? else cur[i]? := by
 have ht:(cur.toList.take o).length=o:=by simp;omega
 simp only [splice,List.getElem?_toArray]
 by_cases h1:i<o
 ·rw [if_pos h1,qQ (by simp;omega),qQ (by omega),List.getElem?_take,if_pos h1]
  simp
 ·rw [if_neg h1]
  by_cases h2:i<o+vs.length
  ·rw [if_pos h2,qQ (by simp;omega),qR (by omega),ht]
  ·rw [if_neg h2,qR (by simp;omega),List.getElem?_drop]
   simp only [qO,ht]
   rw [show o+vs.length+(i - (o+vs.length))=i by omega]
   simp
theorem Jn (cur:Array Value) (vs:Array Value) (h:vs.size=cur.size):splice cur 0 vs.toList=vs:=by
 apply Array.ext_getElem?
 intro i
 rw [E6 cur 0 vs.toList (by simp;omega)]
 simp
 intro hi
 rw [Array.getElem?_eq_none (by omega),Array.getElem?_eq_none (by omega)]
section
variable {P:Program} {ops:Array Oper} {rest:List Oper} {o:Oper} {a:Act} {w:World} {Q:Exit→Act→World→Prop}
theorem Ey (w:World) (g off:Nat) (t ty:TypeId) (cs:Array Value) (n:Nat) (d:TypeDesc) (hg:Blk w g t cs) (hu:P.underlying ty=some d)
  (hd:(match d with | .struct _ | .array _ _=>true | _=>false)=true) (hi:(P.info? ty).map (·.size)=some n) (hn:off+n≤cs.size) :
  (loadVar ty ⟨g,off,none⟩).run P w = .ok (.agg (cs.extract off (off+n))) w:=by
 have hsz:(cs.extract off (off+n)).size=n:=by simp;omega
 have hl:(loadCells ⟨g,off,none⟩ (cs.extract off (off+n)).toList.length).run P w = .ok (cs.extract off (off+n)).toList.toArray w:=
  run_loadCells_list (P:=P) w ⟨g,off,none⟩ (cs.extract off (off+n)).toList (fun j v hv=>by
   have hadd:(⟨g,off,none⟩:Addr).add j=⟨g,off+j,none⟩:=by unfold Addr.add;split<;>simp_all
   rw [hadd,hg.cell]
   rw [Array.getElem?_toList,Array.getElem?_extract] at hv
   split at hv
   ·exact hv
   ·cases hv)
 cases hq:P.info? ty with
 |none=>simp [hq] at hi
 |some i=>
  have hs:i.size=n:=by simpa [hq] using hi
  have hagg:(isAgg ty).run P w = .ok true w:=by
   unfold isAgg
   rw [Sem.run_bind,run_underlying hu w]
   cases d<;>simp_all
  rw [Array.length_toList,Array.toArray_toList,hsz] at hl
  simp [loadVar,Sem.run_bind,hagg,sizeOf,typeInfo,hq,hs,hl]
theorem Az {K:Act→World→Prop} (ty:TypeId) (x:Operand) (ho:o.op = .load ty x) (g off:Nat) (hx:a.eval x = .pointer (some ⟨g,off,none⟩)) (t:TypeId) (cs:Array Value) (n:Nat) (d:TypeDesc) (hg:Blk w g t cs)
  (hu:P.underlying ty=some d) (hd:(match d with | .struct _ | .array _ _=>true | _=>false)=true) (hi:(P.info? ty).map (·.size)=some n) (hn:off+n≤cs.size)
  (h:K (a.put o.dst (.agg (cs.extract off (off+n)))) w):o.wp P a w K Q:=by
 unfold Oper.wp execOp
 simp only [ho,hx,Instr.loadAt,Instr.sureAddr,Sem.run_bind,Sem.run_pure,Result.andThen_ok,Ey w g off t ty cs n d hg hu hd hi hn]
 exact h
theorem Ai (hgd:o.guard=none) (ty:TypeId) (x:Operand) (ho:o.op = .load ty x) (g off:Nat) (hx:a.eval x = .pointer (some ⟨g,off,none⟩)) (t:TypeId) (cs:Array Value) (n:Nat) (d:TypeDesc) (hg:Blk w g t cs)
  (hu:P.underlying ty=some d) (hd:(match d with | .struct _ | .array _ _=>true | _=>false)=true) (hi:(P.info? ty).map (·.size)=some n) (hn:off+n≤cs.size)
  (h:wpList P ops Q rest (a.put o.dst (.agg (cs.extract off (off+n)))) w):wpList P ops Q (o::rest) a w:=
 wpList_plain hgd fun _ hK=>Az ty x ho g off hx t cs n d hg hu hd hi hn (hK _ _ h)
theorem I2 (cs:Array Value) (n:Nat) (h:cs.size=n):cs.extract 0 (0+n)=cs:=by
 subst h
 simp
theorem E3 {K:Act→World→Prop} (ty:TypeId) (x:Operand) (ho:o.op = .load ty x) (g:Nat) (hx:a.eval x = .pointer (some ⟨g,0,none⟩)) (t:TypeId) (cs:Array Value) (d:TypeDesc) (hg:Blk w g t cs)
  (hu:P.underlying ty=some d) (hd:(match d with | .struct _ | .array _ _=>true | _=>false)=true) (hi:(P.info? ty).map (·.size)=some cs.size)
  (h:K (a.put o.dst (.agg cs)) w):o.wp P a w K Q:=
 Az ty x ho g 0 hx t cs cs.size d hg hu hd hi (by omega) (by rw [I2 cs _ rfl];exact h)
theorem Ab (hgd:o.guard=none) (ty:TypeId) (x:Operand) (ho:o.op = .load ty x) (g:Nat) (hx:a.eval x = .pointer (some ⟨g,0,none⟩)) (t:TypeId) (cs:Array Value) (d:TypeDesc) (hg:Blk w g t cs)
  (hu:P.underlying ty=some d) (hd:(match d with | .struct _ | .array _ _=>true | _=>false)=true) (hi:(P.info? ty).map (·.size)=some cs.size)
  (h:wpList P ops Q rest (a.put o.dst (.agg cs)) w):wpList P ops Q (o::rest) a w:=
 wpList_plain hgd fun _ hK=>E3 ty x ho g hx t cs d hg hu hd hi (hK _ _ h)
theorem Sb (w:World) (g off:Nat) (t ty:TypeId) (old cells:Array Value) (hg:Blk w g t old) (hi:(P.info? ty).map (·.size)=some cells.size)
  (hn:off+cells.size≤old.size) (h1:cells.all (·.oneCell')=true) :
  (storeVar ty ⟨g,off,none⟩ (.agg cells)).run P w = .ok () (w.setRow g (splice old off cells.toList)):=by
 have:=run_storeCells_at P g off t cells.toList 0 old w hg (by simp;omega) (fun v hv=>(Array.all_eq_true_iff_forall_mem.1 h1) v (by simpa using hv))
 cases hq:P.info? ty with
 |none=>simp [hq] at hi
 |some i=>
  have hs:cells.size=i.size:=by simp [hq] at hi;omega
  simpa [storeVar,sizeOf,typeInfo,hq,Value.cells,hs,splice] using this
theorem Blk.setRow {w:World} {g:Nat} {t:TypeId} {old:Array Value} (hg:Blk w g t old) (cs:Array Value):Blk (w.setRow g cs) g t cs:=setRow_heap w g old cs t (0,0) hg
theorem Ge (w:World) (g:Nat) (cs:Array Value):w.grownBy (w.setRow g cs) (some g):=
 ⟨rfl,rfl,rfl,by simp,fun i _ hne=>by
  simp only [World.setRow,Array.getElem?_modify]
  rw [if_neg (fun e=>hne (by rw [e]))]⟩
theorem Ch {K:Act→World→Prop} (ty:TypeId) (x y:Operand) (ho:o.op = .store ty x y) (g off:Nat) (cells:Array Value) (hx:a.eval x = .pointer (some ⟨g,off,none⟩)) (hy:a.eval y = .agg cells)
  (t:TypeId) (old:Array Value) (hg:Blk w g t old) (hi:(P.info? ty).map (·.size)=some cells.size) (hn:off+cells.size≤old.size) (h1:cells.all (·.oneCell')=true)
  (h:∀ w',Blk w' g t (splice old off cells.toList)→w.grownBy w' (some g)→K (a.put o.dst undef) w'):o.wp P a w K Q:=by
 unfold Oper.wp execOp
 simp only [ho,hx,hy,Instr.storeAt,Instr.sureAddr,Sem.run_bind,Sem.run_pure,Result.andThen_ok,Sb w g off t ty old cells hg hi hn h1]
 exact h _ (hg.setRow _) (Ge _ _ _)
theorem B7 (hgd:o.guard=none) (ty:TypeId) (x y:Operand) (ho:o.op = .store ty x y) (g off:Nat) (cells:Array Value) (hx:a.eval x = .pointer (some ⟨g,off,none⟩)) (hy:a.eval y = .agg cells)
  (t:TypeId) (old:Array Value) (hg:Blk w g t old) (hi:(P.info? ty).map (·.size)=some cells.size) (hn:off+cells.size≤old.size) (h1:cells.all (·.oneCell')=true)
  (h:∀ w',Blk w' g t (splice old off cells.toList)→w.grownBy w' (some g)→wpList P ops Q rest (a.put o.dst undef) w'):wpList P ops Q (o::rest) a w:=
 wpList_plain hgd fun _ hK=>Ch ty x y ho g off cells hx hy t old hg hi hn h1 fun w' h2 h3=>hK _ _ (h w' h2 h3)
theorem Ae (hgd:o.guard=none) (ty:TypeId) (x y:Operand) (ho:o.op = .store ty x y) (g:Nat) (cells:Array Value) (hx:a.eval x = .pointer (some ⟨g,0,none⟩)) (hy:a.eval y = .agg cells)
  (t:TypeId) (old:Array Value) (hg:Blk w g t old) (hi:(P.info? ty).map (·.size)=some cells.size) (hn:cells.size=old.size) (h1:cells.all (·.oneCell')=true)
  (h:∀ w',Blk w' g t cells→w.grownBy w' (some g)→wpList P ops Q rest (a.put o.dst undef) w'):wpList P ops Q (o::rest) a w:=
 B7 hgd ty x y ho g 0 cells hx hy t old hg hi (by omega) h1 fun w' h2 h3=>h w' (by rwa [Jn _ _ hn] at h2) h3
end
theorem Am {P:Program} {ops:Array Oper} {rest:List Oper} {o:Oper} {a:Act} {w:World} {Q:Exit→Act→World→Prop} (hg:o.guard=none) (t:TypeId) (parts:Array (Nat×Operand)) (ho:o.op = .build t parts) (vals:List (Nat×Value))
  (hv:(parts.map fun(i,x)=>(i,a.eval x)).toList=vals) (cs:Array Value) (hf:P.built t vals=some cs)
  (h:wpList P ops Q rest (a.put o.dst (.agg cs)) w):wpList P ops Q (o::rest) a w:=
 wpList_build hg t parts ho (by rw [hv,hf];rfl) (by rw [hv,hf];exact h)
theorem Bo {P:Program} {fn:Func} {p:Tmp} {ty:TypeId} (h:fn.results=#[.cell p ty]) (tmps:Array Value) (w:World) (g:Nat) (t:TypeId) (cs:Array Value) (d:TypeDesc)
  (hp:tmps.getD p undef = .pointer (some ⟨g,0,none⟩)) (hg:Blk w g t cs) (hu:P.underlying ty=some d) (hd:(match d with | .struct _ | .array _ _=>true | _=>false)=true) (hi:(P.info? ty).map (·.size)=some cs.size) :
  (results fn tmps).run P w = .ok (.agg cs) w:=results_cell_row h tmps w g t cs (0,0) d hp hg hu hd hi
theorem below_grown {B:Nat} {w0 w w':World} {g:Nat} (hb:Below B w0 w) (hg:w.grownBy w' (some g)) (hw:B≤w.heap.size) (hB:B≤g):Below B w0 w':=hb.grown hg hw (fun k hk=>by cases hk;exact hB)
theorem Blk.farAt {w:World} {g:Nat} {t:TypeId} {cs:Array Value} (h:Blk w g t cs) {b off:Nat} (hp:g≠b) (u:Value):Blk (w.setCell ⟨b,off,none⟩ u) g t cs:=h.far hp u
theorem Ap {B:Nat} {w0 w:World} {b off:Nat} {u:Value} (hB:B≤b) (hb:Below B w0 w):Below B w0 (w.setCell ⟨b,off,none⟩ u):=hb.setCell hB u
theorem Blk.newAt (w:World) (t:TypeId) (cs:Array Value) {g:Nat} (hg:g=w.heap.size):Blk (w.alloc (.cells cs t)) g t cs:=by subst hg;exact Blk.new w t cs
end Go.Proofs.YtapgojgcmlnbgaaGreatDoor
namespace Go.Proofs.YtapgojgcmlnbgaaGreatDoor
open Go Go.Lib Go.RowKit
theorem F9 (a b:List UInt8):Value.string (⟨a.toArray⟩++⟨b.toArray⟩)=sV (a++b):=congrArg Value.string (ByteArray.ext (by rw [ByteArray.data_append];simp))
theorem Eo (u:Nat) (h:u<9223372036854775808):nDigits u≤20:=by
 rcases Nat.eq_zero_or_pos u with rfl | h1
 ·rw [nDigits_small (by omega)];omega
 ·have:=numDigits_eq u h1 (by omega);split at this<;>omega
theorem Acr (w:World) (m:Nat) (hm:m<10):(convert 31 9 (.slice (some ⟨w.heap.size,0,none⟩) 1 1)).run Tryz.prog (w.alloc (.cells #[.int .u8 (48+(m:Int))] 5)) = .ok (sV [UInt8.ofNat (48+m)]) (w.alloc (.cells #[.int .u8 (48+(m:Int))] 5)):=by
 have h:=run_convert_bytes_back (P:=Tryz.prog) (w.alloc (.cells #[.int .u8 (48+(m:Int))] 5)) 31 9 5 ⟨w.heap.size,0,none⟩ 1 [UInt8.ofNat (48+m)] Tryz.underlying31 Tryz.underlying5 Tryz.underlying9 (fun j hj=>by
  have e:j=0:=by simpa using hj
  subst e
  rw [add_plain,World.cell?_alloc_new]
  have e2:(UInt8.ofNat (48+m)).toNat=48+m:=by rw [UInt8.toNat_ofNat'];omega
  simp [e2]
  omega)
 exact h
theorem Ug:∀ (k n:Nat),n<k→n<9223372036854775808→∀ (w:World),Calls Tryz.prog 17 #[.int .i64 n] w fun e w'=>e = .returned (sV (decDigits n))∧Below w.heap.size w w':=by
 intro k
 induction k with
 |zero=>intro n h;omega
 |succ k ih=>
  intro n hk hn w
  have hcv:=Acr w (n%10) (by omega)
  rw [show((n%10:Nat):Int)=(n:Int)%10 by omega] at hcv
  obtain⟨T,hT⟩:∃ T,T=[UInt8.ofNat (48+n%10)]:=⟨_,rfl⟩
  rw [←hT] at hcv
  have HT:=qA hT
  clear hT
  have hb:Below w.heap.size w (w.alloc (.cells #[.int .u8 (48+(n:Int)%10)] 5)):=(qB _ _).alloc (qC _) _
  by_cases h10:n<10
  ·have f1:decide ((n:Int)<10)=true:=qF (by omega)
   have HB:=qA hb
   clear hb ih
   go_enter Tryz.func17,Tryz.ntmps17
   go_wp2_with(fail)
   go_ret
   exact⟨by show Ending.returned (sV T)=_;rw [decDigits,dif_pos h10,HT.out,show n%10=n by omega],HB.out⟩
  ·have f1:decide ((n:Int)<10)=false:=qG (by omega)
   have hcat:=F9
   have hlen:(decDigits (n / 10)).length+T.length≤9223372036854775807:=by rw [HT.out,decDigits_length];have:=Eo (n / 10) (by omega);simp;omega
   have CD:=qA (fun W=>ih (n / 10) (by omega) (by omega) W)
   rw [show((n / 10:Nat):Int)=(n:Int) / 10 by omega] at CD
   have HB:=qA hb
   clear hb ih
   go_enter Tryz.func17,Tryz.ntmps17
   go_wp2_with(go_at_call 17;(with_reducible refine(CD.out _).mono ?_);rintro e w2 ⟨rfl,hb2⟩)
   go_ret
   exact⟨by show Ending.returned (sV (decDigits (n / 10)++T))=_;rw [decDigits.eq_1 n,dif_neg h10,HT.out],HB.out.trans (hb2.mono HB.out.size)⟩
end Go.Proofs.YtapgojgcmlnbgaaGreatDoor
namespace Go.Proofs.YtapgojgcmlnbgaaGreatDoor
open Go Go.Lib Go.RowKit Go.Shelf Go.Sort
theorem Ahu {B:Nat} (u:Nat) (hu64:u<18446744073709551616) (w:World) (V:Ig B w) (hB:B≤w.heap.size) :
  Calls Tryz.prog 84 #[.int .u64 u, .int .i64 10] w fun e w'=>e = .returned (sV (decDigits u))∧Below w.heap.size w w':=by
 by_cases hi:u<100
 ·have f1:decide ((u:Int)<100)=true:=qF (by omega)
  go_enter Tryz.func84,Tryz.ntmps84
  go_wp2_with(go_at_call 123;refine(Any.internal_strconv_small { Y4 with } u hi _).mono ?_;rintro e w' ⟨rfl,rfl⟩)
  go_ret
  exact⟨rfl,qB _ _⟩
 ·have f1:decide ((u:Int)<100)=false:=qG (by omega)
  have hu1:1≤u:=by omega
  have hnd20:nDigits u≤20:=by have:=numDigits_eq u hu1 hu64;split at this<;>omega
  have htab:=V.tab _ ((qB B w).alloc hB (.cells zeros24 193))
  have hal:Tryz.prog.arrayLen 193=24:=by simp [Program.arrayLen,Tryz.underlying193]
  have hsl:∀ W,(Instr.sliceAt 193 (.pointer (some ⟨w.heap.size,0,none⟩)) none (some (.int .i64 (nDigits u:Int))) none).run Tryz.prog W = .ok (.slice (some ⟨w.heap.size,0,none⟩) (nDigits u) 24) W:=fun W=>by
   rw [run_sliceAt_array_h W 193 ⟨w.heap.size,0,none⟩ (by simp [Program.arrayLen,Program.elem,Tryz.underlying193]) .i64 (nDigits u:Int) (by omega) (by rw [hal];omega)]
   go_simp
  have hH0:Holds (fun(b:UInt8)=>Value.int .u8 (b.toNat:Int)) (w.alloc (.cells zeros24 193)) w.heap.size 0 (Array.replicate (nDigits u) 0):=fun j hj=>by
   have hj':j<nDigits u:=by simpa using hj
   refine⟨?_,World.frozen?_alloc_new _ _ _ _⟩
   rw [World.cell?_alloc_new,zeros24_at _ (by omega),getElem!_pos _ j hj]
   simp
  have hfmt:=Any.internal_strconv_formatBase10 { Y4 with } w.heap.size 0 24 u (Array.replicate (nDigits u) 0) (w.alloc (.cells zeros24 193)) hH0 (by rw [Array.size_replicate];exact lt_pow_nDigits u) hu64 (by rw [Array.size_replicate];omega)
  rw [Array.size_replicate] at hfmt
  have HH0:=qA hH0
  clear hH0 hal
  go_enter Tryz.func84,Tryz.ntmps84
  go_wp2_with(first
   |(go_at_call 124;refine(Any.internal_strconv_numDigits { Y4 with } u hu1 hu64 _ htab).mono ?_;rintro e w' ⟨rfl,rfl⟩))
  go_at_call 125
  refine hfmt.mono ?_
  rintro e w' ⟨rfl,k,v',dk,rfl,hF⟩
  have hcv:(convert 31 9 (.slice (some ⟨w.heap.size,0,none⟩) (nDigits u) 24)).run Tryz.prog ((putRow (fun(b:UInt8)=>Value.int .u8 (b.toNat:Int)) (w.alloc (.cells zeros24 193)) w.heap.size 0 dk).drewN k) = .ok (.string ⟨(decDigits u).toArray⟩) ((putRow (fun(b:UInt8)=>Value.int .u8 (b.toNat:Int)) (w.alloc (.cells zeros24 193)) w.heap.size 0 dk).drewN k):=by
   have h:=run_convert_bytes_back (P:=Tryz.prog) ((putRow (fun(b:UInt8)=>Value.int .u8 (b.toNat:Int)) (w.alloc (.cells zeros24 193)) w.heap.size 0 dk).drewN k) 31 9 5 ⟨w.heap.size,0,none⟩ 24 (decDigits u) Tryz.underlying31 Tryz.underlying5 Tryz.underlying9 (fun j hj=>by
    rw [row_is_numeral hF j hj,add_plain,World.cell?_drewN]
    exact cell?_putRow (fun(b:UInt8)=>Value.int .u8 (b.toNat:Int)) _ w.heap.size 0 _ dk HH0.out (by rw [hF.size,Array.size_replicate]) j (by rw [hF.size];rw [decDigits_length] at hj;exact hj))
   rw [decDigits_length] at h
   exact h
  go_wp2
  go_ret
  refine⟨rfl,?_⟩
  obtain⟨os,eo⟩:=fin_at w (.cells zeros24 193) dk k 0
  rw [eo]
  exact below_grow _ w (qC _) k os
theorem Yz {B:Nat} (u:Nat) (hu64:u<18446744073709551616) (w:World) (V:Ig B w) (hB:B≤w.heap.size) :
  Calls Tryz.prog 48 #[.int .u64 u, .int .i64 10] w fun e w'=>e = .returned (sV (decDigits u))∧Below w.heap.size w w':=by
 go_enter Tryz.func48,Tryz.ntmps48
 go_wp2_with(go_at_call 84;refine(Ahu u hu64 _ V hB).mono ?_;rintro e w' ⟨rfl,hb⟩)
 go_ret
 exact⟨rfl,hb⟩
end Go.Proofs.YtapgojgcmlnbgaaGreatDoor
