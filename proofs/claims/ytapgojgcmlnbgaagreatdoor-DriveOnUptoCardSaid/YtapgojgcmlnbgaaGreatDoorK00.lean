/- Parts of a proof. -/
import Derived.Lib.ItoaNum
import Derived.Lib.Atoi
import Derived.Lib.ParseIntB
import Derived.Lib.SplitLaws
import Derived.WalkKit
import Derived.Test.YtapgojgcmlnbgaaGreatDoorProg
import Derived.Shelf.Strings.SplitShaped
import Derived.Shelf.Strings.Prefix
import Derived.Shelf.Strconv.Itoa3
import Derived.Shelf.Pu.ErrVarParseUint
import Derived.Lib.AppendIntMem
import Derived.Lib.AtoiErrMem
import Derived.Laws.Rows
import Derived.Laws.Tables
import Derived.Laws.CopyRow
import Derived.Laws.IdiomStrings
import Derived.Lib.ItoaMem
import Derived.Lib.Hide
import Derived.Lib.Walk
import Derived.BigCall
import Derived.BigGuard
set_option linter.unusedSimpArgs false
set_option linter.unusedVariables false
set_option maxRecDepth 100000
set_option maxHeartbeats 16000000
namespace Go.Proofs.YtapgojgcmlnbgaaGreatDoor
open Go Go.Lib
def Au (c:UInt8):List UInt8→List (List UInt8)
 |[]=>[[]]
 |b::s=>if b=c then []::Au c s else match Au c s with
  |p::r=>(b::p)::r
  |[]=>[[b]]
theorem Jp (c:UInt8):∀ s,Au c s≠[]
 |[]=>by unfold Au;simp
 |b::s=>by
  unfold Au
  split
  ·simp
  ·split<;>simp
theorem Is (c:UInt8) (s:List UInt8):Au c (c::s)=[]::Au c s:=by rw [Au,if_pos rfl]
theorem Jb {c b:UInt8} (h:b≠c) {s p:List UInt8} {r:List (List UInt8)} (hs:Au c s=p::r):Au c (b::s)=(b::p)::r:=by
 rw [Au,if_neg h,hs]
theorem K0 (c:UInt8):∀ s,(Au c s).length=s.count c+1
 |[]=>by simp [Au]
 |b::s=>by
  have ih:=K0 c s
  by_cases h:b=c
  ·subst h
   rw [Is,List.length_cons,ih,List.count_cons_self]
  ·obtain⟨p,r,hs⟩:∃ p r,Au c s=p::r:=by
    cases e:Au c s with
    |nil=>exact absurd e (Jp c s)
    |cons p r=>exact⟨p,r,rfl⟩
   rw [Jb h hs,List.count_cons_of_ne (by exact h)]
   rw [hs] at ih
   simpa using ih
theorem B0 (c:UInt8):∀ (s:List UInt8),∀ p∈Au c s,p.length≤s.length
 |[],p,hp=>by simp [Au] at hp;subst hp;simp
 |b::s,p,hp=>by
  by_cases h:b=c
  ·subst h
   rw [Is] at hp
   rcases List.mem_cons.1 hp with rfl | hp
   ·simp
   ·have:=B0 b s p hp;simp;omega
  ·obtain⟨q,r,hs⟩:∃ p r,Au c s=p::r:=by
    cases e:Au c s with
    |nil=>exact absurd e (Jp c s)
    |cons p r=>exact⟨p,r,rfl⟩
   rw [Jb h hs] at hp
   rcases List.mem_cons.1 hp with rfl | hp
   ·have:=B0 c s q (by rw [hs];exact List.mem_cons_self);simp;omega
   ·have:=B0 c s p (by rw [hs];exact List.mem_cons_of_mem _ hp);simp;omega
theorem Kz {c:UInt8}:∀ {p:List UInt8} (_:∀ b∈p,b≠c) {s q:List UInt8} {r:List (List UInt8)} (_:Au c s=q::r),Au c (p++s)=(p++q)::r
 |[],_,_,_,_,hs=>hs
 |b::_,hp,_,_,_,hs=>Jb (hp b List.mem_cons_self) (Kz (fun x hx=>hp x (List.mem_cons_of_mem _ hx)) hs)
theorem Aal {c:UInt8} {p:List UInt8} (hp:∀ b∈p,b≠c):Au c p=[p]:=by
 have:=Kz hp (s:=[]) (q:=[]) (r:=[]) rfl
 simpa using this
theorem Aam {c:UInt8} {p:List UInt8} (hp:∀ b∈p,b≠c) (s:List UInt8):Au c (p++c::s)=p::Au c s:=by
 have:=Kz hp (Is c s)
 simpa using this
theorem Ky (c:UInt8):∀ (a b:List UInt8),Au c (a++c::b)=Au c a++Au c b
 |[],b=>by rw [List.nil_append,Is];rfl
 |x::a,b=>by
  have ih:=Ky c a b
  by_cases h:x=c
  ·subst h
   rw [List.cons_append,Is,Is,ih]
   rfl
  ·obtain⟨p,r,hs⟩:∃ p r,Au c a=p::r:=by
    cases e:Au c a with
    |nil=>exact absurd e (Jp c a)
    |cons p r=>exact⟨p,r,rfl⟩
   rw [hs] at ih
   rw [List.cons_append,Jb h ih,Jb h hs]
   rfl
theorem occ_one (s:List UInt8) (c:UInt8) (j:Nat):occAt s [c] j=true↔s[j]? = some c:=by
 unfold occAt
 rw [show s[j]? = (s.drop j)[0]? by simp]
 cases hd:s.drop j with
 |nil=>simp
 |cons x r=>simp;exact eq_comm
theorem Ww (c:UInt8):∀ (k:Nat) (s:List UInt8),s.count c=k→splitK [c] 0 k s=Au c s
 |0,s,h=>by
  unfold splitK
  rw [Aal]
  intro b hb e
  subst e
  have:=List.count_pos_iff.2 hb
  omega
 |k+1,s,h=>by
  unfold splitK
  rcases index_spec s [c] with⟨h1,h2⟩ | ⟨i,h1,h2,h3,h4⟩
  ·exfalso
   have hc:c∈s:=List.count_pos_iff.1 (by omega)
   obtain⟨j,hj,hjc⟩:=List.getElem_of_mem hc
   have h5:=h2 j (by omega)
   have h6:=(occ_one s c j).2 (by rw [List.getElem?_eq_getElem hj,hjc])
   rw [h6] at h5
   cases h5
  ·rw [h1]
   have hne:¬ (((i:Nat):Int) == -1)=true:=fun e=>by have:=beq_iff_eq.1 e;omega
   rw [if_neg hne]
   have hi:=(occ_one s c i).1 h3
   obtain⟨hil,hic⟩:=List.getElem?_eq_some_iff.1 hi
   have hs:s=s.take i++c::s.drop (i+1):=by
    have:=(List.take_append_drop i s).symm
    rw [List.drop_eq_getElem_cons hil,hic] at this
    exact this
   have hp:∀ b∈s.take i,b≠c:=by
    intro b hb e
    subst e
    obtain⟨j,hj,hjb⟩:=List.getElem_of_mem hb
    have hji:j<i:=by rw [List.length_take] at hj;omega
    have h5:=h4 j hji
    rw [List.getElem_take] at hjb
    have h6:=(occ_one s b j).2 (by rw [List.getElem?_eq_getElem (by omega),hjb])
    rw [h6] at h5
    cases h5
   have hcount:(s.drop (i+1)).count c=k:=by
    have h7:s.count c=(s.take i).count c+((s.drop (i+1)).count c+1):=by
     conv=>lhs;rw [hs]
     rw [List.count_append,List.count_cons_self]
    have h8:(s.take i).count c=0:=List.count_eq_zero.2 (fun hm=>hp c hm rfl)
    omega
   have ih:=Ww c k (s.drop (i+1)) hcount
   conv=>rhs;rw [hs]
   rw [Aam hp,←ih]
   simp
theorem Aht (c:UInt8) (s:ByteArray):(splitB ⟨#[c]⟩ 0 (countB s ⟨#[c]⟩) s).map (·.data.toList)=Au c s.data.toList:=by
 rw [splitB_data]
 have:countB s ⟨#[c]⟩=s.data.toList.count c:=count_one c s.data.toList
 rw [this]
 exact Ww c _ _ rfl
theorem Vn (c:UInt8) (s:ByteArray):countB s ⟨#[c]⟩=s.data.toList.count c:=count_one c s.data.toList
def Of (w:List UInt8):Option Nat:=
 match decNat w with
 |some u=>if u<4294967296∧decDigits u=w then some u else none
 |none=>none
theorem Rs {d:Nat} (h:d<10):digitVal (UInt8.ofNat (48+d))=some d:=by
 have e:(UInt8.ofNat (48+d)).toNat=48+d:=by
  rw [UInt8.toNat_ofNat']
  omega
 unfold digitVal
 rw [e,if_pos ⟨by omega,by omega⟩]
 congr 1
 omega
theorem Tb (acc:Nat):∀ (l r:List UInt8),decFrom acc (l++r)=(decFrom acc l).bind fun a=>decFrom a r:=by
 intro l
 induction l generalizing acc with
 |nil=>intro r;rfl
 |cons b l ih=>
  intro r
  rw [List.cons_append]
  simp only [decFrom]
  cases digitVal b with
  |none=>rfl
  |some d=>exact ih (acc*10+d) r
theorem Rr (acc:Nat) (b:UInt8):decFrom acc [b]=(digitVal b).map fun d=>acc*10+d:=by
 simp only [decFrom]
 cases digitVal b<;>rfl
theorem Tc (u:Nat):decFrom 0 (decDigits u)=some u:=by
 induction u using Nat.strongRecOn with
 |_ u ih=>
  by_cases h:u<10
  ·rw [decDigits_one h,Rr,Rs h]
   simp
  ·rw [decDigits,dif_neg h,Tb,ih (u / 10) (by omega)]
   simp only [Option.bind_some]
   rw [Rr,Rs (Nat.mod_lt _ (by omega))]
   simp
   omega
theorem Xe (u:Nat):decDigits u≠[]:=by
 intro h
 have:=decDigits_length u
 rw [h] at this
 have h1:=nDigits_pos u
 simp at this
 omega
theorem Om (u:Nat):decNat (decDigits u)=some u:=by
 unfold decNat
 rw [if_neg (by simp [Xe u])]
 exact Tc u
theorem Zz {u:Nat} (h:u<4294967296):Of (decDigits u)=some u:=by
 unfold Of
 rw [Om]
 simp [h]
theorem Z0 {w:List UInt8} {u:Nat}:Of w=some u↔u<4294967296∧decDigits u=w:=by
 constructor
 ·intro h
  unfold Of at h
  split at h
  ·split at h
   ·rename_i hh
    injection h with h
    subst h
    exact hh
   ·cases h
  ·cases h
 ·rintro⟨h,rfl⟩
  exact Zz h
theorem Ue:∀ (l:List UInt8) (acc u:Nat),acc≤4294967295→(parseUintM 4294967295 acc l = .ok u↔decFrom acc l=some u∧u≤4294967295)
 |[],acc,u,ha=>by
  simp only [parseUintM,decFrom]
  constructor
  ·intro h;injection h with h;subst h;exact⟨rfl,ha⟩
  ·rintro⟨h,_⟩;injection h with h;subst h;rfl
 |c::r,acc,u,ha=>by
  simp only [parseUintM,decFrom]
  by_cases hc:48≤c.toNat∧c.toNat≤57
  ·have hv:digitVal c=some (c.toNat - 48):=by unfold digitVal;rw [if_pos hc]
   rw [if_pos hc,if_neg (by omega),hv]
   by_cases hM:4294967295<acc*10+(c.toNat - 48)
   ·rw [if_pos hM]
    constructor
    ·intro h;cases h
    ·rintro⟨h,hu⟩
     exfalso
     have:=decFrom_ge r _ _ h
     omega
   ·rw [if_neg hM]
    exact Ue r _ u (by omega)
  ·have hv:digitVal c=none:=by unfold digitVal;rw [if_neg hc]
   rw [if_neg hc,hv]
   constructor
   ·intro h;cases h
   ·rintro⟨h,_⟩;cases h
where
 decFrom_ge:∀ (l:List UInt8) (acc u:Nat),decFrom acc l=some u→acc≤u
  |[],acc,u,h=>by simp only [decFrom] at h;injection h with h;omega
  |c::r,acc,u,h=>by
   simp only [decFrom] at h
   cases hv:digitVal c with
   |none=>rw [hv] at h;cases h
   |some d=>
    rw [hv] at h
    have:=decFrom_ge r _ _ h
    omega
theorem Q9 (w:List UInt8) (u:Nat):parseUintB 32 w = .ok u↔decNat w=some u∧u<4294967296:=by
 unfold parseUintB decNat
 by_cases h:w=[]
 ·subst h
  simp
 ·rw [if_neg h,if_neg (by simp [h]),show(2:Nat) ^ 32 - 1=4294967295 from rfl,Ue w 0 u (by omega)]
  constructor
  ·rintro⟨h1,h2⟩;exact⟨h1,by omega⟩
  ·rintro⟨h1,h2⟩;exact⟨h1,by omega⟩
theorem Vk {w:List UInt8} {u:Nat} (h:parseUintB 32 w = .ok u):Of w=if decDigits u=w then some u else none:=by
 obtain⟨h1,h2⟩:=(Q9 w u).1 h
 unfold Of
 rw [h1]
 simp [h2]
theorem Ab7 {w:List UInt8} (h:∀ u,parseUintB 32 w ≠ .ok u):Of w=none:=by
 cases hn:Of w with
 |none=>rfl
 |some u=>
  obtain⟨h1,rfl⟩:=Z0.1 hn
  exact absurd ((Q9 _ u).2 ⟨Om u,h1⟩) (h u)
end Go.Proofs.YtapgojgcmlnbgaaGreatDoor
namespace Go.Proofs.YtapgojgcmlnbgaaGreatDoor
open Go
structure Ins where
 op:Int
 rd:Int
 rs1:Int
 rs2:Int
 imm:Int
 deriving DecidableEq
instance:Inhabited Ins:=⟨⟨0,0,0,0,0⟩⟩
def Av (w:Int) (f t:Nat):Int:=w / 2 ^ f%2 ^ (t+1 - f)
def Iq (n:Int) (b:Nat):Int:=if n<2 ^ (b - 1) then n else n - 2 ^ b
structure Kind where
 form:Int
 low:Int
 middle:Int
 upper:Int
 deriving DecidableEq
def Kj (op:Int):Option Kind:=
 if op=1 then some ⟨0,55,0,0⟩
 else if op=2 then some ⟨0,23,0,0⟩
 else if op=3 then some ⟨1,111,0,0⟩
 else if op=4 then some ⟨2,103,0,0⟩
 else if op=5 then some ⟨4,99,0,0⟩
 else if op=6 then some ⟨4,99,1,0⟩
 else if op=7 then some ⟨4,99,4,0⟩
 else if op=8 then some ⟨4,99,5,0⟩
 else if op=9 then some ⟨4,99,6,0⟩
 else if op=10 then some ⟨4,99,7,0⟩
 else if op=11 then some ⟨2,3,0,0⟩
 else if op=12 then some ⟨2,3,1,0⟩
 else if op=13 then some ⟨2,3,2,0⟩
 else if op=14 then some ⟨2,3,4,0⟩
 else if op=15 then some ⟨2,3,5,0⟩
 else if op=16 then some ⟨5,35,0,0⟩
 else if op=17 then some ⟨5,35,1,0⟩
 else if op=18 then some ⟨5,35,2,0⟩
 else if op=19 then some ⟨2,19,0,0⟩
 else if op=20 then some ⟨2,19,2,0⟩
 else if op=21 then some ⟨2,19,3,0⟩
 else if op=22 then some ⟨2,19,4,0⟩
 else if op=23 then some ⟨2,19,6,0⟩
 else if op=24 then some ⟨2,19,7,0⟩
 else if op=25 then some ⟨3,19,1,0⟩
 else if op=26 then some ⟨3,19,5,0⟩
 else if op=27 then some ⟨3,19,5,32⟩
 else if op=28 then some ⟨6,51,0,0⟩
 else if op=29 then some ⟨6,51,0,32⟩
 else if op=30 then some ⟨6,51,1,0⟩
 else if op=31 then some ⟨6,51,2,0⟩
 else if op=32 then some ⟨6,51,3,0⟩
 else if op=33 then some ⟨6,51,4,0⟩
 else if op=34 then some ⟨6,51,5,0⟩
 else if op=35 then some ⟨6,51,5,32⟩
 else if op=36 then some ⟨6,51,6,0⟩
 else if op=37 then some ⟨6,51,7,0⟩
 else if op=38 then some ⟨6,51,0,1⟩
 else if op=39 then some ⟨6,51,1,1⟩
 else if op=40 then some ⟨6,51,2,1⟩
 else if op=41 then some ⟨6,51,3,1⟩
 else if op=42 then some ⟨6,51,4,1⟩
 else if op=43 then some ⟨6,51,5,1⟩
 else if op=44 then some ⟨6,51,6,1⟩
 else if op=45 then some ⟨6,51,7,1⟩
 else if op=46 then some ⟨2,15,0,0⟩
 else if op=47 then some ⟨7,115,0,0⟩
 else if op=48 then some ⟨7,115,0,1⟩
 else none
def Ic (k:Kind) (w:Int):Bool:=
 if Av w 0 6=k.low then
  if k.form=0∨k.form=1 then true
  else if k.form=7 then decide (w=k.low+k.upper*1048576)
  else if k.form=3∨k.form=6 then decide (Av w 12 14=k.middle∧Av w 25 31=k.upper)
  else decide (Av w 12 14=k.middle)
 else false
def Fg (op form w:Int):Ins:=
 let rd:=Av w 7 11
 let rs1:=Av w 15 19
 let rs2:=Av w 20 24
 if form=0 then ⟨op,rd,0,0,Iq (w - Av w 0 11) 32⟩
 else if form=1 then ⟨op,rd,0,0,Iq (Av w 31 31*1048576+Av w 12 19*4096+Av w 20 20*2048+Av w 21 30*2) 21⟩
 else if form=2 then ⟨op,rd,rs1,0,Iq (Av w 20 31) 12⟩
 else if form=3 then ⟨op,rd,rs1,0,Av w 20 24⟩
 else if form=4 then ⟨op,0,rs1,rs2,Iq (Av w 31 31*4096+Av w 7 7*2048+Av w 25 30*32+Av w 8 11*2) 13⟩
 else if form=5 then ⟨op,0,rs1,rs2,Iq (Av w 25 31*32+Av w 7 11) 12⟩
 else if form=7 then ⟨op,0,0,0,0⟩
 else ⟨op,rd,rs1,rs2,0⟩
def Ki (w:Int):Nat→Int→Option Ins
 |0,_=>none
 |n+1,op=>
  match Kj op with
  |some k=>if Ic k w=true then some (Fg op k.form w) else Ki w n (op+1)
  |none=>Ki w n (op+1)
def Oe (w:Int):Option Ins:=Ki w 48 1
def Acp (k:Kind) (low mid up w:Int):Bool:=
 if low=k.low then
  if k.form=0∨k.form=1 then true
  else if k.form=7 then decide (w=k.low+k.upper*1048576)
  else if k.form=3∨k.form=6 then decide (mid=k.middle∧up=k.upper)
  else decide (mid=k.middle)
 else false
theorem Afx (k:Kind) (w:Int):Ic k w=Acp k (Av w 0 6) (Av w 12 14) (Av w 25 31) w:=rfl
def V7 (low mid up w:Int):List (Int×Kind)→Int×Int
 |[]=>(-1,7)
 |(op,k)::l=>if Acp k low mid up w=true then (op,k.form) else V7 low mid up w l
def kinds:Nat→Int→List (Int×Kind)
 |0,_=>[]
 |n+1,op=>match Kj op with
  |some k=>(op,k)::kinds n (op+1)
  |none=>kinds n (op+1)
theorem Tm (w:Int):∀ (n:Nat) (op:Int),1≤op→Ki w n op=let p:=V7 (Av w 0 6) (Av w 12 14) (Av w 25 31) w (kinds n op);if p.1<0 then none else some (Fg p.1 p.2 w)
 |0,_,_=>rfl
 |n+1,op,h=>by
  unfold Ki kinds
  cases hk:Kj op with
  |none=>simpa using Tm w n (op+1) (by omega)
  |some k=>
   simp only [hk]
   unfold V7
   rw [Afx]
   by_cases ht:Acp k (Av w 0 6) (Av w 12 14) (Av w 25 31) w=true
   ·rw [if_pos ht,if_pos ht]
    simp only
    rw [if_neg (by omega)]
   ·rw [if_neg ht,if_neg ht]
    exact Tm w n (op+1) (by omega)
def Xn:List (Int×Kind):=[(1,⟨0,55,0,0⟩),(2,⟨0,23,0,0⟩),(3,⟨1,111,0,0⟩),(4,⟨2,103,0,0⟩),
 (5,⟨4,99,0,0⟩),(6,⟨4,99,1,0⟩),(7,⟨4,99,4,0⟩),(8,⟨4,99,5,0⟩),(9,⟨4,99,6,0⟩),(10,⟨4,99,7,0⟩),
 (11,⟨2,3,0,0⟩),(12,⟨2,3,1,0⟩),(13,⟨2,3,2,0⟩),(14,⟨2,3,4,0⟩),(15,⟨2,3,5,0⟩),(16,⟨5,35,0,0⟩),(17,⟨5,35,1,0⟩),(18,⟨5,35,2,0⟩),
 (19,⟨2,19,0,0⟩),(20,⟨2,19,2,0⟩),(21,⟨2,19,3,0⟩),(22,⟨2,19,4,0⟩),(23,⟨2,19,6,0⟩),(24,⟨2,19,7,0⟩),(25,⟨3,19,1,0⟩),(26,⟨3,19,5,0⟩),(27,⟨3,19,5,32⟩),
 (28,⟨6,51,0,0⟩),(29,⟨6,51,0,32⟩),(30,⟨6,51,1,0⟩),(31,⟨6,51,2,0⟩),(32,⟨6,51,3,0⟩),(33,⟨6,51,4,0⟩),(34,⟨6,51,5,0⟩),(35,⟨6,51,5,32⟩),(36,⟨6,51,6,0⟩),(37,⟨6,51,7,0⟩),
 (38,⟨6,51,0,1⟩),(39,⟨6,51,1,1⟩),(40,⟨6,51,2,1⟩),(41,⟨6,51,3,1⟩),(42,⟨6,51,4,1⟩),(43,⟨6,51,5,1⟩),(44,⟨6,51,6,1⟩),(45,⟨6,51,7,1⟩),
 (46,⟨2,15,0,0⟩),(47,⟨7,115,0,0⟩),(48,⟨7,115,0,1⟩)]
theorem Agx:kinds 48 1=Xn:=by decide +kernel
theorem Ajp (w:Int) (f t:Nat):0≤Av w f t∧Av w f t<2 ^ (t+1 - f):=by
 unfold Av
 have h:(0:Int)<2 ^ (t+1 - f):=Int.pow_pos (by omega)
 exact⟨Int.emod_nonneg _ (by omega),Int.emod_lt_of_pos _ h⟩
def IsP (i:Ins):Bool:=
 if 1≤i.op∧i.op≤48∧0≤i.rd∧i.rd≤31∧0≤i.rs1∧i.rs1≤31∧0≤i.rs2∧i.rs2≤31 then
  if i.op≤2 then decide (i.rs1=0∧i.rs2=0∧i.imm%4096=0)
  else if i.op=3 then decide (i.rs1=0∧i.rs2=0∧(-1048576≤i.imm∧i.imm≤1048574)∧i.imm%2=0)
  else if i.op=4∨(11≤i.op∧i.op≤15)∨(19≤i.op∧i.op≤24)∨i.op=46 then decide (i.rs2=0∧(-2048≤i.imm∧i.imm≤2047))
  else if 5≤i.op∧i.op≤10 then decide (i.rd=0∧(-4096≤i.imm∧i.imm≤4094)∧i.imm%2=0)
  else if 16≤i.op∧i.op≤18 then decide (i.rd=0∧(-2048≤i.imm∧i.imm≤2047))
  else if 25≤i.op∧i.op≤27 then decide (i.rs2=0∧(0≤i.imm∧i.imm≤31))
  else if 28≤i.op∧i.op≤45 then decide (i.imm=0)
  else decide (i.rd=0∧i.rs1=0∧i.rs2=0∧i.imm=0)
 else false
def Lv (op:Int):Int:=
 if op≤2 then 0 else if op=3 then 1
 else if op=4∨(11≤op∧op≤15)∨(19≤op∧op≤24)∨op=46 then 2
 else if 5≤op∧op≤10 then 4 else if 16≤op∧op≤18 then 5 else if 25≤op∧op≤27 then 3 else if 28≤op∧op≤45 then 6 else 7
def Ai1 (p:Int×Int):Bool:=decide (p.1<0) || (decide (1≤p.1∧p.1≤48)&&decide (p.2=Lv p.1))
theorem find_ok (low mid up w:Int):∀ l:List (Int×Kind),(∀ q∈l,Ai1 (q.1,q.2.form)=true)→Ai1 (V7 low mid up w l)=true
 |[],_=>rfl
 |(op,k)::l,h=>by
  unfold V7
  split
  ·exact h (op,k) (by simp)
  ·exact find_ok low mid up w l fun q hq=>h q (by simp [hq])
theorem Ae7:∀ q∈Xn,Ai1 (q.1,q.2.form)=true:=by decide +kernel
theorem Ajy (op w:Int):Fg op 0 w=⟨op,Av w 7 11,0,0,Iq (w - Av w 0 11) 32⟩:=rfl
theorem Ajz (op w:Int):Fg op 1 w=⟨op,Av w 7 11,0,0,Iq (Av w 31 31*1048576+Av w 12 19*4096+Av w 20 20*2048+Av w 21 30*2) 21⟩:=rfl
theorem Aj0 (op w:Int):Fg op 2 w=⟨op,Av w 7 11,Av w 15 19,0,Iq (Av w 20 31) 12⟩:=rfl
theorem Aj1 (op w:Int):Fg op 3 w=⟨op,Av w 7 11,Av w 15 19,0,Av w 20 24⟩:=rfl
theorem Aj2 (op w:Int):Fg op 4 w=⟨op,0,Av w 15 19,Av w 20 24,Iq (Av w 31 31*4096+Av w 7 7*2048+Av w 25 30*32+Av w 8 11*2) 13⟩:=rfl
theorem Aj3 (op w:Int):Fg op 5 w=⟨op,0,Av w 15 19,Av w 20 24,Iq (Av w 25 31*32+Av w 7 11) 12⟩:=rfl
theorem Aj4 (op w:Int):Fg op 6 w=⟨op,Av w 7 11,Av w 15 19,Av w 20 24,0⟩:=rfl
theorem Aj5 (op w:Int):Fg op 7 w=⟨op,0,0,0,0⟩:=rfl
theorem Ch (w:Int) (f t:Nat) (n:Int) (h:(2:Int) ^ (t+1 - f)=n):0≤Av w f t∧Av w f t<n:=by
 rw [←h]
 exact Ajp w f t
theorem Abi {w:Int} {i:Ins} (h:Oe w=some i):IsP i=true:=by
 unfold Oe at h
 rw [Tm w 48 1 (by omega),Agx] at h
 have hk:=find_ok (Av w 0 6) (Av w 12 14) (Av w 25 31) w Xn Ae7
 generalize V7 (Av w 0 6) (Av w 12 14) (Av w 25 31) w Xn=p at h hk
 obtain⟨op,form⟩:=p
 simp only at h
 by_cases hop:op<0
 ·rw [if_pos hop] at h
  cases h
 rw [if_neg hop] at h
 have hfo:(1≤op∧op≤48)∧form=Lv op:=by
  unfold Ai1 at hk
  simp only [Bool.or_eq_true,Bool.and_eq_true,decide_eq_true_eq] at hk
  omega
 clear hk
 obtain⟨⟨o1,o2⟩,rfl⟩:=hfo
 obtain rfl:Fg op (Lv op) w=i:=by injection h
 clear h
 have hrd:=Ch w 7 11 32 (by decide)
 have hr1:=Ch w 15 19 32 (by decide)
 have hr2:=Ch w 20 24 32 (by decide)
 have h31:=Ch w 31 31 2 (by decide)
 have h1219:=Ch w 12 19 256 (by decide)
 have h20:=Ch w 20 20 2 (by decide)
 have h2130:=Ch w 21 30 1024 (by decide)
 have h2031:=Ch w 20 31 4096 (by decide)
 have h7:=Ch w 7 7 2 (by decide)
 have h2530:=Ch w 25 30 64 (by decide)
 have h811:=Ch w 8 11 16 (by decide)
 have h2531:=Ch w 25 31 128 (by decide)
 have h011:Av w 0 11=w%4096:=by unfold Av;simp
 have e31:(2:Int) ^ 31=2147483648:=by decide
 have e32:(2:Int) ^ 32=4294967296:=by decide
 have e20:(2:Int) ^ 20=1048576:=by decide
 have e21:(2:Int) ^ 21=2097152:=by decide
 have e11:(2:Int) ^ 11=2048:=by decide
 have e12:(2:Int) ^ 12=4096:=by decide
 have e13:(2:Int) ^ 13=8192:=by decide
 unfold Lv
 by_cases c:op≤2
 ·rw [if_pos c,Ajy]
  unfold IsP
  dsimp only
  rw [if_pos (by omega),if_pos c,decide_eq_true_eq]
  unfold Iq
  simp only [e31,e32]
  refine⟨trivial,trivial,?_⟩
  split<;>omega
 rw [if_neg c]
 by_cases c1:op=3
 ·rw [if_pos c1,Ajz]
  unfold IsP
  dsimp only
  rw [if_pos (by omega),if_neg c,if_pos c1,decide_eq_true_eq]
  unfold Iq
  simp only [e20,e21]
  refine⟨trivial,trivial,?_⟩
  split<;>omega
 rw [if_neg c1]
 by_cases c2:op=4∨(11≤op∧op≤15)∨(19≤op∧op≤24)∨op=46
 ·rw [if_pos c2,Aj0]
  unfold IsP
  dsimp only
  rw [if_pos (by omega),if_neg c,if_neg c1,if_pos c2,decide_eq_true_eq]
  unfold Iq
  simp only [e11,e12]
  refine⟨trivial,?_⟩
  split<;>omega
 rw [if_neg c2]
 by_cases c3:5≤op∧op≤10
 ·rw [if_pos c3,Aj2]
  unfold IsP
  dsimp only
  rw [if_pos (by omega),if_neg c,if_neg c1,if_neg c2,if_pos c3,decide_eq_true_eq]
  unfold Iq
  simp only [e12,e13]
  refine⟨trivial,?_⟩
  split<;>omega
 rw [if_neg c3]
 by_cases c4:16≤op∧op≤18
 ·rw [if_pos c4,Aj3]
  unfold IsP
  dsimp only
  rw [if_pos (by omega),if_neg c,if_neg c1,if_neg c2,if_neg c3,if_pos c4,decide_eq_true_eq]
  unfold Iq
  simp only [e11,e12]
  refine⟨trivial,?_⟩
  split<;>omega
 rw [if_neg c4]
 by_cases c5:25≤op∧op≤27
 ·rw [if_pos c5,Aj1]
  unfold IsP
  dsimp only
  rw [if_pos (by omega),if_neg c,if_neg c1,if_neg c2,if_neg c3,if_neg c4,if_pos c5,decide_eq_true_eq]
  exact⟨rfl,by omega⟩
 rw [if_neg c5]
 by_cases c6:28≤op∧op≤45
 ·rw [if_pos c6,Aj4]
  unfold IsP
  dsimp only
  rw [if_pos (by omega),if_neg c,if_neg c1,if_neg c2,if_neg c3,if_neg c4,if_neg c5,if_pos c6]
  rfl
 rw [if_neg c6,Aj5]
 unfold IsP
 dsimp only
 rw [if_pos (by omega),if_neg c,if_neg c1,if_neg c2,if_neg c3,if_neg c4,if_neg c5,if_neg c6]
 rfl
theorem F9 (w:Int) (f t:Nat) (a b:Int) (ha:(2:Int) ^ f=a) (hb:(2:Int) ^ (t+1 - f)=b):Av w f t=w / a%b:=by unfold Av;rw [ha,hb]
def Ade (op:Int):Bool:=
 match Kj op with
 |some k=>decide (0≤k.low∧k.low<128∧0≤k.middle∧k.middle<8∧0≤k.upper∧k.upper<128∧k.form=Lv op∧(k.form=7→k.low=115∧k.upper≤1))
 |none=>false
theorem Abx:∀ n:Nat,n<48→Ade ((n:Int)+1)=true:=by decide +kernel
theorem Aim (op:Int) (h0:1≤op) (h1:op≤48):∃ k,Kj op=some k∧0≤k.low∧k.low<128∧0≤k.middle∧k.middle<8∧0≤k.upper∧k.upper<128∧k.form=Lv op∧(k.form=7→k.low=115∧k.upper≤1):=by
 have h:=Abx (op - 1).toNat (by omega)
 rw [show(((op - 1).toNat:Int)+1)=op by omega] at h
 unfold Ade at h
 cases hk:Kj op with
 |none=>rw [hk] at h;cases h
 |some k=>rw [hk] at h;exact⟨k,rfl,of_decide_eq_true h⟩
theorem H6 {i:Ins} (h:IsP i=true):(1≤i.op∧i.op≤48)∧(0≤i.rd∧i.rd≤31)∧(0≤i.rs1∧i.rs1≤31)∧0≤i.rs2∧i.rs2≤31:=by
 unfold IsP at h
 split at h
 ·omega
 ·cases h
end Go.Proofs.YtapgojgcmlnbgaaGreatDoor
namespace Go.Proofs.YtapgojgcmlnbgaaGreatDoor
open Go.RowKit
def sg (a:Int):Int:=if a<2147483648 then a else a - 4294967296
def W2 (op a b:Int):Int:=
 if op=28 then (a+b)%4294967296
 else if op=29 then (a - b)%4294967296
 else if op=37 then bits .and .u32 a b
 else if op=36 then bits .or .u32 a b
 else if op=33 then bits .xor .u32 a b
 else if op=30 then a*((2 ^ (b%32).toNat:Nat):Int)%4294967296
 else if op=34 then a / ((2 ^ (b%32).toNat:Nat):Int)
 else if op=35 then sg a / ((2 ^ (b%32).toNat:Nat):Int)%4294967296
 else if op=31 then (if sg a<sg b then 1 else 0)
 else if op=32 then (if a<b then 1 else 0)
 else if op=38 then a*b%4294967296
 else if op=39 then sg a*sg b / 4294967296%4294967296
 else if op=40 then sg a*b / 4294967296%4294967296
 else if op=41 then a*b / 4294967296
 else if op=42 then (if b=0 then 4294967295 else (sg a).tdiv (sg b)%4294967296)
 else if op=44 then (if b=0 then a else (sg a).tmod (sg b)%4294967296)
 else if op=43 then (if b=0 then 4294967295 else a / b)
 else if op=45 then (if b=0 then a else a%b)
 else 0
def Pb (op a b:Int):Bool:=
 if op=5 then decide (a=b) else if op=6 then decide (a≠b) else if op=7 then decide (sg a<sg b) else if op=8 then decide (sg b≤sg a)
 else if op=9 then decide (a<b) else if op=10 then decide (b≤a) else false
theorem Adl {a:Int} (h0:0≤a) (h1:a≤4294967295) : -2147483648≤sg a:=by unfold sg;split<;>omega
theorem Adk {a:Int} (h0:0≤a) (h1:a≤4294967295):sg a≤2147483647:=by unfold sg;split<;>omega
theorem Jq {a:Int} (h0:0≤a) (h1:a≤4294967295):wrap32 a=sg a:=by unfold sg wrap32;split<;>omega
theorem Aj9 {a:Int} (h0:0≤a) (h1:a≤4294967295):sg a%4294967296=a:=by unfold sg;split<;>omega
theorem Ac8 (a b:Nat) (ha:a<4294967296) (hb:b<4294967296):bits .and .u32 (a:Int) (b:Int)=((a &&& b:Nat):Int):=by
 have hx:a &&& b<2 ^ 32:=Nat.and_lt_two_pow _ (by omega)
 have h1:(BitVec.ofInt 32 (a:Int)).toNat=a:=by
  rw [BitVec.ofInt_natCast,BitVec.toNat_ofNat];exact Nat.mod_eq_of_lt (by omega)
 have h2:(BitVec.ofInt 32 (b:Int)).toNat=b:=by
  rw [BitVec.ofInt_natCast,BitVec.toNat_ofNat];exact Nat.mod_eq_of_lt (by omega)
 show IntKind.u32.wrap ((BitVec.ofInt 32 (a:Int) &&& BitVec.ofInt 32 (b:Int)).toNat:Int)=_
 rw [BitVec.toNat_and,h1,h2,IntKind.wrap_u32]
 omega
theorem Ajw (a b:Nat) (ha:a<4294967296) (hb:b<4294967296):bits .or .u32 (a:Int) (b:Int)=((a ||| b:Nat):Int):=by
 have hx:a ||| b<2 ^ 32:=Nat.or_lt_two_pow (by omega) (by omega)
 have h1:(BitVec.ofInt 32 (a:Int)).toNat=a:=by
  rw [BitVec.ofInt_natCast,BitVec.toNat_ofNat];exact Nat.mod_eq_of_lt (by omega)
 have h2:(BitVec.ofInt 32 (b:Int)).toNat=b:=by
  rw [BitVec.ofInt_natCast,BitVec.toNat_ofNat];exact Nat.mod_eq_of_lt (by omega)
 show IntKind.u32.wrap ((BitVec.ofInt 32 (a:Int) ||| BitVec.ofInt 32 (b:Int)).toNat:Int)=_
 rw [BitVec.toNat_or,h1,h2,IntKind.wrap_u32]
 omega
theorem Ajj (a b:Nat) (ha:a<4294967296) (hb:b<4294967296):bits .xor .u32 (a:Int) (b:Int)=((a ^^^ b:Nat):Int):=by
 have hx:a ^^^ b<2 ^ 32:=Nat.xor_lt_two_pow (by omega) (by omega)
 have h1:(BitVec.ofInt 32 (a:Int)).toNat=a:=by
  rw [BitVec.ofInt_natCast,BitVec.toNat_ofNat];exact Nat.mod_eq_of_lt (by omega)
 have h2:(BitVec.ofInt 32 (b:Int)).toNat=b:=by
  rw [BitVec.ofInt_natCast,BitVec.toNat_ofNat];exact Nat.mod_eq_of_lt (by omega)
 show IntKind.u32.wrap ((BitVec.ofInt 32 (a:Int) ^^^ BitVec.ofInt 32 (b:Int)).toNat:Int)=_
 rw [BitVec.toNat_xor,h1,h2,IntKind.wrap_u32]
 omega
theorem En (b:Int) (k:Nat) (hk:k≤32) (h0:0≤b) (h1:b≤4294967295):bits .and .u32 b ((2 ^ k - 1:Nat):Int)=b%((2 ^ k:Nat):Int):=by
 obtain⟨n,rfl⟩:=Int.eq_ofNat_of_zero_le h0
 have hp:2 ^ k≤2 ^ 32:=Nat.pow_le_pow_right (by omega) hk
 have hp0:=Nat.two_pow_pos k
 rw [Ac8 n _ (by omega) (by omega),Nat.and_two_pow_sub_one_eq_mod]
 omega
theorem Akf (b:Int) (h0:0≤b) (h1:b≤4294967295):bits .and .u32 b 31=b%32:=En b 5 (by omega) h0 h1
theorem Xt {a b:Int} {A B:Nat} (ha:a.natAbs≤A) (hb:b.natAbs≤B) : -((A*B:Nat):Int)≤a*b∧a*b≤((A*B:Nat):Int):=by
 have:=Nat.mul_le_mul ha hb
 rw [←Int.natAbs_mul] at this
 omega
theorem Adm {b:Int} (h0:0≤b) (h1:b≤4294967295):sg b=0↔b=0:=by unfold sg;split<;>omega
theorem Ajd (a b:Int) (ha0 : -2147483648≤a) (ha1:a≤2147483647) (h:b≠0) (h':b ≠ -1) : -2147483648≤a.tdiv b∧a.tdiv b≤2147483647:=by
 by_cases h1:b=1
 ·subst h1
  rw [Int.tdiv_one]
  exact⟨ha0,ha1⟩
 ·have e:=Int.natAbs_tdiv a b
  have e2:a.natAbs / b.natAbs≤a.natAbs / 2:=Nat.div_le_div_left (by omega) (by omega)
  have e3:a.natAbs.div b.natAbs=a.natAbs / b.natAbs:=rfl
  omega
def Y1 (a b:Int):Int×Int:=if b=0 then (-1,a) else if b = -1 then (wrap32 (-a),0) else (a.tdiv b,a.tmod b)
theorem Ajq {a b:Int} (hb0:0≤b) (hb1:b≤4294967295):(Y1 (sg a) (sg b)).1%4294967296=if b=0 then 4294967295 else (sg a).tdiv (sg b)%4294967296:=by
 have hz:=Adm hb0 hb1
 unfold Y1
 by_cases h:b=0
 ·rw [if_pos (hz.2 h),if_pos h];rfl
 ·rw [if_neg (fun e=>h (hz.1 e)),if_neg h]
  split
  ·rename_i e
   rw [e,Int.tdiv_neg,Int.tdiv_one]
   show wrap32 (-(sg a))%4294967296=_
   unfold wrap32
   omega
  ·rfl
theorem Ajr {a b:Int} (ha0:0≤a) (ha1:a≤4294967295) (hb0:0≤b) (hb1:b≤4294967295):(Y1 (sg a) (sg b)).2%4294967296=if b=0 then a else (sg a).tmod (sg b)%4294967296:=by
 have hz:=Adm hb0 hb1
 unfold Y1
 by_cases h:b=0
 ·rw [if_pos (hz.2 h),if_pos h];exact Aj9 ha0 ha1
 ·rw [if_neg (fun e=>h (hz.1 e)),if_neg h]
  split
  ·rename_i e
   rw [e,Int.tmod_neg,Int.tmod_one]
  ·rfl
def Aaa (op a b:Int):Int:=
 if op=42 then (if b=0 then 4294967295 else (sg a).tdiv (sg b)%4294967296)
 else if op=44 then (if b=0 then a else (sg a).tmod (sg b)%4294967296)
 else if op=43 then (if b=0 then 4294967295 else a / b)
 else if op=45 then (if b=0 then a else a%b)
 else 0
theorem A4 {P:Program} {c:Code} {Q:Exit→Act→World→Prop} {a:Act} {w:World} (h:∀ w',w'=w→c.wp P Q a w'):c.wp P Q a w:=h w rfl
theorem Gd {a b:Bool} (h:a=b):Ending.returned (.bool a)=Ending.returned (.bool b):=by rw [h]
theorem Dw {k:IntKind} {a b:Int} (h:a=b):Ending.returned (.int k a) = .returned (.int k b):=by rw [h]
theorem Qm {k:IntKind} {a b:Int} {c:Bool} (h:a=b):Ending.returned (.tuple #[.int k a, .bool c]) = .returned (.tuple #[.int k b, .bool c]):=by rw [h]
structure Acc where
 seq:Int
 store:Bool
 known:Bool
 at_:Int
 many:Int
 data:Int
 done:Bool
 deriving DecidableEq
instance:Inhabited Acc:=⟨⟨0,false,false,0,0,0,false⟩⟩
abbrev Acc.cells (a:Acc):Array Value:=#[.int .i64 a.seq, .bool a.store, .bool a.known, .int .u32 a.at_, .int .i64 a.many, .int .u32 a.data, .bool a.done]
abbrev Acc.val (a:Acc):Value := .agg a.cells
structure Acc.Wf (a:Acc):Prop where
 at0:0≤a.at_
 at1:a.at_≤4294967295
 data0:0≤a.data
 data1:a.data≤4294967295
 seq0 : -9223372036854775808≤a.seq
 seq1:a.seq≤9223372036854775807
 many0 : -9223372036854775808≤a.many
 many1:a.many≤9223372036854775807
theorem grownBy_trans {a b c:World} {row:Option Nat} (h:a.grownBy b row) (k:b.grownBy c row):a.grownBy c row:=
 ⟨k.os.trans h.os,k.tape.trans h.tape,k.output.trans h.output,Nat.le_trans h.size k.size,fun i hi hne=>(k.block i (Nat.lt_of_lt_of_le hi h.size) hne).trans (h.block i hi hne)⟩
theorem Aq {w:World} {base:Nat} {e:TypeId} {size:Nat} {v:Value} {n:Nat} {xs:List Value} (h:w.ownsRow base e size v n xs):∃ A c,v = .slice A n c:=by
 rcases h.2 with⟨rfl,rfl⟩ | ⟨g,c,cur,hv,_⟩
 ·exact⟨none,0,rfl⟩
 ·exact⟨_,c,hv⟩
theorem sA {α:Type} (l:List α) (i:Nat) (a:α):l.toArray.setIfInBounds i a=(l.set i a).toArray:=List.setIfInBounds_toArray ..
theorem sS {α:Type} (l:List α) (x:α) (i:Nat) (a:α):(x::l).set (i+1) a=x::l.set i a:=List.set_cons_succ
theorem sZ {α:Type} (l:List α) (x a:α):(x::l).set 0 a=a::l:=List.set_cons_zero
theorem _root_.Go.RowKit.Below.at_ {B:Nat} {W w1:World} (hb:Below B W w1) {b o:Nat} {x:Option Value} (h:b<B) (hc:W.cell? ⟨b,o,none⟩=x):w1.cell? ⟨b,o,none⟩=x:=(hb.cell (p:=⟨b,o,none⟩) h).trans hc
theorem Je {B:Nat} {W w1:World} (hb:Below B W w1):(∀ b o,b<B→w1.cell? ⟨b,o,none⟩=W.cell? ⟨b,o,none⟩)∧(∀ b o,b<B→w1.frozen? ⟨b,o,none⟩=W.frozen? ⟨b,o,none⟩):=
 ⟨fun b o h=>hb.cell (p:=⟨b,o,none⟩) h,fun b o h=>hb.frozen (p:=⟨b,o,none⟩) h⟩
def Og (w:World) (g:Nat) (cs:Array Value):Prop:=∀ i,w.cell? ⟨g,i,none⟩=cs[i]?
theorem Og.below {w w':World} {B g:Nat} {cs:Array Value} (h:Og w g cs) (hb:Below B w w') (hB:g<B):Og w' g cs:=fun i=>(hb.cell (p:=⟨g,i,none⟩) hB).trans (h i)
theorem Og.new (w:World) (cs:Array Value) (t:TypeId):Og (w.alloc (.cells cs t)) w.heap.size cs:=fun i=>World.cell?_alloc_new w _ _ i
theorem Og.alloc {w:World} {g:Nat} {cs:Array Value} (h:Og w g cs) (hg:g<w.heap.size) (o:Obj):Og (w.alloc o) g cs:=fun i=>(World.cell?_alloc_lt w o ⟨g,i,none⟩ hg).trans (h i)
def Blk (w:World) (g:Nat) (t:TypeId) (cs:Array Value):Prop:=w.heap[g]? = some (.cells cs t (0,0))
theorem Blk.lt {w:World} {g:Nat} {t:TypeId} {cs:Array Value} (h:Blk w g t cs):g<w.heap.size:=by
 rcases Nat.lt_or_ge g w.heap.size with h' | h'
 ·exact h'
 ·unfold Blk at h
  rw [Array.getElem?_eq_none h'] at h
  cases h
theorem Blk.cell {w:World} {g:Nat} {t:TypeId} {cs:Array Value} (h:Blk w g t cs) (i:Nat):w.cell? ⟨g,i,none⟩=cs[i]? := by
 unfold Blk at h
 simp [World.cell?,h]
theorem Blk.frozen {w:World} {g:Nat} {t:TypeId} {cs:Array Value} (h:Blk w g t cs) (i:Nat):w.frozen? ⟨g,i,none⟩=false:=by
 unfold Blk at h
 simp [World.frozen?,h]
theorem Blk.new (w:World) (t:TypeId) (cs:Array Value):Blk (w.alloc (.cells cs t)) w.heap.size t cs:=by
 unfold Blk World.alloc
 simp
theorem Blk.set {w:World} {g:Nat} {t:TypeId} {cs:Array Value} (h:Blk w g t cs) (i:Nat) (u:Value):Blk (w.setCell ⟨g,i,none⟩ u) g t (cs.setIfInBounds i u):=by
 unfold Blk at h ⊢
 simp [World.setCell,Array.getElem?_modify,h]
theorem Blk.far {w:World} {g:Nat} {t:TypeId} {cs:Array Value} (h:Blk w g t cs) {p:Addr} (hp:g≠p.block) (u:Value):Blk (w.setCell p u) g t cs:=(Below.heap_setCell w p u g hp).trans h
theorem Blk.alloc {w:World} {g:Nat} {t:TypeId} {cs:Array Value} (h:Blk w g t cs) (o:Obj):Blk (w.alloc o) g t cs:=(Below.heap_alloc w o g h.lt).trans h
theorem Blk.below {w w':World} {g B:Nat} {t:TypeId} {cs:Array Value} (h:Blk w g t cs) (hb:Below B w w') (hB:g<B):Blk w' g t cs:=(hb.block g hB).trans h
theorem Blk.ext {w w':World} {g:Nat} {t:TypeId} {cs:Array Value} (h:Blk w g t cs) (hb:Below w.heap.size w w'):Blk w' g t cs:=h.below hb h.lt
theorem Blk.grown {w w':World} {g:Nat} {t:TypeId} {cs:Array Value} {row:Option Nat} (h:Blk w g t cs) (hb:w.grownBy w' row) (hg:some g≠row):Blk w' g t cs:=(hb.block g h.lt hg).trans h
def As (w:World) (B:Nat) (k:IntKind) (A:Option Addr) (l:List Int):Prop:=
 l≠[]→∃ b o,A=some ⟨b,o,none⟩∧b<B∧∀ (i:Nat) (v:Int),l[i]? = some v→w.cell? ⟨b,o+i,none⟩=some (.int k v)
theorem As.below {w w':World} {B:Nat} {k:IntKind} {A:Option Addr} {l:List Int} (h:As w B k A l) (hb:Below B w w'):As w' B k A l:=fun hne=>by
 obtain⟨b,o,hA,hB,hc⟩:=h hne
 exact⟨b,o,hA,hB,fun i v hi=>(hb.cell (p:=⟨b,o+i,none⟩) hB).trans (hc i v hi)⟩
theorem As.mono {w:World} {B B':Nat} {k:IntKind} {A:Option Addr} {l:List Int} (h:As w B k A l) (hB:B≤B'):As w B' k A l:=fun hne=>by
 obtain⟨b,o,hA,hb,hc⟩:=h hne
 exact⟨b,o,hA,by omega,hc⟩
theorem As.at_ {w:World} {B:Nat} {k:IntKind} {A:Option Addr} {l:List Int} (h:As w B k A l) {n:Nat} (hn:n<l.length) :
  ∃ b o,A=some ⟨b,o,none⟩∧b<B∧∀ i,i<l.length→w.cell? ⟨b,o+i,none⟩=some (.int k (l.getD i 0)):=by
 obtain⟨b,o,hA,hB,hc⟩:=h (by intro e;simp [e] at hn)
 refine⟨b,o,hA,hB,fun i hi=>?_⟩
 have hg:l[i]? = some l[i]:=List.getElem?_eq_getElem hi
 rw [hc i _ hg]
 simp [List.getD,hg]
theorem As.cells {w:World} {B:Nat} {k:IntKind} {A:Option Addr} {l:List Int} (h:As w B k A l):∀ ad,A=some ad→∀ j u,(l.map (Value.int k))[j]? = some u→w.cell? (ad.add j)=some u:=by
 intro ad hA j u hu
 have hj:j<l.length:=by have:=(List.getElem?_eq_some_iff.1 hu).1;simpa using this
 obtain⟨b,o,hA',_,hc⟩:=h (by intro e;simp [e] at hj)
 rw [hA] at hA'
 injection hA' with hA'
 subst hA'
 rw [List.getElem?_map] at hu
 obtain⟨x,hx,rfl⟩:=Option.map_eq_some_iff.1 hu
 rw [Addr.add_lit]
 exact hc j x hx
theorem As.own {w:World} {base:Nat} {e:TypeId} {k:IntKind} {A:Option Addr} {n cap:Nat} {l:List Int} (h:w.ownsRow base e 1 (.slice A n cap) n (l.map (Value.int k))):As w w.heap.size k A l:=by
 intro hne
 have hln:l.length=n:=by simpa using h.1
 rcases h.2 with⟨_,h0⟩ | ⟨g,c,cur,hv,_,hh,_⟩
 ·subst h0
  exact absurd (List.eq_nil_of_length_eq_zero hln) hne
 ·injection hv with hA _ _
  subst hA
  have hlt:g<w.heap.size:=by
   rcases Nat.lt_or_ge g w.heap.size with h' | h'
   ·exact h'
   ·rw [Array.getElem?_eq_none h'] at hh;cases hh
  refine⟨g,0,rfl,hlt,fun i v hi=>?_⟩
  have:=World.ownsRow.cells h (g:=g) rfl i (.int k v) (by simp [hi])
  rwa [Addr.add_lit] at this
structure Ye (w:World) (b o:Nat) (a:Acc):Prop where
 c0:w.cell? ⟨b,o,none⟩=some (.int .i64 a.seq)
 c1:w.cell? ⟨b,o+1,none⟩=some (.bool a.store)
 c2:w.cell? ⟨b,o+2,none⟩=some (.bool a.known)
 c3:w.cell? ⟨b,o+3,none⟩=some (.int .u32 a.at_)
 c4:w.cell? ⟨b,o+4,none⟩=some (.int .i64 a.many)
 c5:w.cell? ⟨b,o+5,none⟩=some (.int .u32 a.data)
 c6:w.cell? ⟨b,o+6,none⟩=some (.bool a.done)
theorem Ye.below {w w':World} {B b o:Nat} {a:Acc} (h:Ye w b o a) (hb:Below B w w') (hB:b<B):Ye w' b o a:=
 ⟨(hb.cell (p:=⟨b,o,none⟩) hB).trans h.c0,(hb.cell (p:=⟨b,o+1,none⟩) hB).trans h.c1,(hb.cell (p:=⟨b,o+2,none⟩) hB).trans h.c2,(hb.cell (p:=⟨b,o+3,none⟩) hB).trans h.c3,
  (hb.cell (p:=⟨b,o+4,none⟩) hB).trans h.c4,(hb.cell (p:=⟨b,o+5,none⟩) hB).trans h.c5,(hb.cell (p:=⟨b,o+6,none⟩) hB).trans h.c6⟩
def Ee (w:World) (B:Nat) (A:Option Addr) (l:List Acc):Prop:=
 l≠[]→∃ b o,A=some ⟨b,o,none⟩∧b<B∧∀ (k:Nat) (a:Acc),l[k]? = some a→Ye w b (o+k*7) a
theorem Ee.below {w w':World} {B:Nat} {A:Option Addr} {l:List Acc} (h:Ee w B A l) (hb:Below B w w'):Ee w' B A l:=fun hne=>by
 obtain⟨b,o,hA,hB,hc⟩:=h hne
 exact⟨b,o,hA,hB,fun k a hk=>(hc k a hk).below hb hB⟩
theorem Ee.mono {w:World} {B B':Nat} {A:Option Addr} {l:List Acc} (h:Ee w B A l) (hB:B≤B'):Ee w B' A l:=fun hne=>by
 obtain⟨b,o,hA,hb,hc⟩:=h hne
 exact⟨b,o,hA,by omega,hc⟩
theorem Ee.at_ {w:World} {B:Nat} {A:Option Addr} {l:List Acc} (h:Ee w B A l) {k:Nat} (hk:k<l.length) :
  ∃ b o a,A=some ⟨b,o,none⟩∧b<B∧l[k]? = some a∧l.drop k=a::l.drop (k+1)∧a∈l∧Ye w b (o+k*7) a:=by
 obtain⟨b,o,hA,hB,hc⟩:=h (by intro e;simp [e] at hk)
 have hg:l[k]? = some l[k]:=List.getElem?_eq_getElem hk
 exact⟨b,o,l[k],hA,hB,hg,List.drop_eq_getElem_cons hk,List.getElem_mem hk,hc k _ hg⟩
end Go.Proofs.YtapgojgcmlnbgaaGreatDoor
namespace Go.Proofs.YtapgojgcmlnbgaaGreatDoor
def Cv (len:Nat) (at_ many:Int):Bool:=decide (0<many)&&decide (at_%many=0)&&decide (at_+many≤len)
def Dj (op:Int):Int:=if op=11∨op=14∨op=16 then 1 else if op=12∨op=15∨op=17 then 2 else if op=13∨op=18 then 4 else 0
def Kk (op x0 x1 x2 x3:Int):Int:=
 if op=11 then (if x0<128 then x0 else x0+4294967040)
 else if op=12 then (if x0+256*x1<32768 then x0+256*x1 else x0+256*x1+4294901760)
 else if op=13 then x0+256*x1+65536*x2+16777216*x3
 else if op=14 then x0
 else x0+256*x1
def Le (m:List Int) (op:Int) (n:Nat):Int:=Kk op (m.getD n 0) (m.getD (n+1) 0) (m.getD (n+2) 0) (m.getD (n+3) 0)
def Di (m:List Int) (op at_:Int):Int×Bool:=
 if (decide (11≤op)&&decide (op≤15)&&Cv m.length at_ (Dj op))=true then (Le m op at_.toNat,true) else (0,false)
def Xx (m:List Int) (n:Nat) (w:Int):List Int:=m.set n (w%256)
def Z8 (m:List Int) (n:Nat) (w:Int):List Int:=(Xx m n w).set (n+1) (w / 256%256)
def Acd (m:List Int) (n:Nat) (w:Int):List Int:=((Z8 m n w).set (n+2) (w / 65536%256)).set (n+3) (w / 16777216%256)
def Bytes (m:List Int):Prop:=∀ b∈m,0≤b∧b≤255
theorem Bytes.getD {m:List Int} (h:Bytes m) (i:Nat):0≤m.getD i 0∧m.getD i 0≤255:=by
 rw [List.getD]
 cases hi:m[i]? with
 |none=>simp
 |some v=>exact h v (List.mem_of_getElem? hi)
theorem Aji (n:Int):IntKind.i8.wrap n=(n+128)%256 - 128:=by
 simp [IntKind.wrap,IntKind.bits,IntKind.signed]
 split<;>omega
theorem Ah5 (n:Int):IntKind.i16.wrap n=(n+32768)%65536 - 32768:=by
 simp [IntKind.wrap,IntKind.bits,IntKind.signed]
 split<;>omega
theorem Gp (x b:Int) (k:Nat) (hk:k≤31) (hx0:0≤x) (hx:x<((2 ^ k:Nat):Int)) (hb0:0≤b) (hb:b*((2 ^ k:Nat):Int)<4294967296):bits .or .u32 x (b*((2 ^ k:Nat):Int))=x+b*((2 ^ k:Nat):Int):=by
 obtain⟨a,rfl⟩:=Int.eq_ofNat_of_zero_le hx0
 obtain⟨c,rfl⟩:=Int.eq_ofNat_of_zero_le hb0
 have ha:a<2 ^ k:=Int.ofNat_lt.mp hx
 have hc:c*2 ^ k<4294967296:=Int.ofNat_lt.mp (by rw [Int.natCast_mul];exact hb)
 have hpow:2 ^ k≤2 ^ 31:=Nat.pow_le_pow_right (by omega) hk
 have h:=Nat.two_pow_add_eq_or_of_lt ha c
 have e:((c:Int)*((2 ^ k:Nat):Int))=((c*2 ^ k:Nat):Int):=by rw [Int.natCast_mul]
 rw [e,u32_or_nat a (c*2 ^ k) (by omega) hc,Nat.or_comm,Nat.mul_comm c,←h]
 omega
theorem or8 (x b:Int) (hx0:0≤x) (hx:x<256) (hb0:0≤b) (hb:b≤255):bits .or .u32 x (b*256)=x+256*b:=by
 have:=Gp x b 8 (by omega) hx0 (by simpa using hx) hb0 (by simp;omega)
 simp at this
 rw [this];omega
theorem Alk (x b:Int) (hx0:0≤x) (hx:x<65536) (hb0:0≤b) (hb:b≤255):bits .or .u32 x (b*65536)=x+65536*b:=by
 have:=Gp x b 16 (by omega) hx0 (by simpa using hx) hb0 (by simp;omega)
 simp at this
 rw [this];omega
theorem All (x b:Int) (hx0:0≤x) (hx:x<16777216) (hb0:0≤b) (hb:b≤255):bits .or .u32 x (b*16777216)=x+16777216*b:=by
 have:=Gp x b 24 (by omega) hx0 (by simpa using hx) hb0 (by simp;omega)
 simp at this
 rw [this];omega
theorem or0 (b:Int) (hb0:0≤b) (hb:b≤255):bits .or .u32 0 b=b:=by
 have:=Gp 0 b 0 (by omega) (by omega) (by simp) hb0 (by simp;omega)
 simpa using this
end Go.Proofs.YtapgojgcmlnbgaaGreatDoor
namespace Go.Proofs.YtapgojgcmlnbgaaGreatDoor
open Go
structure Ap where
 regs:List Int
 pc:Int
 state:Int
 cause:Int
 deriving DecidableEq
structure Com where
 pc:Int
 next:Int
 state:Int
 cause:Int
 rd:Int
 value:Int
 at_:Int
 many:Int
 data:Int
 out:Bool
 told:Int
 deriving DecidableEq
def u32 (x:Int):Int:=x%4294967296
def Ap.reg (h:Ap) (i:Int):Int:=h.regs.getD i.toNat 0
structure Ap.Wf (h:Ap):Prop where
 len:h.regs.length=32
 word:∀ x∈h.regs,0≤x∧x≤4294967295
 pc0:0≤h.pc
 pc1:h.pc≤4294967295
theorem Ap.Wf.reg {h:Ap} (hw:h.Wf) (i:Int):0≤h.reg i∧h.reg i≤4294967295:=by
 unfold Ap.reg
 rw [List.getD]
 cases hi:h.regs[i.toNat]? with
 |none=>simp
 |some v=>exact hw.word v (List.mem_of_getElem? hi)
def Im (h:Ap):Bool:=decide (h.reg 0=0)&&((decide (h.state=2)&&decide (1≤h.cause)&&decide (h.cause≤6)) || ((decide (h.state=0) || decide (h.state=1))&&decide (h.cause=0)))
def Agv (op:Int):Int:=[28,31,32,33,36,37,30,34,35].getD (op - 19).toNat 0
def Bf (i:Ins):Bool:=decide (0<i.rd)&&!(decide (16≤i.op)&&decide (i.op≤18))&&!(decide (5≤i.op)&&decide (i.op≤10))&&decide (i.op<46)
def F0 (i:Ins) (pc a b:Int):Int×Int:=
 if i.op=1 then (u32 i.imm,u32 (pc+4))
 else if i.op=2 then (u32 (pc+i.imm),u32 (pc+4))
 else if i.op=3 then (u32 (pc+4),u32 (pc+i.imm))
 else if i.op=4 then (u32 (pc+4),u32 (a+i.imm) - u32 (a+i.imm)%2)
 else if 5≤i.op∧i.op≤10 then (0,if Pb i.op a b=true then u32 (pc+i.imm) else u32 (pc+4))
 else if 19≤i.op∧i.op≤27 then (W2 (Agv i.op) a (u32 i.imm),u32 (pc+4))
 else (W2 i.op a b,u32 (pc+4))
def Fl (op:Int):Int:=if op=16 then 1 else if op=17 then 2 else 4
def Q8 (w many:Int):Int:=if many=1 then w%256 else if many=2 then w%65536 else w
def Bv (pc cause:Int):Com:=⟨pc,pc,2,cause,0,0,0,0,0,false,0⟩
def Ck (i:Ins) (h:Ap) (m:List Int):Com:=
 let a:=h.reg i.rs1
 let b:=h.reg i.rs2
 let at_:=u32 (a+i.imm)
 let rd:=if Bf i=true then i.rd else 0
 let v:=fun x:Int=>if Bf i=true then x else 0
 if 11≤i.op∧i.op≤15 then
  if (Di m i.op at_).2=true then ⟨h.pc,u32 (h.pc+4),0,0,rd,v (Di m i.op at_).1,0,0,0,false,0⟩ else Bv h.pc 3
 else if 16≤i.op∧i.op≤18 then
  if Cv m.length at_ (Fl i.op)=true then ⟨h.pc,u32 (h.pc+4),0,0,0,0,at_,Fl i.op,Q8 b (Fl i.op),false,0⟩ else Bv h.pc 4
 else if i.op=48 then Bv h.pc 6
 else if i.op=47 then
  if h.reg 17=0 then ⟨h.pc,h.pc,1,0,0,0,0,0,0,false,0⟩
  else if h.reg 17=1 then ⟨h.pc,u32 (h.pc+4),0,0,0,0,0,0,0,true,h.reg 10⟩
  else Bv h.pc 5
 else if i.op=46 then ⟨h.pc,u32 (h.pc+4),0,0,0,0,0,0,0,false,0⟩
 else ⟨h.pc,(F0 i h.pc a b).2,0,0,rd,v (F0 i h.pc a b).1,0,0,0,false,0⟩
def Cx (c:Com) (h:Ap):Ap:=⟨if 0<c.rd then h.regs.set c.rd.toNat c.value else h.regs,c.next,c.state,c.cause⟩
def Vm (m:List Int) (many:Int) (n:Nat) (d:Int):List Int:=if many=1 then Xx m n d else if many=2 then Z8 m n d else if many=4 then Acd m n d else m
def C9 (c:Com) (m:List Int):List Int:=Vm m c.many c.at_.toNat c.data
def Fx:Ins:=⟨0,0,0,0,0⟩
def Dp (m:List Int) (pc:Int):Ins×Int:=
 if (Di m 13 pc).2=true then (match Oe (Di m 13 pc).1 with | some i=>(i,0) | none=>(Fx,2)) else (Fx,1)
def Kr (h:Ap) (m:List Int):Com:=if (Dp m h.pc).2=0 then Ck (Dp m h.pc).1 h m else Bv h.pc (Dp m h.pc).2
def goH (h:Ap) (m:List Int):Ap:=Cx (Kr h m) h
def goM (h:Ap) (m:List Int):List Int:=C9 (Kr h m) m
theorem Dc (x:Int):0≤u32 x∧u32 x≤4294967295:=by unfold u32;omega
structure Com.Wf (c:Com):Prop where
 pc:0≤c.pc∧c.pc≤4294967295
 next:0≤c.next∧c.next≤4294967295
 rd:0≤c.rd∧c.rd≤31
 value:0≤c.value∧c.value≤4294967295
 at_:0≤c.at_∧c.at_≤4294967295
 many:c.many=0∨c.many=1∨c.many=2∨c.many=4
 data:0≤c.data∧c.data≤4294967295
 told:0≤c.told∧c.told≤4294967295
 state:(c.state=2∧1≤c.cause∧c.cause≤6)∨((c.state=0∨c.state=1)∧c.cause=0)
theorem W6 (f:Nat→Nat→Nat) (hf:∀ a b,a<2 ^ 32→b<2 ^ 32→f a b<2 ^ 32) (op:BinOp) (h:∀ a b:Nat,a<4294967296→b<4294967296→bits op .u32 (a:Int) (b:Int)=((f a b:Nat):Int))
  {a b:Int} (ha0:0≤a) (ha1:a≤4294967295) (hb0:0≤b) (hb1:b≤4294967295):0≤bits op .u32 a b∧bits op .u32 a b≤4294967295:=by
 obtain⟨x,rfl⟩:=Int.eq_ofNat_of_zero_le ha0
 obtain⟨y,rfl⟩:=Int.eq_ofNat_of_zero_le hb0
 rw [h x y (by omega) (by omega)]
 have:=hf x y (by omega) (by omega)
 omega
theorem Add {a b:Int} (ha0:0≤a) (ha1:a≤4294967295) (hb:0≤b):0≤a / b∧a / b≤4294967295:=
 ⟨Int.ediv_nonneg ha0 hb,Int.le_trans (Int.ediv_le_self b ha0) ha1⟩
theorem Aig {a b:Int} (ha0:0≤a) (ha1:a≤4294967295) (hb:0≤b):0≤a%b∧a%b≤4294967295:=by
 obtain⟨x,rfl⟩:=Int.eq_ofNat_of_zero_le ha0
 obtain⟨y,rfl⟩:=Int.eq_ofNat_of_zero_le hb
 have:=Nat.mod_le x y
 rw [←Int.natCast_emod]
 omega
theorem L4 (a:Int):0≤a%4294967296∧a%4294967296≤4294967295:=by omega
def W32 (x:Int):Prop:=0≤x∧x≤4294967295
theorem Bs {α:Type} {c:Prop} [Decidable c] {P:α→Prop} {x y:α} (h1:c→P x) (h2:¬ c→P y):P (if c then x else y):=by
 by_cases h:c
 ·rw [if_pos h];exact h1 h
 ·rw [if_neg h];exact h2 h
theorem Ac6 (op:Int) {a b:Int} (ha0:0≤a) (ha1:a≤4294967295) (hb0:0≤b) (hb1:b≤4294967295):0≤W2 op a b∧W2 op a b≤4294967295:=by
 have hp:∀ k:Nat,(0:Int)≤((2 ^ k:Nat):Int):=fun k=>Int.natCast_nonneg _
 have hm:0≤a*b / 4294967296∧a*b / 4294967296≤4294967295:=by
  have h:=Xt (a:=a) (b:=b) (A:=4294967295) (B:=4294967295) (by omega) (by omega)
  have h2:=Int.mul_nonneg ha0 hb0
  omega
 have z:W32 0:=⟨by omega,by omega⟩
 have o:W32 1:=⟨by omega,by omega⟩
 have t:W32 4294967295:=⟨by omega,by omega⟩
 show W32 (W2 op a b)
 unfold W2
 refine Bs (fun _=>L4 _) fun _=>?_
 refine Bs (fun _=>L4 _) fun _=>?_
 refine Bs (fun _=>W6 (· &&& ·) (fun a b _ h=>Nat.and_lt_two_pow a h) .and Ac8 ha0 ha1 hb0 hb1) fun _=>?_
 refine Bs (fun _=>W6 (· ||| ·) (fun a b h h'=>Nat.or_lt_two_pow h h') .or Ajw ha0 ha1 hb0 hb1) fun _=>?_
 refine Bs (fun _=>W6 (· ^^^ ·) (fun a b h h'=>Nat.xor_lt_two_pow h h') .xor Ajj ha0 ha1 hb0 hb1) fun _=>?_
 refine Bs (fun _=>L4 _) fun _=>?_
 refine Bs (fun _=>Add ha0 ha1 (hp _)) fun _=>?_
 refine Bs (fun _=>L4 _) fun _=>?_
 refine Bs (fun _=>Bs (fun _=>o) fun _=>z) fun _=>?_
 refine Bs (fun _=>Bs (fun _=>o) fun _=>z) fun _=>?_
 refine Bs (fun _=>L4 _) fun _=>?_
 refine Bs (fun _=>L4 _) fun _=>?_
 refine Bs (fun _=>L4 _) fun _=>?_
 refine Bs (fun _=>hm) fun _=>?_
 refine Bs (fun _=>Bs (fun _=>t) fun _=>L4 _) fun _=>?_
 refine Bs (fun _=>Bs (fun _=>⟨ha0,ha1⟩) fun _=>L4 _) fun _=>?_
 refine Bs (fun _=>Bs (fun _=>t) fun _=>Add ha0 ha1 hb0) fun _=>?_
 refine Bs (fun _=>Bs (fun _=>⟨ha0,ha1⟩) fun _=>Aig ha0 ha1 hb0) fun _=>?_
 exact z
theorem T3 {m:List Int} (hm:Bytes m) (op at_:Int):0≤(Di m op at_).1∧(Di m op at_).1≤4294967295:=by
 unfold Di
 split
 ·show 0≤Le m op at_.toNat∧Le m op at_.toNat≤4294967295
  unfold Le
  have b0:=hm.getD at_.toNat
  have b1:=hm.getD (at_.toNat+1)
  have b2:=hm.getD (at_.toNat+2)
  have b3:=hm.getD (at_.toNat+3)
  unfold Kk
  (repeat' split)<;>omega
 ·exact⟨Int.le_refl _,by decide⟩
theorem Acf (i:Ins) {pc a b:Int} (ha:0≤a∧a≤4294967295) (hb:0≤b∧b≤4294967295) :
  (0≤(F0 i pc a b).1∧(F0 i pc a b).1≤4294967295)∧0≤(F0 i pc a b).2∧(F0 i pc a b).2≤4294967295:=by
 have z:(0:Int)≤0∧(0:Int)≤4294967295:=by omega
 unfold F0
 split
 ·exact⟨Dc _,Dc _⟩
 split
 ·exact⟨Dc _,Dc _⟩
 split
 ·exact⟨Dc _,Dc _⟩
 split
 ·have:=Dc (a+i.imm)
  exact⟨Dc _,by omega,by omega⟩
 split
 ·refine⟨z,?_⟩
  show 0≤(if Pb i.op a b=true then u32 (pc+i.imm) else u32 (pc+4))∧(if Pb i.op a b=true then u32 (pc+i.imm) else u32 (pc+4))≤4294967295
  split
  ·exact Dc _
  ·exact Dc _
 split
 ·exact⟨Ac6 _ ha.1 ha.2 (Dc _).1 (Dc _).2,Dc _⟩
 ·exact⟨Ac6 _ ha.1 ha.2 hb.1 hb.2,Dc _⟩
theorem J4 {pc cause:Int} (hpc:0≤pc∧pc≤4294967295) (hc:1≤cause∧cause≤6):(Bv pc cause).Wf:=by
 have z:(0:Int)≤0∧(0:Int)≤4294967295:=by omega
 exact⟨hpc,hpc,⟨by show(0:Int)≤0;omega,by show(0:Int)≤31;omega⟩,z,z,Or.inl rfl,z,z,Or.inl ⟨rfl,hc⟩⟩
theorem Air {w:Int} (many:Int) (h:0≤w∧w≤4294967295):0≤Q8 w many∧Q8 w many≤4294967295:=by
 unfold Q8
 (repeat' split)<;>omega
theorem Yt (op:Int):Fl op=0∨Fl op=1∨Fl op=2∨Fl op=4:=by
 unfold Fl
 (repeat' split)<;>omega
theorem Y2 {i:Ins} {h:Ap} {m:List Int} (hi:0≤i.rd∧i.rd≤31) (hh:h.Wf) (hm:Bytes m):(Ck i h m).Wf:=by
 have z:(0:Int)≤0∧(0:Int)≤4294967295:=by omega
 have z0:(0:Int)≤0∧(0:Int)≤31:=by omega
 have hpc:0≤h.pc∧h.pc≤4294967295:=⟨hh.pc0,hh.pc1⟩
 have hrd:0≤(if Bf i=true then i.rd else 0)∧(if Bf i=true then i.rd else 0)≤31:=by split<;>omega
 have hv:∀ x:Int,0≤x∧x≤4294967295→0≤(if Bf i=true then x else 0)∧(if Bf i=true then x else 0)≤4294967295:=fun x hx=>by split<;>omega
 unfold Ck
 dsimp only
 refine Bs (fun _=>Bs (fun _=>?_) fun _=>J4 hpc (by omega)) fun _=>?_
 ·exact⟨hpc,Dc _,hrd,hv _ (T3 hm _ _),z,Or.inl rfl,z,z,Or.inr ⟨Or.inl rfl,rfl⟩⟩
 refine Bs (fun _=>Bs (fun _=>?_) fun _=>J4 hpc (by omega)) fun _=>?_
 ·exact⟨hpc,Dc _,z0,z,Dc _,Yt _,Air _ (hh.reg _),z,Or.inr ⟨Or.inl rfl,rfl⟩⟩
 refine Bs (fun _=>J4 hpc (by omega)) fun _=>?_
 refine Bs (fun _=>Bs (fun _=>?_) fun _=>Bs (fun _=>?_) fun _=>J4 hpc (by omega)) fun _=>?_
 ·exact⟨hpc,hpc,z0,z,z,Or.inl rfl,z,z,Or.inr ⟨Or.inr rfl,rfl⟩⟩
 ·exact⟨hpc,Dc _,z0,z,z,Or.inl rfl,z,hh.reg _,Or.inr ⟨Or.inl rfl,rfl⟩⟩
 refine Bs (fun _=>?_) fun _=>?_
 ·exact⟨hpc,Dc _,z0,z,z,Or.inl rfl,z,z,Or.inr ⟨Or.inl rfl,rfl⟩⟩
 ·obtain⟨h1,h2⟩:=Acf i (pc:=h.pc) (hh.reg i.rs1) (hh.reg i.rs2)
  exact⟨hpc,h2,hrd,hv _ h1,z,Or.inl rfl,z,z,Or.inr ⟨Or.inl rfl,rfl⟩⟩
theorem Nu {m:List Int} {pc:Int} (h:(Dp m pc).2=0):IsP (Dp m pc).1=true∧(Di m 13 pc).2=true∧Oe (Di m 13 pc).1=some (Dp m pc).1:=by
 unfold Dp at h ⊢
 split at h
 ·rename_i hl
  rw [if_pos hl]
  cases hd:Oe (Di m 13 pc).1 with
  |none=>rw [hd] at h;cases h
  |some i=>exact⟨Abi hd,hl,rfl⟩
 ·cases h
theorem P6 (m:List Int) (pc:Int):(Dp m pc).2=0∨(Dp m pc).2=1∨(Dp m pc).2=2:=by
 unfold Dp
 split
 ·split
  ·exact Or.inl rfl
  ·exact Or.inr (Or.inr rfl)
 ·exact Or.inr (Or.inl rfl)
theorem Pw {h:Ap} {m:List Int} (hh:h.Wf) (hm:Bytes m):(Kr h m).Wf:=by
 unfold Kr
 split
 ·rename_i hf
  exact Y2 (H6 (Nu hf).1).2.1 hh hm
 ·rename_i hf
  have:=P6 m h.pc
  exact J4 ⟨hh.pc0,hh.pc1⟩ (by omega)
theorem Nn {c:Com} {h:Ap} (hc:c.Wf) (hh:h.Wf):(Cx c h).Wf:=by
 refine⟨?_,?_,hc.next.1,hc.next.2⟩
 ·unfold Cx
  split
  ·simp [hh.len]
  ·exact hh.len
 ·unfold Cx
  split
  ·intro x hx
   rcases List.mem_or_eq_of_mem_set hx with hx | rfl
   ·exact hh.word x hx
   ·exact hc.value
  ·exact hh.word
theorem S1 {c:Com} {h:Ap} (hc:c.Wf) (hm:Im h=true):Im (Cx c h)=true:=by
 have h0:h.reg 0=0:=by unfold Im at hm;simp at hm;exact hm.1
 have hr:(Cx c h).reg 0=0:=by
  unfold Cx Ap.reg
  split
  ·rename_i hp
   simp only [List.getD]
   rw [List.getElem?_set_ne (by have:=hc.rd;simp;omega)]
   exact h0
  ·exact h0
 have hs:=hc.state
 unfold Im
 rw [hr]
 show(decide ((0:Int)=0)&&((decide (c.state=2)&&decide (1≤c.cause)&&decide (c.cause≤6)) || ((decide (c.state=0) || decide (c.state=1))&&decide (c.cause=0))))=true
 simp
 omega
theorem Z9 (m:List Int) (many:Int) (n:Nat) (d:Int):(Vm m many n d).length=m.length:=by
 unfold Vm Acd Z8 Xx
 (repeat' split)<;>simp
theorem Iy (c:Com) (m:List Int):(C9 c m).length=m.length:=Z9 _ _ _ _
theorem Bytes.set {m:List Int} (hm:Bytes m) (n:Nat) (x:Int):Bytes (m.set n (x%256)):=by
 intro b hb
 rcases List.mem_or_eq_of_mem_set hb with hb | rfl
 ·exact hm b hb
 ·omega
theorem Ace {m:List Int} (hm:Bytes m) (many:Int) (n:Nat) (d:Int):Bytes (Vm m many n d):=by
 unfold Vm Acd Z8 Xx
 split
 ·exact hm.set _ _
 split
 ·exact(hm.set _ _).set _ _
 split
 ·exact(((hm.set _ _).set _ _).set _ _).set _ _
 ·exact hm
theorem Pq {c:Com} {m:List Int} (hm:Bytes m):Bytes (C9 c m):=Ace hm _ _ _
def Com.Fits (c:Com) (len:Nat):Prop:=c.many=0∨c.at_+c.many≤len
theorem Abj (i:Ins) (h:Ap) (m:List Int):(Ck i h m).Fits m.length:=by
 unfold Ck
 dsimp only
 refine Bs (P:=fun c:Com=>c.Fits m.length) (fun _=>Bs (P:=fun c:Com=>c.Fits m.length) (fun _=>Or.inl rfl) fun _=>Or.inl rfl) fun _=>?_
 refine Bs (P:=fun c:Com=>c.Fits m.length) (fun _=>Bs (P:=fun c:Com=>c.Fits m.length) (fun ht=>?_) fun _=>Or.inl rfl) fun _=>?_
 ·unfold Cv at ht
  simp at ht
  exact Or.inr (by show u32 _+Fl _≤_;omega)
 refine Bs (P:=fun c:Com=>c.Fits m.length) (fun _=>Or.inl rfl) fun _=>?_
 refine Bs (P:=fun c:Com=>c.Fits m.length) (fun _=>Bs (P:=fun c:Com=>c.Fits m.length) (fun _=>Or.inl rfl) fun _=>Bs (P:=fun c:Com=>c.Fits m.length) (fun _=>Or.inl rfl) fun _=>Or.inl rfl) fun _=>?_
 exact Bs (P:=fun c:Com=>c.Fits m.length) (fun _=>Or.inl rfl) fun _=>Or.inl rfl
theorem Q0 (h:Ap) (m:List Int):(Kr h m).Fits m.length:=by
 unfold Kr
 split
 ·exact Abj _ _ _
 ·exact Or.inl rfl
def C4:Nat→Ap→List Int→List Com×Ap×List Int
 |0,h,m=>([],h,m)
 |n+1,h,m=>if h.state=0 then (Kr h m::(C4 n (goH h m) (goM h m)).1,(C4 n (goH h m) (goM h m)).2) else ([],h,m)
theorem Lj {h:Ap} (hs:h.state≠0) (m:List Int):∀ n,C4 n h m=([],h,m)
 |0=>rfl
 |n+1=>by unfold C4;rw [if_neg hs]
theorem Gm {h:Ap} (hs:h.state=0) (m:List Int) (n:Nat):C4 (n+1) h m=(Kr h m::(C4 n (goH h m) (goM h m)).1,(C4 n (goH h m) (goM h m)).2):=by
 conv=>lhs;unfold C4
 rw [if_pos hs]
theorem Aaf (a b:Nat):∀ (h:Ap) (m:List Int),C4 (a+b) h m=((C4 a h m).1++(C4 b (C4 a h m).2.1 (C4 a h m).2.2).1,(C4 b (C4 a h m).2.1 (C4 a h m).2.2).2):=by
 induction a with
 |zero=>intro h m;simp [C4]
 |succ a ih=>
  intro h m
  rw [show a+1+b=(a+b)+1 by omega]
  by_cases hs:h.state=0
  ·rw [Gm hs,Gm hs,ih]
   rfl
  ·rw [Lj hs,Lj hs,Lj hs]
   rfl
structure Rl (h:Ap) (m:List Int):Prop where
 hart:h.Wf
 may:Im h=true
 bytes:Bytes m
theorem Rl.next {h:Ap} {m:List Int} (k:Rl h m):Rl (goH h m) (goM h m):=
 ⟨Nn (Pw k.hart k.bytes) k.hart,S1 (Pw k.hart k.bytes) k.may,Pq k.bytes⟩
theorem Abs (h:Ap) (m:List Int):(goM h m).length=m.length:=Iy _ _
theorem Ss:∀ (n:Nat) {h:Ap} {m:List Int},Rl h m→Rl (C4 n h m).2.1 (C4 n h m).2.2∧(C4 n h m).2.2.length=m.length∧(∀ c∈(C4 n h m).1,c.Wf∧c.Fits m.length)∧(C4 n h m).1.length≤n∧((C4 n h m).1.length=n∨(C4 n h m).2.1.state≠0)
 |0,_,_,k=>⟨k,rfl,fun c hc=>(by cases hc),Nat.le_refl _,Or.inl rfl⟩
 |n+1,h,m,k=>by
  by_cases hs:h.state=0
  ·rw [Gm hs]
   obtain⟨h1,h2,h3,h4,h5⟩:=Ss n k.next
   rw [Abs] at h2 h3
   refine⟨h1,h2,fun c hc=>?_,by simpa using h4,by simpa using h5⟩
   rcases List.mem_cons.1 hc with rfl | hc
   ·exact⟨Pw k.hart k.bytes,Q0 _ _⟩
   ·exact h3 c hc
  ·rw [Lj hs]
   exact⟨k,rfl,fun c hc=>(by cases hc),Nat.zero_le _,Or.inr hs⟩
end Go.Proofs.YtapgojgcmlnbgaaGreatDoor
namespace Go.Proofs.YtapgojgcmlnbgaaGreatDoor
open Go Go.Lib
structure Plr where
 hart:Ap
 mem:List Int
 window:Int
 phys:Int
 wide:Int
 choices:List Int
def Ra:Plr:=⟨⟨List.replicate 32 0,0,0,0⟩,[],8,64,2,[]⟩
def D9 (w:List UInt8) (l:List Int):List UInt8:=l.foldl (fun s n=>s++32::decDigits n.toNat) w
theorem R9 (w:List UInt8) (a b:List Int):D9 (D9 w a) b=D9 w (a++b):=by
 unfold D9
 rw [List.foldl_append]
theorem Uo (x:List UInt8):∀ (l:List Int) (w:List UInt8),D9 (x++w) l=x++D9 w l
 |[],_=>rfl
 |n::l,w=>by
  have h:=Uo x l (w++32::decDigits n.toNat)
  rw [←List.append_assoc] at h
  exact h
def okB:List UInt8:=[111,107]
def I3:List UInt8:=[63]
def Ad0:List UInt8:=[98,97,100]
def isB:List UInt8:=[105,115]
def noB:List UInt8:=[110,111]
def Iu:List UInt8:=[119,111,114,100,115]
def pcB:List UInt8:=[112,99]
def Mz:List UInt8:=[115,101,116]
def Jv:List UInt8:=[99,111,114,101]
def Gg:List UInt8:=[99,104,111,111,115,101]
def G8:List UInt8:=[109,111,100,101,108]
def Pe:List UInt8:=[114,117,110]
def J8:List UInt8:=[119,104,97,116]
def Qg (s:List UInt8) (l:List Com):List UInt8:=l.foldl (fun s c=>if c.out=true then s++32::decDigits c.told.toNat else s) s
def Kp (l:List Com) (h:Ap) (e:Int):List UInt8:=
 if e≠0 then D9 Ad0 [e] else Qg (D9 (decDigits l.length) [h.state,h.cause,h.pc]) l
def Db:List (List UInt8)→Option (List Int)
 |[]=>some []
 |w::r=>match Of w with
  |none=>none
  |some u=>(Db r).map fun l=>(u:Int)::l
theorem Dg:∀ {ws:List (List UInt8)} {l:List Int},Db ws=some l→l.length=ws.length
 |[],l,h=>by simp only [Db] at h;injection h with h;subst h;rfl
 |w::r,l,h=>by
  simp only [Db] at h
  cases hn:Of w with
  |none=>rw [hn] at h;cases h
  |some u=>
   rw [hn] at h
   cases hr:Db r with
   |none=>rw [hr] at h;cases h
   |some k=>
    rw [hr] at h
    injection h with h
    subst h
    simp [Dg hr]
theorem D7:∀ {ws:List (List UInt8)} {l:List Int},Db ws=some l→∀ x∈l,0≤x∧x≤4294967295
 |[],l,h,x,hx=>by simp only [Db] at h;injection h with h;subst h;cases hx
 |w::r,l,h,x,hx=>by
  simp only [Db] at h
  cases hn:Of w with
  |none=>rw [hn] at h;cases h
  |some u=>
   rw [hn] at h
   cases hr:Db r with
   |none=>rw [hr] at h;cases h
   |some k=>
    rw [hr] at h
    injection h with h
    subst h
    rcases List.mem_cons.1 hx with rfl | hx
    ·have:=(Z0.1 hn).1;omega
    ·exact D7 hr x hx
def Cq (w:Int):List Int:=[w%256,w / 256%256,w / 65536%256,w / 16777216%256]
theorem Aea {w:Int}:Bytes (Cq w):=by
 intro b hb
 unfold Cq at hb
 simp at hb
 rcases hb with rfl | rfl | rfl | rfl<;>omega
section
variable (M R:Plr→Int→List Com×Ap×Int) (D:Int→Option (List Int)) (may:Int→Int→Int→Bool)
def Mt (w:Int):List UInt8:=match D w with
 |none=>noB
 |some l=>D9 isB l
def H7 (p:Plr) (s:List UInt8):Plr×List UInt8:=
 match Db (Au 32 s).tail with
 |none=>(p,I3)
 |some l=>
  let k:=(Au 32 s).headD []
  if k=Iu then if 4096<p.mem.length+4*l.length then (p,I3) else ({ p with mem:=p.mem++l.flatMap Cq },D9 okB [((p.mem++l.flatMap Cq).length:Nat)])
  else if k=pcB∧l.length=1 then ({ p with hart:={ p.hart with pc:=l.getD 0 0 } },okB)
  else if k=Mz∧l.length=2∧1≤l.getD 0 0∧l.getD 0 0≤31 then ({ p with hart:={ p.hart with regs:=p.hart.regs.set (l.getD 0 0).toNat (l.getD 1 0) } },okB)
  else if k=Jv∧l.length=3 then if may (l.getD 0 0) (l.getD 1 0) (l.getD 2 0)=true then ({ p with window:=l.getD 0 0,phys:=l.getD 1 0,wide:=l.getD 2 0 },okB) else (p,I3)
  else if k=Gg then ({ p with choices:=l },D9 okB [(l.length:Nat)])
  else if k=G8∧l.length=1 then (p,Kp (M p (l.getD 0 0)).1 (M p (l.getD 0 0)).2.1 (M p (l.getD 0 0)).2.2)
  else if k=Pe∧l.length=1 then (p,Kp (R p (l.getD 0 0)).1 (R p (l.getD 0 0)).2.1 (R p (l.getD 0 0)).2.2)
  else if k=J8∧l.length=1 then (p,Mt D (l.getD 0 0))
  else (p,I3)
def H8:Plr→List (List UInt8)→List UInt8
 |_,[]=>[]
 |p,s::r=>(H7 M R D may p s).2++10::H8 (H7 M R D may p s).1 r
def Ajt:Plr→List (List UInt8)→Plr
 |p,[]=>p
 |p,s::r=>Ajt (H7 M R D may p s).1 r
theorem Ot:∀ (p:Plr) (a b:List (List UInt8)),H8 M R D may p (a++b)=H8 M R D may p a++H8 M R D may (Ajt M R D may p a) b
 |p,[],b=>rfl
 |p,s::a,b=>by
  rw [List.cons_append]
  simp only [H8,Ajt]
  rw [Ot _ a b]
  simp
def Me (s:List UInt8):List (List UInt8):=(if (Au 10 s).getLastD []=[] then (Au 10 s).dropLast else Au 10 s).take 40
def Ov (s:List UInt8):List UInt8:=H8 M R D may Ra (Me s)
theorem X5 (a b:List UInt8):∃ r,Me (a++[10]++b)=Me (a++[10])++r:=by
 unfold Me
 have e1:Au 10 (a++[10])=Au 10 a++[[]]:=Ky 10 a []
 have e2:Au 10 (a++[10]++b)=Au 10 a++Au 10 b:=by
  rw [List.append_assoc]
  exact Ky 10 a b
 rw [e1,e2]
 have e3:(if (Au 10 a++[[]]).getLastD []=[] then (Au 10 a++[[]]).dropLast else Au 10 a++[[]])=Au 10 a:=by rw [if_pos (by simp),List.dropLast_concat]
 rw [e3]
 obtain⟨X,hX⟩:∃ X,(if (Au 10 a++Au 10 b).getLastD []=[] then (Au 10 a++Au 10 b).dropLast else Au 10 a++Au 10 b)=Au 10 a++X:=by
  split
  ·exact⟨(Au 10 b).dropLast,List.dropLast_append_of_ne_nil (Jp 10 b)⟩
  ·exact⟨_,rfl⟩
 rw [hX]
 exact⟨X.take (40 - (Au 10 a).length),List.take_append⟩
theorem Ab8 (a b:List UInt8):∃ r,Ov M R D may (a++[10]++b)=Ov M R D may (a++[10])++r:=by
 obtain⟨r,hr⟩:=X5 a b
 unfold Ov
 rw [hr,Ot]
 exact⟨_,rfl⟩
theorem Ahi:Ov M R D may [63]=[63,10]:=by
 have e:Me [63]=[[63]]:=by decide
 unfold Ov
 rw [e]
 simp only [H8]
 have:(H7 M R D may Ra [63]).2=[63]:=by
  unfold H7
  have e1:Au 32 [63]=[[63]]:=by decide
  rw [e1]
  simp only [List.tail_cons,Db,List.headD_cons]
  simp [Iu,pcB,Mz,Jv,Gg,G8,Pe,J8,I3]
 rw [this]
 rfl
end
end Go.Proofs.YtapgojgcmlnbgaaGreatDoor
namespace Go.Proofs.YtapgojgcmlnbgaaGreatDoor
open Go.Shelf
def Ku:Go.Shelf.Ren:=⟨fun | 146=>15 | 221=>26 | 268=>44 | 138=>45 | 143=>46 | 195=>78 | 197=>79 | 218=>80 | 219=>81 | 260=>112 | 217=>113 | 225=>114 | 224=>115 | 267=>116 | 266=>143 | 314=>144 | n=>n,fun | 9=>9 | 31=>22 | 3=>3 | 4=>4 | 0=>0 | 105=>156 | 21=>21 | 5=>5 | 46=>113 | 119=>214 | 139=>217 | 138=>216 | 146=>130 | 51=>27 | n=>n,fun | 1=>0 | 3=>1 | 4=>2 | n=>n⟩
theorem Wj:Go.Proofs.LaysM.n146 Tryz.prog Ku where
 mixed:=by kernel_rfl
 f138:=Tryz.func45.trans (congrArg some (by kernel_rfl))
 f143:=Tryz.func46.trans (congrArg some (by kernel_rfl))
 f146:=Tryz.func15.trans (congrArg some (by kernel_rfl))
 f195:=Tryz.func78.trans (congrArg some (by kernel_rfl))
 f197:=Tryz.func79.trans (congrArg some (by kernel_rfl))
 f217:=Tryz.func113.trans (congrArg some (by kernel_rfl))
 f218:=Tryz.func80.trans (congrArg some (by kernel_rfl))
 f219:=Tryz.func81.trans (congrArg some (by kernel_rfl))
 f221:=Tryz.func26.trans (congrArg some (by kernel_rfl))
 f224:=Tryz.func115.trans (congrArg some (by kernel_rfl))
 f225:=Tryz.func114.trans (congrArg some (by kernel_rfl))
 f260:=Tryz.func112.trans (congrArg some (by kernel_rfl))
 f266:=Tryz.func143.trans (congrArg some (by kernel_rfl))
 f267:=Tryz.func116.trans (congrArg some (by kernel_rfl))
 f268:=Tryz.func44.trans (congrArg some (by kernel_rfl))
 f314:=Tryz.func144.trans (congrArg some (by kernel_rfl))
 t0:=Tryz.underlying0
 a0:=Tryz.isAgg0
 z0:=Tryz.sizeOf0
 v0:=Tryz.zeroValue0
 t3:=Tryz.underlying3
 a3:=Tryz.isAgg3
 z3:=Tryz.sizeOf3
 v3:=Tryz.zeroValue3
 t4:=Tryz.underlying4
 a4:=Tryz.isAgg4
 z4:=Tryz.sizeOf4
 v4:=Tryz.zeroValue4
 t5:=Tryz.underlying5
 a5:=Tryz.isAgg5
 z5:=Tryz.sizeOf5
 v5:=Tryz.zeroValue5
 t9:=Tryz.underlying9
 a9:=Tryz.isAgg9
 z9:=Tryz.sizeOf9
 v9:=Tryz.zeroValue9
 t21:=Tryz.underlying21
 a21:=Tryz.isAgg21
 z21:=Tryz.sizeOf21
 v21:=Tryz.zeroValue21
 t31:=Tryz.underlying22
 a31:=Tryz.isAgg22
 z31:=Tryz.sizeOf22
 v31:=Tryz.zeroValue22
 t46:=Tryz.underlying113
 a46:=Tryz.isAgg113
 z46:=Tryz.sizeOf113
 v46:=Tryz.zeroValue113
 t51:=Tryz.underlying27
 a51:=Tryz.isAgg27
 z51:=Tryz.sizeOf27
 v51:=Tryz.zeroValue27
 t105:=Tryz.underlying156
 a105:=Tryz.isAgg156
 z105:=Tryz.sizeOf156
 v105:=Tryz.zeroValue156
 t119:=Tryz.underlying214
 a119:=Tryz.isAgg214
 z119:=Tryz.sizeOf214
 t138:=Tryz.underlying216
 a138:=Tryz.isAgg216
 z138:=Tryz.sizeOf216
 v138:=Tryz.zeroValue216
 t139:=Tryz.underlying217
 a139:=Tryz.isAgg217
 z139:=Tryz.sizeOf217
 v139:=Tryz.zeroValue217
 t146:=Tryz.underlying130
 a146:=Tryz.isAgg130
 z146:=Tryz.sizeOf130
 v146:=Tryz.zeroValue130
 g1:=by kernel_rfl
 g3:=by kernel_rfl
 g4:=by kernel_rfl
 i0:=by kernel_rfl
 i3:=by kernel_rfl
 i4:=by kernel_rfl
 i5:=by kernel_rfl
 i9:=by kernel_rfl
 i21:=by kernel_rfl
 i31:=by kernel_rfl
 i46:=by kernel_rfl
 i51:=by kernel_rfl
 i105:=by kernel_rfl
 i138:=by kernel_rfl
 i139:=by kernel_rfl
 i146:=by kernel_rfl
 m1:=by kernel_rfl
 s1_3:=fun w h=>Go.Proofs.cell_of_shapedOpen_int (zero:=#[.int .i64 0]) (t:=3) h (of_decide_eq_true (by kernel_rfl)) (by kernel_rfl) rfl (by kernel_rfl) (by kernel_rfl) Tryz.underlying3
 m3:=by kernel_rfl
 m4:=by kernel_rfl
def Xp:Go.Shelf.Ren:=⟨fun | 101=>50 | 208=>85 | 206=>127 | n=>n,fun | 9=>9 | 4=>4 | 3=>3 | n=>n,fun | n=>n⟩
theorem Agz:Go.Proofs.Lays.n101 Tryz.prog Xp where
 mixed:=by kernel_rfl
 f101:=Tryz.func50.trans (congrArg some (by kernel_rfl))
 f206:=Tryz.func127.trans (congrArg some (by kernel_rfl))
 f208:=Tryz.func85.trans (congrArg some (by kernel_rfl))
 t3:=Tryz.underlying3
 a3:=Tryz.isAgg3
 z3:=Tryz.sizeOf3
 v3:=Tryz.zeroValue3
 t4:=Tryz.underlying4
 a4:=Tryz.isAgg4
 z4:=Tryz.sizeOf4
 v4:=Tryz.zeroValue4
 t9:=Tryz.underlying9
 a9:=Tryz.isAgg9
 z9:=Tryz.sizeOf9
 v9:=Tryz.zeroValue9
def Zp:Go.Shelf.Ren:=⟨fun | 246=>158 | 283=>123 | 284=>124 | 285=>125 | 286=>126 | 129=>149 | 317=>148 | 318=>150 | 319=>151 | 320=>152 | 337=>156 | 338=>157 | n=>n,fun | 2=>2 | 3=>3 | 9=>9 | 4=>4 | 171=>193 | 0=>0 | 53=>117 | 37=>31 | 5=>5 | 173=>196 | 212=>223 | 51=>27 | 20=>20 | 213=>224 | 46=>113 | 232=>236 | 233=>237 | n=>n,fun | 17=>5 | 18=>6 | 19=>7 | n=>n⟩
theorem Xo:Go.Proofs.LaysM.n246 Tryz.prog Zp where
 mixed:=by kernel_rfl
 f129:=Tryz.func149.trans (congrArg some (by kernel_rfl))
 f246:=Tryz.func158.trans (congrArg some (by kernel_rfl))
 f283:=Tryz.func123.trans (congrArg some (by kernel_rfl))
 f284:=Tryz.func124.trans (congrArg some (by kernel_rfl))
 f285:=Tryz.func125.trans (congrArg some (by kernel_rfl))
 f286:=Tryz.func126.trans (congrArg some (by kernel_rfl))
 f317:=Tryz.func148.trans (congrArg some (by kernel_rfl))
 f318:=Tryz.func150.trans (congrArg some (by kernel_rfl))
 f319:=Tryz.func151.trans (congrArg some (by kernel_rfl))
 f320:=Tryz.func152.trans (congrArg some (by kernel_rfl))
 f337:=Tryz.func156.trans (congrArg some (by kernel_rfl))
 f338:=Tryz.func157.trans (congrArg some (by kernel_rfl))
 t0:=Tryz.underlying0
 a0:=Tryz.isAgg0
 z0:=Tryz.sizeOf0
 v0:=Tryz.zeroValue0
 t2:=Tryz.underlying2
 a2:=Tryz.isAgg2
 z2:=Tryz.sizeOf2
 v2:=Tryz.zeroValue2
 t3:=Tryz.underlying3
 a3:=Tryz.isAgg3
 z3:=Tryz.sizeOf3
 v3:=Tryz.zeroValue3
 t4:=Tryz.underlying4
 a4:=Tryz.isAgg4
 z4:=Tryz.sizeOf4
 v4:=Tryz.zeroValue4
 t5:=Tryz.underlying5
 a5:=Tryz.isAgg5
 z5:=Tryz.sizeOf5
 v5:=Tryz.zeroValue5
 t9:=Tryz.underlying9
 a9:=Tryz.isAgg9
 z9:=Tryz.sizeOf9
 v9:=Tryz.zeroValue9
 t20:=Tryz.underlying20
 a20:=Tryz.isAgg20
 z20:=Tryz.sizeOf20
 v20:=Tryz.zeroValue20
 t37:=Tryz.underlying31
 a37:=Tryz.isAgg31
 z37:=Tryz.sizeOf31
 v37:=Tryz.zeroValue31
 t46:=Tryz.underlying113
 a46:=Tryz.isAgg113
 z46:=Tryz.sizeOf113
 v46:=Tryz.zeroValue113
 t51:=Tryz.underlying27
 a51:=Tryz.isAgg27
 z51:=Tryz.sizeOf27
 v51:=Tryz.zeroValue27
 t53:=Tryz.underlying117
 a53:=Tryz.isAgg117
 z53:=Tryz.sizeOf117
 v53:=Tryz.zeroValue117
 t171:=Tryz.underlying193
 a171:=Tryz.isAgg193
 z171:=Tryz.sizeOf193
 v171:=Tryz.zeroValue193
 t173:=Tryz.underlying196
 a173:=Tryz.isAgg196
 z173:=Tryz.sizeOf196
 v173:=Tryz.zeroValue196
 t212:=Tryz.underlying223
 a212:=Tryz.isAgg223
 z212:=Tryz.sizeOf223
 v212:=Tryz.zeroValue223
 t213:=Tryz.underlying224
 a213:=Tryz.isAgg224
 z213:=Tryz.sizeOf224
 t232:=Tryz.underlying236
 a232:=Tryz.isAgg236
 z232:=Tryz.sizeOf236
 v232:=Tryz.zeroValue236
 t233:=Tryz.underlying237
 a233:=Tryz.isAgg237
 z233:=Tryz.sizeOf237
 v233:=Tryz.zeroValue237
 g17:=by kernel_rfl
 g18:=by kernel_rfl
 g19:=by kernel_rfl
 i0:=by kernel_rfl
 i2:=by kernel_rfl
 i3:=by kernel_rfl
 i4:=by kernel_rfl
 i5:=by kernel_rfl
 i9:=by kernel_rfl
 i20:=by kernel_rfl
 i37:=by kernel_rfl
 i46:=by kernel_rfl
 i51:=by kernel_rfl
 i53:=by kernel_rfl
 i171:=by kernel_rfl
 i173:=by kernel_rfl
 i212:=by kernel_rfl
 i232:=by kernel_rfl
 i233:=by kernel_rfl
 m17:=by kernel_rfl
 m18:=by kernel_rfl
 m19:=by kernel_rfl
def Jx:Go.Shelf.Ren:=⟨fun | 14=>47 | 16=>82 | 17=>83 | 19=>117 | 20=>118 | 21=>119 | 22=>120 | 23=>121 | 24=>122 | 25=>145 | 27=>147 | 26=>146 | 28=>155 | 29=>158 | 30=>123 | 31=>124 | 32=>125 | 33=>126 | 35=>149 | 34=>148 | 36=>150 | 37=>151 | 38=>152 | 39=>156 | 40=>157 | n=>n,fun | 9=>9 | 3=>3 | 22=>117 | 24=>119 | 25=>120 | 4=>4 | 34=>187 | 5=>5 | 36=>113 | 37=>31 | 0=>0 | 39=>189 | 21=>21 | 44=>220 | 47=>230 | 50=>233 | 48=>231 | 2=>2 | 52=>193 | 55=>196 | 59=>223 | 60=>27 | 20=>20 | 61=>224 | 65=>236 | 66=>237 | 67=>238 | n=>n,fun | 0=>3 | 1=>4 | 2=>5 | 3=>6 | 4=>7 | n=>n⟩
theorem Ab0:Go.Proofs.LaysPu.n14 Tryz.prog Jx where
 mixed:=by kernel_rfl
 f14:=Tryz.func47.trans (congrArg some (by kernel_rfl))
 f16:=Tryz.func82.trans (congrArg some (by kernel_rfl))
 f17:=Tryz.func83.trans (congrArg some (by kernel_rfl))
 f19:=Tryz.func117.trans (congrArg some (by kernel_rfl))
 f20:=Tryz.func118.trans (congrArg some (by kernel_rfl))
 f21:=Tryz.func119.trans (congrArg some (by kernel_rfl))
 f22:=Tryz.func120.trans (congrArg some (by kernel_rfl))
 f23:=Tryz.func121.trans (congrArg some (by kernel_rfl))
 f24:=Tryz.func122.trans (congrArg some (by kernel_rfl))
 f25:=Tryz.func145.trans (congrArg some (by kernel_rfl))
 f26:=Tryz.func146.trans (congrArg some (by kernel_rfl))
 f27:=Tryz.func147.trans (congrArg some (by kernel_rfl))
 f28:=Tryz.func155.trans (congrArg some (by kernel_rfl))
 f29:=Tryz.func158.trans (congrArg some (by kernel_rfl))
 f30:=Tryz.func123.trans (congrArg some (by kernel_rfl))
 f31:=Tryz.func124.trans (congrArg some (by kernel_rfl))
 f32:=Tryz.func125.trans (congrArg some (by kernel_rfl))
 f33:=Tryz.func126.trans (congrArg some (by kernel_rfl))
 f34:=Tryz.func148.trans (congrArg some (by kernel_rfl))
 f35:=Tryz.func149.trans (congrArg some (by kernel_rfl))
 f36:=Tryz.func150.trans (congrArg some (by kernel_rfl))
 f37:=Tryz.func151.trans (congrArg some (by kernel_rfl))
 f38:=Tryz.func152.trans (congrArg some (by kernel_rfl))
 f39:=Tryz.func156.trans (congrArg some (by kernel_rfl))
 f40:=Tryz.func157.trans (congrArg some (by kernel_rfl))
 t0:=Tryz.underlying0
 a0:=Tryz.isAgg0
 z0:=Tryz.sizeOf0
 v0:=Tryz.zeroValue0
 i0:=by kernel_rfl
 t2:=Tryz.underlying2
 a2:=Tryz.isAgg2
 z2:=Tryz.sizeOf2
 v2:=Tryz.zeroValue2
 i2:=by kernel_rfl
 t3:=Tryz.underlying3
 a3:=Tryz.isAgg3
 z3:=Tryz.sizeOf3
 v3:=Tryz.zeroValue3
 i3:=by kernel_rfl
 t4:=Tryz.underlying4
 a4:=Tryz.isAgg4
 z4:=Tryz.sizeOf4
 v4:=Tryz.zeroValue4
 i4:=by kernel_rfl
 t5:=Tryz.underlying5
 a5:=Tryz.isAgg5
 z5:=Tryz.sizeOf5
 v5:=Tryz.zeroValue5
 i5:=by kernel_rfl
 t9:=Tryz.underlying9
 a9:=Tryz.isAgg9
 z9:=Tryz.sizeOf9
 v9:=Tryz.zeroValue9
 i9:=by kernel_rfl
 t20:=Tryz.underlying20
 a20:=Tryz.isAgg20
 z20:=Tryz.sizeOf20
 v20:=Tryz.zeroValue20
 i20:=by kernel_rfl
 t21:=Tryz.underlying21
 a21:=Tryz.isAgg21
 z21:=Tryz.sizeOf21
 v21:=Tryz.zeroValue21
 i21:=by kernel_rfl
 t22:=Tryz.underlying117
 a22:=Tryz.isAgg117
 z22:=Tryz.sizeOf117
 v22:=Tryz.zeroValue117
 i22:=by kernel_rfl
 t24:=Tryz.underlying119
 a24:=Tryz.isAgg119
 z24:=Tryz.sizeOf119
 v24:=Tryz.zeroValue119
 i24:=by kernel_rfl
 t25:=Tryz.underlying120
 a25:=Tryz.isAgg120
 z25:=Tryz.sizeOf120
 v25:=Tryz.zeroValue120
 i25:=by kernel_rfl
 t34:=Tryz.underlying187
 a34:=Tryz.isAgg187
 z34:=Tryz.sizeOf187
 v34:=Tryz.zeroValue187
 i34:=by kernel_rfl
 c34:=by kernel_rfl
 t36:=Tryz.underlying113
 a36:=Tryz.isAgg113
 z36:=Tryz.sizeOf113
 v36:=Tryz.zeroValue113
 i36:=by kernel_rfl
 t37:=Tryz.underlying31
 a37:=Tryz.isAgg31
 z37:=Tryz.sizeOf31
 v37:=Tryz.zeroValue31
 i37:=by kernel_rfl
 t39:=Tryz.underlying189
 a39:=Tryz.isAgg189
 z39:=Tryz.sizeOf189
 v39:=Tryz.zeroValue189
 i39:=by kernel_rfl
 t44:=Tryz.underlying220
 a44:=Tryz.isAgg220
 z44:=Tryz.sizeOf220
 v44:=Tryz.zeroValue220
 i44:=by kernel_rfl
 t47:=Tryz.underlying230
 a47:=Tryz.isAgg230
 z47:=Tryz.sizeOf230
 v47:=Tryz.zeroValue230
 i47:=by kernel_rfl
 t48:=Tryz.underlying231
 a48:=Tryz.isAgg231
 z48:=Tryz.sizeOf231
 v48:=Tryz.zeroValue231
 i48:=by kernel_rfl
 t50:=Tryz.underlying233
 a50:=Tryz.isAgg233
 z50:=Tryz.sizeOf233
 v50:=Tryz.zeroValue233
 i50:=by kernel_rfl
 t52:=Tryz.underlying193
 a52:=Tryz.isAgg193
 z52:=Tryz.sizeOf193
 v52:=Tryz.zeroValue193
 i52:=by kernel_rfl
 t55:=Tryz.underlying196
 a55:=Tryz.isAgg196
 z55:=Tryz.sizeOf196
 v55:=Tryz.zeroValue196
 i55:=by kernel_rfl
 t59:=Tryz.underlying223
 a59:=Tryz.isAgg223
 z59:=Tryz.sizeOf223
 v59:=Tryz.zeroValue223
 i59:=by kernel_rfl
 t60:=Tryz.underlying27
 a60:=Tryz.isAgg27
 z60:=Tryz.sizeOf27
 v60:=Tryz.zeroValue27
 i60:=by kernel_rfl
 t61:=Tryz.underlying224
 a61:=Tryz.isAgg224
 z61:=Tryz.sizeOf224
 t65:=Tryz.underlying236
 a65:=Tryz.isAgg236
 z65:=Tryz.sizeOf236
 v65:=Tryz.zeroValue236
 i65:=by kernel_rfl
 t66:=Tryz.underlying237
 a66:=Tryz.isAgg237
 z66:=Tryz.sizeOf237
 v66:=Tryz.zeroValue237
 i66:=by kernel_rfl
 t67:=Tryz.underlying238
 a67:=Tryz.isAgg238
 z67:=Tryz.sizeOf238
 v67:=Tryz.zeroValue238
 i67:=by kernel_rfl
 g0:=by kernel_rfl
 m0:=by kernel_rfl
 g1:=by kernel_rfl
 m1:=by kernel_rfl
 g2:=by kernel_rfl
 m2:=by kernel_rfl
 g3:=by kernel_rfl
 m3:=by kernel_rfl
 g4:=by kernel_rfl
 m4:=by kernel_rfl
end Go.Proofs.YtapgojgcmlnbgaaGreatDoor
namespace Go.Proofs.YtapgojgcmlnbgaaGreatDoor
open Go Go.Lib Go.RowKit Go.Shelf
structure F5 (B:Nat) (w:World):Prop where
 tab : ∀ w', Below B w w' → TabIs Tryz.prog w' "internal/strconv.uint64pow10" .u64 pow10Tab
 synt:∃ ev,w.cell? ⟨Jx.g 0,0,none⟩=some ev∧(ev = .nilIface∨∃ te pe,ev = .iface te pe)
 rng:∃ ev,w.cell? ⟨Jx.g 1,0,none⟩=some ev∧(ev = .nilIface∨∃ te pe,ev = .iface te pe)
 most:∃ m,w.cell? ⟨Ku.g 1,0,none⟩=some (.int .i64 m)
 low:8≤B
theorem F5.ext {B:Nat} {w w':World} (V:F5 B w) (hb:Below B w w'):F5 B w':=
 have lo:=V.low
 ⟨fun x hx=>V.tab x (hb.trans hx),by obtain⟨ev,h1,h2⟩:=V.synt;exact⟨ev,(hb.cell (p:=⟨Jx.g 0,0,none⟩) (Nat.lt_of_lt_of_le (by decide) lo)).trans h1,h2⟩,
  by obtain⟨ev,h1,h2⟩:=V.rng;exact⟨ev,(hb.cell (p:=⟨Jx.g 1,0,none⟩) (Nat.lt_of_lt_of_le (by decide) lo)).trans h1,h2⟩,
  by obtain⟨m,h1⟩:=V.most;exact⟨m,(hb.cell (p:=⟨Ku.g 1,0,none⟩) (Nat.lt_of_lt_of_le (by decide) lo)).trans h1⟩,lo⟩
abbrev sV (l:List UInt8):Value := .string ⟨l.toArray⟩
theorem Ex {B:Nat} (c:UInt8) (l:List UInt8) (w:World) (V:F5 B w) (hs:l.length<4294967281) :
  Calls Tryz.prog 15 #[sV l, .string ⟨#[c]⟩] w fun e w'=>e = .returned (.slice (some ⟨w.heap.size,0,none⟩) (Au c l).length (Au c l).length)∧w'=w.alloc (.cells ((Au c l).map sV).toArray 9):=by
 obtain⟨m,hm⟩:=V.most
 have h:=Any.strings_Split { Wj with } Wj.i9 ⟨l.toArray⟩ ⟨#[c]⟩ m w (by simpa [ByteArray.size] using hs) hm (Nat.le_refl 1)
 refine h.mono ?_
 rintro e w' ⟨rfl,rfl⟩
 have h1:=Aht c ⟨l.toArray⟩
 have h2:(ByteArray.mk l.toArray).data.toList=l:=by simp
 rw [h2] at h1
 have h3:countB ⟨l.toArray⟩ ⟨#[c]⟩+1=(Au c l).length:=by
  rw [K0,Vn,h2]
 have h4:(splitB ⟨#[c]⟩ 0 (countB ⟨l.toArray⟩ ⟨#[c]⟩) ⟨l.toArray⟩).map Value.string=(Au c l).map sV:=by
  rw [←h1,List.map_map]
  rfl
 rw [h3,h4]
 exact⟨rfl,rfl⟩
theorem Ahz (l:List UInt8) (w:World):Calls Tryz.prog 50 #[sV (32::l), .string ⟨#[32]⟩] w fun e w'=>e = .returned (sV l)∧w'=w:=by
 refine(Any.strings_TrimPrefix Agz ⟨(32::l).toArray⟩ ⟨#[32]⟩ w).mono ?_
 rintro e w' ⟨rfl,rfl⟩
 refine⟨?_,rfl⟩
 simp [Lib.trimPrefix,Lib.hasPrefix]
theorem Ahh (l:List UInt8) (u:Nat) (w:World) (hl:l.length≤9223372036854775806) (h:parseUintB 32 l = .ok u) :
  Calls Tryz.prog 47 #[sV l, .int .i64 10, .int .i64 32] w fun e w'=>e = .returned (.tuple #[.int .u64 u, .nilIface])∧Below w.heap.size w w':=by
 refine(Any.strconv_ParseUint_10_at32_ok Ab0 ⟨l.toArray⟩ (by simpa [ByteArray.size] using hl) u (by simpa using h) w).mono ?_
 rintro e w' ⟨rfl,h | h⟩
 ·exact⟨rfl,by rw [h];exact Below.refl _ _⟩
 ·exact⟨rfl,by rw [h];exact bytesWorld_below _ _ _⟩
theorem Ahg {B:Nat} (l:List UInt8) (w:World) (V:F5 B w) (hl:l.length≤281474976710656) (h:∀ u,parseUintB 32 l ≠ .ok u) :
  Calls Tryz.prog 47 #[sV l, .int .i64 10, .int .i64 32] w fun e w'=>∃ n t p,e = .returned (.tuple #[.int .u64 n, .iface t (.pointer (some p))])∧Below w.heap.size w w':=by
 obtain⟨e1,a1,b1⟩:=V.synt
 obtain⟨e2,a2,b2⟩:=V.rng
 cases hp:parseUintB 32 l with
 |ok u=>exact absurd hp (h u)
 |«syntax»=>
  refine(Any.strconv_ParseUint_10_at32_syntax Ab0 ⟨l.toArray⟩ (by simpa [ByteArray.size] using hl) (by simpa using hp) e1 w a1 b1).mono ?_
  rintro e w' ⟨N,rfl,_,_,hb⟩
  exact⟨_,_,_,rfl,hb⟩
 |range=>
  refine(Any.strconv_ParseUint_10_at32_range Ab0 ⟨l.toArray⟩ (by simpa [ByteArray.size] using hl) (by simpa using hp) e2 w a2 b2).mono ?_
  rintro e w' ⟨N,rfl,_,_,hb⟩
  exact⟨_,_,_,rfl,hb⟩
end Go.Proofs.YtapgojgcmlnbgaaGreatDoor
namespace Go.Proofs.YtapgojgcmlnbgaaGreatDoor
open Go Go.RowKit
def splice (cur:Array Value) (o:Nat) (vs:List Value):Array Value:=(cur.toList.take o++vs++cur.toList.drop (o+vs.length)).toArray
theorem Ht (cur:Array Value) (o:Nat) (vs:List Value) (h:o+vs.length≤cur.size):(splice cur o vs).size=cur.size:=by
 simp [splice];omega
theorem E6 (cur:Array Value) (o:Nat) (vs:List Value) (h:o+vs.length≤cur.size) (i:Nat):(splice cur o vs)[i]? = if i<o then cur[i]? else if i<o+vs.length then vs[i - o]? else cur[i]? := by
 have ht:(cur.toList.take o).length=o:=by simp;omega
 simp only [splice,List.getElem?_toArray]
 by_cases h1:i<o
 ·rw [if_pos h1,List.getElem?_append_left (by simp;omega),List.getElem?_append_left (by omega),List.getElem?_take,if_pos h1]
  simp
 ·rw [if_neg h1]
  by_cases h2:i<o+vs.length
  ·rw [if_pos h2,List.getElem?_append_left (by simp;omega),List.getElem?_append_right (by omega),ht]
  ·rw [if_neg h2,List.getElem?_append_right (by simp;omega),List.getElem?_drop]
   simp only [List.length_append,ht]
   rw [show o+vs.length+(i - (o+vs.length))=i by omega]
   simp
theorem Jk (cur:Array Value) (vs:Array Value) (h:vs.size=cur.size):splice cur 0 vs.toList=vs:=by
 apply Array.ext_getElem?
 intro i
 rw [E6 cur 0 vs.toList (by simp;omega)]
 simp
 intro hi
 rw [Array.getElem?_eq_none (by omega),Array.getElem?_eq_none (by omega)]
section
variable {P:Program} {ops:Array Oper} {rest:List Oper} {o:Oper} {a:Act} {w:World} {Q:Exit→Act→World→Prop}
theorem Ew (w:World) (g off:Nat) (t ty:TypeId) (cs:Array Value) (n:Nat) (d:TypeDesc) (hg:Blk w g t cs) (hu:P.underlying ty=some d)
  (hd:(match d with | .struct _ | .array _ _=>true | _=>false)=true) (hi:(P.info? ty).map (·.size)=some n) (hn:off+n≤cs.size) :
  (loadVar ty ⟨g,off,none⟩).run P w = .ok (.agg (cs.extract off (off+n))) w:=by
 have hsz:(cs.extract off (off+n)).size=n:=by simp;omega
 have hl:(loadCells ⟨g,off,none⟩ (cs.extract off (off+n)).toList.length).run P w = .ok (cs.extract off (off+n)).toList.toArray w:=
  run_loadCells_list (P:=P) w ⟨g,off,none⟩ (cs.extract off (off+n)).toList (fun j v hv=>by
   have hadd:(⟨g,off,none⟩:Addr).add j=⟨g,off+j,none⟩:=by unfold Addr.add;split<;>simp_all
   rw [hadd,hg.cell]
   rw [Array.getElem?_toList,Array.getElem?_extract] at hv
   split at hv
   ·exact hv
   ·cases hv)
 cases hq:P.info? ty with
 |none=>simp [hq] at hi
 |some i=>
  have hs:i.size=n:=by simpa [hq] using hi
  have hagg:(isAgg ty).run P w = .ok true w:=by
   unfold isAgg
   rw [Sem.run_bind,run_underlying hu w]
   cases d<;>simp_all
  rw [Array.length_toList,Array.toArray_toList,hsz] at hl
  simp [loadVar,Sem.run_bind,hagg,sizeOf,typeInfo,hq,hs,hl]
theorem Az {K:Act→World→Prop} (ty:TypeId) (x:Operand) (ho:o.op = .load ty x) (g off:Nat) (hx:a.eval x = .pointer (some ⟨g,off,none⟩)) (t:TypeId) (cs:Array Value) (n:Nat) (d:TypeDesc) (hg:Blk w g t cs)
  (hu:P.underlying ty=some d) (hd:(match d with | .struct _ | .array _ _=>true | _=>false)=true) (hi:(P.info? ty).map (·.size)=some n) (hn:off+n≤cs.size)
  (h:K (a.put o.dst (.agg (cs.extract off (off+n)))) w):o.wp P a w K Q:=by
 unfold Oper.wp execOp
 simp only [ho,hx,Instr.loadAt,Instr.sureAddr,Sem.run_bind,Sem.run_pure,Result.andThen_ok,Ew w g off t ty cs n d hg hu hd hi hn]
 exact h
theorem Aj (hgd:o.guard=none) (ty:TypeId) (x:Operand) (ho:o.op = .load ty x) (g off:Nat) (hx:a.eval x = .pointer (some ⟨g,off,none⟩)) (t:TypeId) (cs:Array Value) (n:Nat) (d:TypeDesc) (hg:Blk w g t cs)
  (hu:P.underlying ty=some d) (hd:(match d with | .struct _ | .array _ _=>true | _=>false)=true) (hi:(P.info? ty).map (·.size)=some n) (hn:off+n≤cs.size)
  (h:wpList P ops Q rest (a.put o.dst (.agg (cs.extract off (off+n)))) w):wpList P ops Q (o::rest) a w:=
 wpList_plain hgd fun _ hK=>Az ty x ho g off hx t cs n d hg hu hd hi hn (hK _ _ h)
theorem I0 (cs:Array Value) (n:Nat) (h:cs.size=n):cs.extract 0 (0+n)=cs:=by
 subst h
 simp
theorem Ez {K:Act→World→Prop} (ty:TypeId) (x:Operand) (ho:o.op = .load ty x) (g:Nat) (hx:a.eval x = .pointer (some ⟨g,0,none⟩)) (t:TypeId) (cs:Array Value) (d:TypeDesc) (hg:Blk w g t cs)
  (hu:P.underlying ty=some d) (hd:(match d with | .struct _ | .array _ _=>true | _=>false)=true) (hi:(P.info? ty).map (·.size)=some cs.size)
  (h:K (a.put o.dst (.agg cs)) w):o.wp P a w K Q:=
 Az ty x ho g 0 hx t cs cs.size d hg hu hd hi (by omega) (by rw [I0 cs _ rfl];exact h)
theorem Ac (hgd:o.guard=none) (ty:TypeId) (x:Operand) (ho:o.op = .load ty x) (g:Nat) (hx:a.eval x = .pointer (some ⟨g,0,none⟩)) (t:TypeId) (cs:Array Value) (d:TypeDesc) (hg:Blk w g t cs)
  (hu:P.underlying ty=some d) (hd:(match d with | .struct _ | .array _ _=>true | _=>false)=true) (hi:(P.info? ty).map (·.size)=some cs.size)
  (h:wpList P ops Q rest (a.put o.dst (.agg cs)) w):wpList P ops Q (o::rest) a w:=
 wpList_plain hgd fun _ hK=>Ez ty x ho g hx t cs d hg hu hd hi (hK _ _ h)
theorem Rh (w:World) (g off:Nat) (t ty:TypeId) (old cells:Array Value) (hg:Blk w g t old) (hi:(P.info? ty).map (·.size)=some cells.size)
  (hn:off+cells.size≤old.size) (h1:cells.all (·.oneCell')=true) :
  (storeVar ty ⟨g,off,none⟩ (.agg cells)).run P w = .ok () (w.setRow g (splice old off cells.toList)):=by
 have:=run_storeCells_at P g off t cells.toList 0 old w hg (by simp;omega) (fun v hv=>(Array.all_eq_true_iff_forall_mem.1 h1) v (by simpa using hv))
 cases hq:P.info? ty with
 |none=>simp [hq] at hi
 |some i=>
  have hs:cells.size=i.size:=by simp [hq] at hi;omega
  simpa [storeVar,sizeOf,typeInfo,hq,Value.cells,hs,splice] using this
theorem Blk.setRow {w:World} {g:Nat} {t:TypeId} {old:Array Value} (hg:Blk w g t old) (cs:Array Value):Blk (w.setRow g cs) g t cs:=setRow_heap w g old cs t (0,0) hg
theorem Gb (w:World) (g:Nat) (cs:Array Value):w.grownBy (w.setRow g cs) (some g):=
 ⟨rfl,rfl,rfl,by simp,fun i _ hne=>by
  simp only [World.setRow,Array.getElem?_modify]
  rw [if_neg (fun e=>hne (by rw [e]))]⟩
theorem Cg {K:Act→World→Prop} (ty:TypeId) (x y:Operand) (ho:o.op = .store ty x y) (g off:Nat) (cells:Array Value) (hx:a.eval x = .pointer (some ⟨g,off,none⟩)) (hy:a.eval y = .agg cells)
  (t:TypeId) (old:Array Value) (hg:Blk w g t old) (hi:(P.info? ty).map (·.size)=some cells.size) (hn:off+cells.size≤old.size) (h1:cells.all (·.oneCell')=true)
  (h:∀ w',Blk w' g t (splice old off cells.toList)→w.grownBy w' (some g)→K (a.put o.dst undef) w'):o.wp P a w K Q:=by
 unfold Oper.wp execOp
 simp only [ho,hx,hy,Instr.storeAt,Instr.sureAddr,Sem.run_bind,Sem.run_pure,Result.andThen_ok,Rh w g off t ty old cells hg hi hn h1]
 exact h _ (hg.setRow _) (Gb _ _ _)
theorem Cb (hgd:o.guard=none) (ty:TypeId) (x y:Operand) (ho:o.op = .store ty x y) (g off:Nat) (cells:Array Value) (hx:a.eval x = .pointer (some ⟨g,off,none⟩)) (hy:a.eval y = .agg cells)
  (t:TypeId) (old:Array Value) (hg:Blk w g t old) (hi:(P.info? ty).map (·.size)=some cells.size) (hn:off+cells.size≤old.size) (h1:cells.all (·.oneCell')=true)
  (h:∀ w',Blk w' g t (splice old off cells.toList)→w.grownBy w' (some g)→wpList P ops Q rest (a.put o.dst undef) w'):wpList P ops Q (o::rest) a w:=
 wpList_plain hgd fun _ hK=>Cg ty x y ho g off cells hx hy t old hg hi hn h1 fun w' h2 h3=>hK _ _ (h w' h2 h3)
theorem Ae (hgd:o.guard=none) (ty:TypeId) (x y:Operand) (ho:o.op = .store ty x y) (g:Nat) (cells:Array Value) (hx:a.eval x = .pointer (some ⟨g,0,none⟩)) (hy:a.eval y = .agg cells)
  (t:TypeId) (old:Array Value) (hg:Blk w g t old) (hi:(P.info? ty).map (·.size)=some cells.size) (hn:cells.size=old.size) (h1:cells.all (·.oneCell')=true)
  (h:∀ w',Blk w' g t cells→w.grownBy w' (some g)→wpList P ops Q rest (a.put o.dst undef) w'):wpList P ops Q (o::rest) a w:=
 Cb hgd ty x y ho g 0 cells hx hy t old hg hi (by omega) h1 fun w' h2 h3=>h w' (by rwa [Jk _ _ hn] at h2) h3
end
theorem Ao {P:Program} {ops:Array Oper} {rest:List Oper} {o:Oper} {a:Act} {w:World} {Q:Exit→Act→World→Prop} (hg:o.guard=none) (t:TypeId) (parts:Array (Nat×Operand)) (ho:o.op = .build t parts) (vals:List (Nat×Value))
  (hv:(parts.map fun(i,x)=>(i,a.eval x)).toList=vals) (cs:Array Value) (hf:P.built t vals=some cs)
  (h:wpList P ops Q rest (a.put o.dst (.agg cs)) w):wpList P ops Q (o::rest) a w:=
 wpList_build hg t parts ho (by rw [hv,hf];rfl) (by rw [hv,hf];exact h)
theorem Bn {P:Program} {fn:Func} {p:Tmp} {ty:TypeId} (h:fn.results=#[.cell p ty]) (tmps:Array Value) (w:World) (g:Nat) (t:TypeId) (cs:Array Value) (d:TypeDesc)
  (hp:tmps.getD p undef = .pointer (some ⟨g,0,none⟩)) (hg:Blk w g t cs) (hu:P.underlying ty=some d) (hd:(match d with | .struct _ | .array _ _=>true | _=>false)=true) (hi:(P.info? ty).map (·.size)=some cs.size) :
  (results fn tmps).run P w = .ok (.agg cs) w:=results_cell_row h tmps w g t cs (0,0) d hp hg hu hd hi
theorem below_grown {B:Nat} {w0 w w':World} {g:Nat} (hb:Below B w0 w) (hg:w.grownBy w' (some g)) (hw:B≤w.heap.size) (hB:B≤g):Below B w0 w':=hb.grown hg hw (fun k hk=>by cases hk;exact hB)
theorem Blk.farAt {w:World} {g:Nat} {t:TypeId} {cs:Array Value} (h:Blk w g t cs) {b off:Nat} (hp:g≠b) (u:Value):Blk (w.setCell ⟨b,off,none⟩ u) g t cs:=h.far hp u
theorem Am {B:Nat} {w0 w:World} {b off:Nat} {u:Value} (hB:B≤b) (hb:Below B w0 w):Below B w0 (w.setCell ⟨b,off,none⟩ u):=hb.setCell hB u
theorem Blk.newAt (w:World) (t:TypeId) (cs:Array Value) {g:Nat} (hg:g=w.heap.size):Blk (w.alloc (.cells cs t)) g t cs:=by subst hg;exact Blk.new w t cs
end Go.Proofs.YtapgojgcmlnbgaaGreatDoor
namespace Go.Proofs.YtapgojgcmlnbgaaGreatDoor
open Go Go.Lib Go.RowKit
theorem Kq (a b:List UInt8):Value.string (⟨a.toArray⟩++⟨b.toArray⟩)=sV (a++b):=congrArg Value.string (ByteArray.ext (by rw [ByteArray.data_append];simp))
theorem G9 (u:Nat) (h:u<9223372036854775808):nDigits u≤20:=by
 rcases Nat.eq_zero_or_pos u with rfl | h1
 ·rw [nDigits_small (by omega)];omega
 ·have:=numDigits_eq u h1 (by omega);split at this<;>omega
end Go.Proofs.YtapgojgcmlnbgaaGreatDoor
namespace Go.Proofs.YtapgojgcmlnbgaaGreatDoor
open Go Go.Lib Go.RowKit Go.Shelf Go.Sort
theorem Agu {B:Nat} (u:Nat) (hu64:u<18446744073709551616) (w:World) (V:F5 B w) (hB:B≤w.heap.size) :
  Calls Tryz.prog 84 #[.int .u64 u, .int .i64 10] w fun e w'=>e = .returned (sV (decDigits u))∧Below w.heap.size w w':=by
 by_cases hi:u<100
 ·have f1:decide ((u:Int)<100)=true:=decide_eq_true (by omega)
  go_enter Tryz.func84,Tryz.ntmps84
  go_wp2_with(go_at_call 123;refine(Any.internal_strconv_small { Xo with } u hi _).mono ?_;rintro e w' ⟨rfl,rfl⟩)
  go_ret
  exact⟨rfl,Below.refl _ _⟩
 ·have f1:decide ((u:Int)<100)=false:=decide_eq_false (by omega)
  have hu1:1≤u:=by omega
  have hnd20:nDigits u≤20:=by have:=numDigits_eq u hu1 hu64;split at this<;>omega
  have htab:=V.tab _ ((Below.refl B w).alloc hB (.cells zeros24 193))
  have hal:Tryz.prog.arrayLen 193=24:=by simp [Program.arrayLen,Tryz.underlying193]
  have hsl:∀ W,(Instr.sliceAt 193 (.pointer (some ⟨w.heap.size,0,none⟩)) none (some (.int .i64 (nDigits u:Int))) none).run Tryz.prog W = .ok (.slice (some ⟨w.heap.size,0,none⟩) (nDigits u) 24) W:=fun W=>by
   rw [run_sliceAt_array_h W 193 ⟨w.heap.size,0,none⟩ (by simp [Program.arrayLen,Program.elem,Tryz.underlying193]) .i64 (nDigits u:Int) (by omega) (by rw [hal];omega)]
   go_simp
  have hH0:Holds (fun(b:UInt8)=>Value.int .u8 (b.toNat:Int)) (w.alloc (.cells zeros24 193)) w.heap.size 0 (Array.replicate (nDigits u) 0):=fun j hj=>by
   have hj':j<nDigits u:=by simpa using hj
   refine⟨?_,World.frozen?_alloc_new _ _ _ _⟩
   rw [World.cell?_alloc_new,zeros24_at _ (by omega),getElem!_pos _ j hj]
   simp
  have hfmt:=Any.internal_strconv_formatBase10 { Xo with } w.heap.size 0 24 u (Array.replicate (nDigits u) 0) (w.alloc (.cells zeros24 193)) hH0 (by rw [Array.size_replicate];exact lt_pow_nDigits u) hu64 (by rw [Array.size_replicate];omega)
  rw [Array.size_replicate] at hfmt
  have HH0:=Lib.hid hH0
  clear hH0 hal
  go_enter Tryz.func84,Tryz.ntmps84
  go_wp2_with(first
   |(go_at_call 124;refine(Any.internal_strconv_numDigits { Xo with } u hu1 hu64 _ htab).mono ?_;rintro e w' ⟨rfl,rfl⟩))
  go_at_call 125
  refine hfmt.mono ?_
  rintro e w' ⟨rfl,k,v',dk,rfl,hF⟩
  have hcv:(convert 31 9 (.slice (some ⟨w.heap.size,0,none⟩) (nDigits u) 24)).run Tryz.prog ((putRow (fun(b:UInt8)=>Value.int .u8 (b.toNat:Int)) (w.alloc (.cells zeros24 193)) w.heap.size 0 dk).drewN k) = .ok (.string ⟨(decDigits u).toArray⟩) ((putRow (fun(b:UInt8)=>Value.int .u8 (b.toNat:Int)) (w.alloc (.cells zeros24 193)) w.heap.size 0 dk).drewN k):=by
   have h:=run_convert_bytes_back (P:=Tryz.prog) ((putRow (fun(b:UInt8)=>Value.int .u8 (b.toNat:Int)) (w.alloc (.cells zeros24 193)) w.heap.size 0 dk).drewN k) 31 9 5 ⟨w.heap.size,0,none⟩ 24 (decDigits u) Tryz.underlying31 Tryz.underlying5 Tryz.underlying9 (fun j hj=>by
    rw [row_is_numeral hF j hj,add_plain,World.cell?_drewN]
    exact cell?_putRow (fun(b:UInt8)=>Value.int .u8 (b.toNat:Int)) _ w.heap.size 0 _ dk HH0.out (by rw [hF.size,Array.size_replicate]) j (by rw [hF.size];rw [decDigits_length] at hj;exact hj))
   rw [decDigits_length] at h
   exact h
  go_wp2
  go_ret
  refine⟨rfl,?_⟩
  obtain⟨os,eo⟩:=fin_at w (.cells zeros24 193) dk k 0
  rw [eo]
  exact below_grow _ w (Nat.le_refl _) k os
theorem Xh {B:Nat} (u:Nat) (hu64:u<18446744073709551616) (w:World) (V:F5 B w) (hB:B≤w.heap.size) :
  Calls Tryz.prog 48 #[.int .u64 u, .int .i64 10] w fun e w'=>e = .returned (sV (decDigits u))∧Below w.heap.size w w':=by
 go_enter Tryz.func48,Tryz.ntmps48
 go_wp2_with(go_at_call 84;refine(Agu u hu64 _ V hB).mono ?_;rintro e w' ⟨rfl,hb⟩)
 go_ret
 exact⟨rfl,hb⟩
end Go.Proofs.YtapgojgcmlnbgaaGreatDoor
namespace Go.Proofs.YtapgojgcmlnbgaaGreatDoor
open Go Go.RowKit
open Go.Lib (decDigits nDigits decDigits_length nDigits_small)
theorem N6 (w:List UInt8) (n:Int) (l:List Int):D9 w (n::l)=D9 (w++32::decDigits n.toNat) l:=rfl
theorem J1 (l:List Int):∀ (w:List UInt8),(∀ n∈l,0≤n∧n≤9223372036854775807)→w.length≤(D9 w l).length∧(D9 w l).length≤w.length+21*l.length:=by
 induction l with
 |nil=>intro w _;exact⟨Nat.le_refl _,Nat.le_refl _⟩
 |cons n l ih=>
  intro w h
  have h1:=ih (w++32::decDigits n.toNat) (fun x hx=>h x (List.mem_cons_of_mem _ hx))
  have h2:=h n List.mem_cons_self
  have h3:=G9 n.toNat (by omega)
  rw [N6]
  simp only [List.length_append,List.length_cons,decDigits_length] at h1 ⊢
  omega
theorem Nj {B:Nat} (word:List UInt8) (A:Option Addr) (l:List Int) (cap:Nat) (w:World) (V:F5 B w) (hB:B≤w.heap.size) (hl:l.length≤1000000) (hw:word.length≤1000000000000) (hr:∀ n∈l,0≤n∧n≤9223372036854775807) (hA:As w w.heap.size .i64 A l) :
  Calls Tryz.prog 49 #[sV word, .slice A l.length cap] w fun e w'=>e = .returned (sV (D9 word l))∧Below w.heap.size w w':=by
 have hcat:=Kq
 obtain⟨X,hX⟩:∃ X,D9 word l=X:=⟨_,rfl⟩
 rw [hX]
 have HX:=Lib.hid hX
 have HR:=Lib.hid hr
 clear hX hr
 go_enter Tryz.func49,Tryz.ntmps49
 go_wp2_with(fail)
 go_loopw [0,9] (fun v0 v9 wr=>∃ (k:Nat) (s:List UInt8),v0=sV s∧v9 = .int .i64 k∧k≤l.length∧s.length≤word.length+21*k∧Below w.heap.size w wr∧Hid (D9 s (l.drop k)=X)) (fun _ v _=>l.length - (intOf v).toNat)
 case atStart=>exact⟨0,word,rfl,rfl,Nat.zero_le _,by omega,Below.refl _ _,HX⟩
 case round=>
  obtain⟨k,s,rfl,rfl,hk,hsl,hb,HS⟩:=hrel
  by_cases hlt:k<l.length
  ·obtain⟨b,o,rfl,hbB,hc⟩:=(hA.below hb).at_ hlt
   have hck:=hc k hlt
   obtain⟨n,hn⟩:∃ n,l.getD k 0=n:=⟨_,rfl⟩
   rw [hn] at hck
   have hd:l.drop k=n::l.drop (k+1):=by rw [List.drop_eq_getElem_cons hlt,←hn];simp [List.getD,List.getElem?_eq_getElem hlt]
   have hnb:=HR.out n (by rw [←List.take_append_drop k l,hd];simp)
   obtain⟨u,rfl⟩:=Int.eq_ofNat_of_zero_le hnb.1
   have hbz:=hb.size
   have CD:=Lib.hid (fun W (hW:Below w.heap.size w W)=>Xh u (by omega) W (V.ext (hW.mono hB)) (Nat.le_trans hB hW.size))
   have hwr:(u:Int)%18446744073709551616=u:=by omega
   have h20:=G9 u (by omega)
   rw [←decDigits_length] at h20
   have HS2:Hid (D9 (s++32::decDigits u) (l.drop (k+1))=X):=by have h:=HS.out;rw [hd,N6] at h;exact h
   have hlen1:1+(decDigits u).length≤9223372036854775807:=by omega
   have hlen2:s.length+(1+(decDigits u).length)≤9223372036854775807:=by omega
   clear hn hd HS hc hnb
   have hcat2:∀ a:List UInt8,Value.string (⟨#[32]⟩++⟨a.toArray⟩)=sV (32::a):=fun a=>Kq [32] a
   go_wp2_with(go_at_call 48;(with_reducible refine(CD.out _ hb).mono ?_);rintro e w2 ⟨rfl,hb2⟩)
   go_roundw
   case rel=>exact⟨k+1,s++32::decDigits u,by simp,by go_num,by omega,by simp;omega,hb.trans (hb2.mono hb.size),HS2⟩
   case measure=>simp [intOf];omega
  ·obtain rfl:k=l.length:=by omega
   have e1:decide ((l.length:Int)<l.length)=false:=by simp
   have hX2:=HS.out
   rw [List.drop_length] at hX2
   have HX2:=Lib.hid hX2
   clear hX2
   go_wp2_with(fail)
   go_ret
   exact⟨by rw [←HX2.out];rfl,hb⟩
theorem Up {B:Nat} (word:List UInt8) (A:Option Addr) (l:List Int) (cap:Nat) (w:World) (V:F5 B w) (hB:B≤w.heap.size) (hl:l.length≤1000000) (hw:word.length≤1000000000000) (hr:∀ n∈l,0≤n∧n≤4294967295) (hA:As w w.heap.size .u32 A l) :
  Calls Tryz.prog 51 #[sV word, .slice A l.length cap] w fun e w'=>e = .returned (sV (D9 word l))∧Below w.heap.size w w':=by
 have hcat:=Kq
 obtain⟨X,hX⟩:∃ X,D9 word l=X:=⟨_,rfl⟩
 rw [hX]
 have HX:=Lib.hid hX
 have HR:=Lib.hid hr
 clear hX hr
 go_enter Tryz.func51,Tryz.ntmps51
 go_wp2_with(fail)
 go_loopw [0,9] (fun v0 v9 wr=>∃ (k:Nat) (s:List UInt8),v0=sV s∧v9 = .int .i64 k∧k≤l.length∧s.length≤word.length+21*k∧Below w.heap.size w wr∧Hid (D9 s (l.drop k)=X)) (fun _ v _=>l.length - (intOf v).toNat)
 case atStart=>exact⟨0,word,rfl,rfl,Nat.zero_le _,by omega,Below.refl _ _,HX⟩
 case round=>
  obtain⟨k,s,rfl,rfl,hk,hsl,hb,HS⟩:=hrel
  by_cases hlt:k<l.length
  ·obtain⟨b,o,rfl,hbB,hc⟩:=(hA.below hb).at_ hlt
   have hck:=hc k hlt
   obtain⟨n,hn⟩:∃ n,l.getD k 0=n:=⟨_,rfl⟩
   rw [hn] at hck
   have hd:l.drop k=n::l.drop (k+1):=by rw [List.drop_eq_getElem_cons hlt,←hn];simp [List.getD,List.getElem?_eq_getElem hlt]
   have hnb:=HR.out n (by rw [←List.take_append_drop k l,hd];simp)
   obtain⟨u,rfl⟩:=Int.eq_ofNat_of_zero_le hnb.1
   have hbz:=hb.size
   have CD:=Lib.hid (fun W (hW:Below w.heap.size w W)=>Xh u (by omega) W (V.ext (hW.mono hB)) (Nat.le_trans hB hW.size))
   have hwr:(u:Int)%18446744073709551616=u:=by omega
   have h20:=G9 u (by omega)
   rw [←decDigits_length] at h20
   have HS2:Hid (D9 (s++32::decDigits u) (l.drop (k+1))=X):=by have h:=HS.out;rw [hd,N6] at h;exact h
   have hlen1:1+(decDigits u).length≤9223372036854775807:=by omega
   have hlen2:s.length+(1+(decDigits u).length)≤9223372036854775807:=by omega
   clear hn hd HS hc hnb
   have hcat2:∀ a:List UInt8,Value.string (⟨#[32]⟩++⟨a.toArray⟩)=sV (32::a):=fun a=>Kq [32] a
   go_wp2_with(go_at_call 48;(with_reducible refine(CD.out _ hb).mono ?_);rintro e w2 ⟨rfl,hb2⟩)
   go_roundw
   case rel=>exact⟨k+1,s++32::decDigits u,by simp,by go_num,by omega,by simp;omega,hb.trans (hb2.mono hb.size),HS2⟩
   case measure=>simp [intOf];omega
  ·obtain rfl:k=l.length:=by omega
   have e1:decide ((l.length:Int)<l.length)=false:=by simp
   have hX2:=HS.out
   rw [List.drop_length] at hX2
   have HX2:=Lib.hid hX2
   clear hX2
   go_wp2_with(fail)
   go_ret
   exact⟨by rw [←HX2.out];rfl,hb⟩
end Go.Proofs.YtapgojgcmlnbgaaGreatDoor
