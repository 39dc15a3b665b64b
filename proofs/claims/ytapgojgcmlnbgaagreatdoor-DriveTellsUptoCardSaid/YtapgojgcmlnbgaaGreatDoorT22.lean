/- Parts of a proof. -/
import Derived.Test.YtapgojgcmlnbgaaGreatDoorTZ
import Derived.Test.YtapgojgcmlnbgaaGreatDoorT00
import Derived.Test.YtapgojgcmlnbgaaGreatDoorT03
import Derived.Test.YtapgojgcmlnbgaaGreatDoorT01
import Derived.IntWalk
set_option linter.unusedSimpArgs false
set_option linter.unusedVariables false
set_option maxRecDepth 100000
set_option maxHeartbeats 16000000
namespace Go.Proofs.YtapgojgcmlnbgaaGreatDoor
open Go Go.RowKit
open Go.Lib (decFrom digitVal decNat)
def Tp (l:List UInt8) (w:World) (e:Ending) (w':World):Prop:=∃ x:Int,e = .returned (.tuple #[.int .u32 x, .bool (Jl l).isSome])∧(∀ u,Jl l=some u→x=u)∧w=w'
theorem Kn {l:List UInt8} (h:Jl l=none) {w:World} {x:Int}:Tp l w (.returned (.tuple #[.int .u32 x, .bool false])) w:=⟨x,(by rw [h];rfl),(fun u hu=>by rw [h] at hu;cases hu),rfl⟩
theorem Yu {acc:Nat} {b:UInt8} {l:List UInt8} (h:¬ b.toNat<48) (h2:¬ 57<b.toNat):decFrom acc (b::l)=decFrom (acc*10+(b.toNat - 48)) l:=by
 simp only [decFrom]
 rw [show digitVal b=some (b.toNat - 48) by unfold digitVal;rw [if_pos ⟨by omega,by omega⟩]]
theorem Qj {acc:Nat} {b:UInt8} {l:List UInt8} (h:b.toNat<48∨57<b.toNat):decFrom acc (b::l)=none:=by
 simp only [decFrom]
 rw [show digitVal b=none by unfold digitVal;rw [if_neg (by omega)]]
theorem byte_at {l:List UInt8} {k:Nat} {c:UInt8} (h:l[k]? = some c):∀ hk:k<(ByteArray.mk l.toArray).size,(ByteArray.mk l.toArray)[k]'hk=c:=fun hk=>by
 obtain⟨h1,h2⟩:=qJ.1 h
 rw [←h2]
 show l.toArray[k]=_
 simp
theorem Ade (l:List UInt8) (w:World) (hl:l.length≤9223372036854775807):Calls Tryz.prog 8 #[sV l] w (Tp l w):=by
 obtain⟨Post,hPost⟩:∃ P,P=Tp l w:=⟨_,rfl⟩
 rw [←hPost]
 have HP:=qA hPost
 clear hPost
 by_cases h1:l.length<1
 ·have hb:=qA (Kn (x:=0) (w:=w) (Qz (w:=l) (Or.inl h1)))
  have f1:decide ((l.length:Int)<1)=true:=qF (by omega)
  go_enter Tryz.func8,Tryz.ntmps8
  go_wp2_with(fail)
  rw [HP.out]
  exact hb.out
 have f1:decide ((l.length:Int)<1)=false:=qG (by omega)
 by_cases h10:10<l.length
 ·have hb:=qA (Kn (x:=0) (w:=w) (Qz (w:=l) (Or.inr (Or.inl h10))))
  have f2:decide (10<(l.length:Int))=true:=qF (by omega)
  go_enter Tryz.func8,Tryz.ntmps8
  go_wp2_with(fail)
  rw [HP.out]
  exact hb.out
 have f2:decide (10<(l.length:Int))=false:=qG (by omega)
 have h0:0<l.length:=by omega
 obtain⟨b,hb⟩:∃ b,l[0]? = some b:=⟨l[0],by simp [h0]⟩
 have hbyte:=byte_at hb
 by_cases hz:b=48∧1<l.length
 ·obtain⟨rfl,hr⟩:=hz
  have hb2:=qA (Kn (x:=0) (w:=w) (Qz (w:=l) (Or.inr (Or.inr (Or.inl ⟨l.tail,by intro e;have:=congrArg List.length e;simp at this;omega,by cases l with | nil=>simp at h0 | cons x y=>simp at hb;subst hb;rfl⟩)))))
  have f3:decide (1<(l.length:Int))=true:=qF (by omega)
  have h48:((48:UInt8).toNat:Int)=48:=rfl
  clear h1 h10
  go_enter Tryz.func8,Tryz.ntmps8
  go_wp2_with(fail)
  rw [HP.out]
  exact hb2.out
 have hz2:∀ q,l=48::q→q=[]:=fun q hq=>by
  subst hq
  simp at hb
  exact qN (by simp at hz;have:=hz hb.symm;exact List.length_eq_zero_iff.2 this)
 have hlen:l.length≤10:=by omega
 have HQ:=qA (fun u hd=>Aia (w:=l) (u:=u) h0 hlen hz2 hd)
 have HBAD:=qA (fun hd=>Kn (x:=0) (w:=w) (Qz (w:=l) (Or.inr (Or.inr (Or.inr hd)))))
 have hb48:((b.toNat:Int)==48)=true∧decide (1<(l.length:Int))=false∨((b.toNat:Int)==48)=false:=by
  by_cases e:b=48
  ·subst e
   exact Or.inl ⟨rfl,qG (by simp at hz;omega)⟩
  ·right
   have:b.toNat≠48:=fun h=>e (UInt8.toNat_inj.1 h)
   simp;omega
 clear hz hz2 h1 h10
 rcases hb48 with⟨e48,f3⟩ | e48
 all_goals (
  go_enter Tryz.func8,Tryz.ntmps8
  go_wp2_with(fail)
  clear e48 hbyte
  go_loopw [4,5] (fun v4 v5 wr=>∃ (acc k:Nat),v4 = .int .i64 acc∧v5 = .int .i64 k∧k≤l.length∧acc<10 ^ k∧wr=w∧Hid (decFrom acc (l.drop k)=decFrom 0 l)) (fun _ v _=>l.length - (intOf v).toNat)
  case atStart=>exact⟨0,0,rfl,rfl,Nat.zero_le _,by simp,rfl,qA rfl⟩
  case round=>
   obtain⟨acc,k,rfl,rfl,hk,hacc,rfl,HS⟩:=hrel
   by_cases hlt:k<l.length
   ·obtain⟨c,hc⟩:∃ c,l[k]? = some c:=⟨l[k],by simp [hlt]⟩
    have hcb:=byte_at hc
    have hd:l.drop k=c::l.drop (k+1):=by rw [qM hlt];simp [(qJ.1 hc).2]
    have hp:10 ^ k≤10 ^ 9:=Nat.pow_le_pow_right (by omega) (by omega)
    have hp2:10 ^ (k+1)=10*10 ^ k:=by rw [Nat.pow_succ];omega
    have ha9:acc<10 ^ 9:=by omega
    have HP2:=qA hp2
    have HA:=qA hacc
    have hc256:=c.toNat_lt
    clear hp hp2 hc hacc
    by_cases g1:c.toNat<48
    ·have hb2:=qA (HBAD.out (by rw [←HS.out,hd,Qj (Or.inl g1)]))
     have t1:decide ((c.toNat:Int)<48)=true:=qF (by omega)
     clear hd
     go_wp2_with(fail)
     rw [HP.out]
     exact hb2.out
    have t1:decide ((c.toNat:Int)<48)=false:=qG (by omega)
    by_cases g2:57<c.toNat
    ·have hb2:=qA (HBAD.out (by rw [←HS.out,hd,Qj (Or.inr g2)]))
     have t2:decide (57<(c.toNat:Int))=true:=qF (by omega)
     clear hd
     go_wp2_with(fail)
     rw [HP.out]
     exact hb2.out
    have t2:decide (57<(c.toNat:Int))=false:=qG (by omega)
    have HS2:Hid (decFrom (acc*10+(c.toNat - 48)) (l.drop (k+1))=decFrom 0 l):=by have h:=HS.out;rw [hd,Yu g1 g2] at h;exact h
    clear hd HS
    go_wp2_with(fail)
    go_roundw
    case rel=>exact⟨acc*10+(c.toNat - 48),k+1,by go_num,by go_num,by omega,by rw [HP2.out];have:=HA.out;omega,by first | rfl | trivial,HS2⟩
    case measure=>simp [intOf];omega
   ·obtain rfl:k=l.length:=by omega
    have e1:decide ((l.length:Int)<l.length)=false:=by simp
    have hp:10 ^ l.length≤10 ^ 10:=Nat.pow_le_pow_right (by omega) (by omega)
    have ha9:acc<10 ^ 10:=by omega
    have hX:=HS.out
    rw [List.drop_length] at hX
    have HX:=qA (HQ.out acc hX.symm)
    clear hX HS hp hacc
    go_wp2_with(fail)
    rw [HP.out]
    by_cases hs:acc<4294967296
    ·have hn:=HX.out
     rw [if_pos hs] at hn
     exact⟨acc,(by rw [hn];simp;omega),(fun u hu=>by rw [hn] at hu;injection hu with hu;rw [hu]),rfl⟩
    ·have hn:=HX.out
     rw [if_neg hs] at hn
     exact⟨(acc:Int)%4294967296,(by rw [hn];simp;omega),(fun u hu=>by rw [hn] at hu;cases hu),rfl⟩)
end Go.Proofs.YtapgojgcmlnbgaaGreatDoor
namespace Go.Proofs.YtapgojgcmlnbgaaGreatDoor
open Go Go.RowKit
theorem Air:(Tryz.prog.info? 9).map (fun i=>(i.zero,i.size,i.bytes))=some (some (.string ByteArray.empty),1,16):=by kernel_rfl
def partOf (s:List UInt8) (fr k:Nat):List UInt8:=(s.take k).drop fr
theorem Yx (s:List UInt8) (fr k:Nat):(ByteArray.mk s.toArray).extract fr k=ByteArray.mk (partOf s fr k).toArray:=by
 apply ByteArray.ext
 rw [ByteArray.data_extract]
 unfold partOf
 simp [List.extract_eq_take_drop,List.drop_take]
theorem Agh {s:List UInt8} {fr k:Nat} {b:UInt8} (h:s[k]? = some b) (hf:fr≤k):partOf s fr (k+1)=partOf s fr k++[b]:=by
 have hk:=(qJ.1 h).1
 unfold partOf
 rw [List.take_add_one,h,List.drop_append_of_le_length (by rw [List.length_take];omega)]
 rfl
theorem X7 {s:List UInt8} {fr k:Nat} (hf:fr≤k) (hk:k≤s.length):s.drop fr=partOf s fr k++s.drop k:=by
 unfold partOf
 rw [List.drop_take]
 have:=List.take_append_drop (k - fr) (s.drop fr)
 rw [List.drop_drop,show fr+(k - fr)=k by omega] at this
 exact this.symm
def Jo (s:List UInt8) (c:UInt8) (w:World) (e:Ending) (w':World):Prop:=∃ v,e = .returned v∧w'.ownsRow w.heap.size 9 1 v (As c s).length ((As c s).map sV)∧Below w.heap.size w w'
theorem U3 (s:List UInt8) (c:UInt8) (w:World) (hl:s.length≤4294967296) :
  Calls Tryz.prog 5 #[sV s, .int .u8 c.toNat] w (Jo s c w):=by
 obtain⟨Post,hPost⟩:∃ P,P=Jo s c w:=⟨_,rfl⟩
 rw [←hPost]
 have HPO:=qA hPost
 clear hPost
 obtain⟨i0,hi,hz0,hz1,hz2⟩:=info_parts Air
 have hcut:=Yx s
 go_enter Tryz.func5,Tryz.ntmps5
 go_wp2_with(fail)
 go_loopw [5,6,7] (fun v5 v6 v7 wr=>∃ (k fr:Nat) (L:List (List UInt8)),v6 = .int .i64 fr∧v7 = .int .i64 k∧k≤s.length+1∧fr≤k∧L.length≤k∧Below w.heap.size w wr∧Hid (wr.ownsRow w.heap.size 9 1 v5 L.length (L.map sV)∧((k≤s.length∧As c s=L++As c (s.drop fr)∧∀ b∈partOf s fr k,b≠c)∨(k=s.length+1∧As c s=L)))) (fun _ _ v _=>s.length+2 - (intOf v).toNat)
 case atStart=>exact⟨0,0,[],rfl,rfl,Nat.zero_le _,qC _,qC _,qB _ _,qA ⟨qT _ _ _ _,Or.inl ⟨Nat.zero_le _,rfl,fun b hb=>by simp [partOf] at hb⟩⟩⟩
 case round=>
  obtain⟨k,fr,L,rfl,rfl,hk,hf,hLk,hb,HR⟩:=hrel
  have hbz:=hb.size
  by_cases hle:k≤s.length
  ·obtain⟨hs,hno⟩:As c s=L++As c (s.drop fr)∧∀ b∈partOf s fr k,b≠c:=by
    rcases HR.out.2 with⟨_,h1,h2⟩ | ⟨h,_⟩
    ·exact⟨h1,h2⟩
    ·omega
   have HS:=qA hs
   have HNO:=qA hno
   have t0:decide ((k:Int)≤(s.length:Int))=true:=qF (by omega)
   clear hs hno
   have hmid:(partOf s fr k).length≤s.length:=by unfold partOf;simp;omega
   by_cases hend:k=s.length
   ·subst hend
    have t1:((s.length:Int)==(s.length:Int))=true:=by simp
    have hfin:As c s=L++[partOf s fr s.length]:=by
     rw [HS.out]
     have e:s.drop fr=partOf s fr s.length:=by have:=X7 hf hle;rw [List.drop_length,List.append_nil] at this;exact this
     rw [e,Tb HNO.out]
    have HF:=qA hfin
    clear hfin
    go_wp2_with(first | (at_builtin;go_loud (refine B0 rfl (.tmp 25) (.tmp 30) 22 rfl w.heap.size 9 i0 _ 1 16 Tryz.underlying22 hi hz0 hz1 hz2 rfl (by decide) _ L.length _ rfl (HR.out.1.alloc _) (some ⟨wr.heap.size,0,none⟩) 1 1 [sV (partOf s fr s.length)] rfl rfl (fun h=>by cases h) (H8 wr _ _) (by simp;rfl) (by unfold maxLen;omega) (by omega) (by simp;omega) ?_;intro v7 w7 hown7 hg7;have hb7:=(hb.alloc hbz (.cells #[sV (partOf s fr s.length)] 9)).grown hg7 (by simp;omega) (fun q hq=>(HR.out.1.lt q hq).1))))
    go_roundw
    case rel=>exact⟨s.length+1,s.length+1,L++[partOf s fr s.length],by go_num,by go_num,by omega,qC _,by simp;omega,hb7,qA ⟨by simpa using hown7,Or.inr ⟨rfl,HF.out⟩⟩⟩
    case measure=>(simp [intOf]<;>omega)
   ·have hlt:k<s.length:=by omega
    obtain⟨b,hbk⟩:∃ b,s[k]? = some b:=⟨s[k],by simp [hlt]⟩
    have hbyte:=byte_at hbk
    have t1:((k:Int)==(s.length:Int))=false:=by simp;omega
    have HBK:=qA hbk
    clear hbk hend
    by_cases hbc:b=c
    ·subst hbc
     have t2:((b.toNat:Int)==(b.toNat:Int))=true:=by simp
     have hrest:s.drop fr=partOf s fr k++b::s.drop (k+1):=by
      have e:=X7 hf hle
      rw [qM hlt] at e
      rw [e]
      have:=(qJ.1 HBK.out).2
      rw [this]
     have hnew:As b s=(L++[partOf s fr k])++As b (s.drop (k+1)):=by rw [HS.out,hrest,Tc HNO.out];simp
     have HNW:=qA hnew
     clear hrest hnew
     go_wp2_with(first | (at_builtin;go_loud (refine B0 rfl (.tmp 25) (.tmp 30) 22 rfl w.heap.size 9 i0 _ 1 16 Tryz.underlying22 hi hz0 hz1 hz2 rfl (by decide) _ L.length _ rfl (HR.out.1.alloc _) (some ⟨wr.heap.size,0,none⟩) 1 1 [sV (partOf s fr k)] rfl rfl (fun h=>by cases h) (H8 wr _ _) (by simp;rfl) (by unfold maxLen;omega) (by omega) (by simp;omega) ?_;intro v7 w7 hown7 hg7;have hb7:=(hb.alloc hbz (.cells #[sV (partOf s fr k)] 9)).grown hg7 (by simp;omega) (fun q hq=>(HR.out.1.lt q hq).1))))
     go_roundw
     case rel=>exact⟨k+1,k+1,L++[partOf s fr k],by go_num,by go_num,by omega,qC _,by simp;omega,hb7,qA ⟨by simpa using hown7,Or.inl ⟨hlt,HNW.out,fun x hx=>by unfold partOf at hx;rw [List.drop_of_length_le (by rw [List.length_take];exact Nat.min_le_left _ _)] at hx;cases hx⟩⟩⟩
     case measure=>simp [intOf];omega
    ·have hne:b.toNat≠c.toNat:=fun h=>hbc (UInt8.toNat_inj.1 h)
     have t2:((b.toNat:Int)==(c.toNat:Int))=false:=by simp;omega
     have HNE:=qA hbc
     clear hbc hne
     go_wp2_with(fail)
     go_roundw
     case rel=>exact⟨k+1,fr,L,by go_num,by go_num,by omega,by omega,by omega,hb,qA ⟨HR.out.1,Or.inl ⟨hlt,HS.out,fun x hx=>by
      rw [Agh HBK.out hf] at hx
      rcases List.mem_append.1 hx with hx | hx
      ·exact HNO.out x hx
      ·rw [List.mem_singleton.1 hx];exact HNE.out⟩⟩⟩
     case measure=>simp [intOf];omega
  ·have hk1:k=s.length+1:=by omega
   have hfin:As c s=L:=by
    rcases HR.out.2 with⟨h,_⟩ | ⟨_,h⟩
    ·omega
    ·exact h
   subst hk1
   have t0:decide (((s.length:Int)+1)≤(s.length:Int))=false:=qG (by omega)
   have t9:decide ((((s.length+1:Nat)):Int)≤(s.length:Int))=false:=qG (by omega)
   have HF:=qA hfin
   clear hfin hle
   go_wp2_with(fail)
   rw [HPO.out]
   exact⟨_,rfl,by rw [HF.out];exact HR.out.1,hb⟩
end Go.Proofs.YtapgojgcmlnbgaaGreatDoor
namespace Go.Proofs.YtapgojgcmlnbgaaGreatDoor
open Go Go.RowKit
open Go.Lib (decDigits decDigits_length)
theorem Aaa {w:World} {g k:Nat} {t:TypeId} {cur:Array Value} {c:Com} (hB:Blk w g t cur) (he:cur.extract (k*11) (k*11+11)=c.cells) {j:Nat} (hj:j<11):w.cell? ⟨g,k*11+j,none⟩=c.cells[j]? := by
 have hz:=congrArg Array.size he
 rw [Array.size_extract,show c.cells.size=11 from rfl] at hz
 rw [hB.cell,←he,Array.getElem?_extract,if_pos (by omega)]
theorem Agb (A:Option Addr) (n cap:Nat) (cs:Array Value) (e:Int) (w:World) (he0:0<e) (he1:e≤1000) :
  Calls Tryz.prog 12 #[.slice A n cap, .agg cs, .int .i64 e] w fun r w'=>r = .returned (sV (Dz Yl [e]))∧Below w.heap.size w w':=by
 have CI:=qA (fun W A (hA:Ar W W.heap.size .i64 A [e])=>Ls Yl A [e] 1 W (by simp) (by simp [Yl]) (by simp;omega) hA)
 have e1:(e != 0)=true:=by simp;omega
 go_enter Tryz.func12,Tryz.ntmps12
 go_wp2_with(go_at_call 9;(refine(CI.out _ _ (by exact Ct [e] (Blk.new2 w _ _ _))).mono ?_);rintro e w5 ⟨rfl,hb5⟩;have hq5:=(((qB _ _).alloc (qC w.heap.size) _).alloc (by simp) _).trans (hb5.mono (by simp;omega)))
 go_ret
 exact⟨rfl,hq5⟩
theorem Ahy (A:Option Addr) (l:List Com) (cap:Nat) (h:Aq) (w:World) (hl:l.length≤1000000) (hw:∀ c∈l,c.Wf) (hh:h.Wf) (hs0:0≤h.state∧h.state≤1000) (hc0:0≤h.cause∧h.cause≤1000) (hA:Dq w w.heap.size A l) :
  Calls Tryz.prog 12 #[.slice A l.length cap, .agg h.cells, .int .i64 0] w fun r w'=>r = .returned (sV (Kv (Dz (decDigits l.length) [h.state,h.cause,h.pc]) l))∧Below w.heap.size w w':=by
 obtain⟨X,hX⟩:∃ X,Kv (Dz (decDigits l.length) [h.state,h.cause,h.pc]) l=X:=⟨_,rfl⟩
 rw [hX]
 obtain⟨p1,p2,p3⟩:=Aq.cells_pc hh.len
 have hp0:=hh.pc0
 have hp1:=hh.pc1
 have HX:=qA hX
 have HW:=qA hw
 have HA:=qA hA
 clear hX hw hA
 go_enter Tryz.func12,Tryz.ntmps12
 go_upto_region 3 with(fail)
 try go_simp
 refine A1 fun W1 hq=>?_
 have hB1:Blk W1 w.heap.size 30 h.cells:=by rw [hq];exact Blk.new w _ _
 have hb1:Below w.heap.size w W1:=by rw [hq];exact(qB _ _).alloc (qC _) _
 clear hq
 have c0:W1.cell? ⟨w.heap.size,33,none⟩=some (.int .i64 h.state):=(hB1.cell 33).trans p2
 have c1:W1.cell? ⟨w.heap.size,34,none⟩=some (.int .i64 h.cause):=(hB1.cell 34).trans p3
 have c2:W1.cell? ⟨w.heap.size,32,none⟩=some (.int .u32 h.pc):=(hB1.cell 32).trans p1
 have HSK:=qA (fun w' (q:Below W1.heap.size W1 w')=>(⟨q,((hB1.ext q).cell 33).trans p2,((hB1.ext q).cell 34).trans p3,((hB1.ext q).cell 32).trans p1⟩:Below W1.heap.size W1 w'∧w'.cell? ⟨w.heap.size,33,none⟩=some (.int .i64 h.state)∧w'.cell? ⟨w.heap.size,34,none⟩=some (.int .i64 h.cause)∧w'.cell? ⟨w.heap.size,32,none⟩=some (.int .u32 h.pc)))
 have h20:=Eo l.length (by omega)
 rw [←decDigits_length] at h20
 have CD:=qA (fun W=>Ug (l.length+1) l.length (by omega) (by omega) W)
 have CI:=qA (fun W A (hA:Ar W W.heap.size .i64 A [h.state,h.cause,h.pc])=>Ls (decDigits l.length) A [h.state,h.cause,h.pc] 3 W (by simp) (by omega) (by simp;omega) hA)
 have hlen2:=(I9 [h.state,h.cause,h.pc] (decDigits l.length) (by simp;omega)).2
 have hL2:(Dz (decDigits l.length) [h.state,h.cause,h.pc]).length≤1000:=by simp only [List.length_cons,List.length_nil] at hlen2;omega
 have hwp:IntKind.i64.wrap h.pc=h.pc:=IntWalk.i64_in h.pc (by omega)
 have HP:=qA (qL p1 (qL p2 p3))
 clear hlen2 p1 p2 p3
 have zB:=hB1.lt
 go_region_held3 (fun w'=>Below W1.heap.size W1 w'∧w'.cell? ⟨w.heap.size,33,none⟩=some (.int .i64 h.state)∧w'.cell? ⟨w.heap.size,34,none⟩=some (.int .i64 h.cause)∧w'.cell? ⟨w.heap.size,32,none⟩=some (.int .u32 h.pc))
   (first
    |(refine HSK.out _ ?_;(repeat (first | exact qB _ _ | exact hq5 | refine Below.drew ?_ | refine Below.alloc ?_ (by first | (simp;done) | exact hq5.size | (simp;exact hq5.size)) _))))
   ((first
    |(go_at_call 17;refine(CD.out _).mono ?_;rintro e w5 ⟨rfl,hb5⟩;have hq5:Below W1.heap.size W1 w5:=Below.trans (by(repeat (first | exact qB _ _ | refine Below.drew ?_ | refine Below.alloc ?_ (by first | (simp;done) | (simp;omega)) _))) (hb5.mono (by first | exact qC _ | (simp;done) | (simp;omega))))
    |(go_at_call 9;refine(CI.out _ _ (by first | exact Ct [h.state,h.cause,h.pc] (Blk.new w5 _ _) | exact Ct [h.state,h.cause,h.pc] (Blk.ext (by exact Blk.new W1 _ _) hb5))).mono ?_;rintro e w7 ⟨rfl,hb7⟩;have hq5:Below W1.heap.size W1 w7:=Below.trans (by(repeat (first | exact hq5 | refine Below.drew ?_ | refine Below.alloc ?_ hq5.size _))) (hb7.mono (by first | exact hq5.size | (simp;exact Nat.le_succ_of_le hq5.size) | (simp;omega))))
    |fail))
 all_goals
  have hq9:=hb1.trans (hq5.mono hb1.size)
  clear hq5 HSK CI CD c0 c1 c2
  go_wp2_with(fail)
  go_loopw [7,8] (fun v7 v30 wr=>∃ (k:Nat) (s:List UInt8),v7=sV s∧v30 = .int .i64 k∧k≤l.length∧s.length≤1000+21*k∧Below w.heap.size w wr∧Hid (Kv s (l.drop k)=X)) (fun _ v _=>l.length - (intOf v).toNat)
  case atStart=>exact⟨0,_,rfl,rfl,Nat.zero_le _,by omega,hq9,HX⟩
  case round=>
   obtain⟨k,s,rfl,rfl,hk,hsl,hb,HS⟩:=hrel
   by_cases hlt:k<l.length
   ·obtain⟨g,cur,rfl,hgB,hB2,hs,he⟩:=(HA.out.below hb).at_ hlt
    have hcw:=HW.out _ (List.getElem_mem hlt)
    have hd:l.drop k=l[k]::l.drop (k+1):=qM hlt
    generalize l[k]=c at he hcw hd
    have hbz:=hb.size
    obtain⟨t0,t1⟩:=hcw.told
    have CU:=qA (fun W A s (hs:s.length≤100000000) (hA:Ar W W.heap.size .i64 A [c.told])=>Ls s A [c.told] 1 W (by simp) (by omega) (by simp;omega) hA)
    have HS1:=HS.out
    rw [hd,Pt] at HS1
    have h20:=Eo c.told.toNat (by omega)
    rw [←decDigits_length] at h20
    have c9:=Aaa hB2 he (j:=9) (by omega)
    have c10:=Aaa hB2 he (j:=10) (by omega)
    obtain⟨cpc,cnx,cst,cca,crd,cva,cat,cmn,cda,co,ct⟩:=c
    dsimp only at HS1 h20 CU c9 c10 t0 t1
    have hwr:IntKind.i64.wrap ct=ct:=IntWalk.i64_in ct (by omega)
    clear he hd HS hs
    rcases co with _ | _
    ·have HS2:Hid (Kv s (l.drop (k+1))=X):=qA HS1
     clear HS1 CU
     go_wp2_with(fail)
     go_roundw
     case rel=>exact⟨k+1,s,rfl,by go_num,by omega,by omega,hb,HS2⟩
     case measure=>simp [intOf];omega
    ·have HS2:Hid (Kv (s++32::decDigits ct.toNat) (l.drop (k+1))=X):=qA HS1
     clear HS1
     go_wp2_with(go_at_call 9;(refine(CU.out _ _ s (by omega) (Ct [ct] (Blk.new wr _ _))).mono ?_);rintro e w5 ⟨rfl,hb5⟩;have hq5:=(hb.alloc hb.size _).trans (hb5.mono (qD hb.size (by simp))))
     go_roundw
     case rel=>exact⟨k+1,s++32::decDigits ct.toNat,rfl,by go_num,by omega,by simp;omega,hq5,HS2⟩
     case measure=>simp [intOf];omega
   ·obtain rfl:k=l.length:=by omega
    have e1:decide ((l.length:Int)<l.length)=false:=by simp
    have hX2:=HS.out
    rw [List.drop_length] at hX2
    have HX2:=qA hX2
    clear hX2 HX
    go_wp2_with(fail)
    go_ret
    exact⟨by rw [←HX2.out];rfl,hb⟩
end Go.Proofs.YtapgojgcmlnbgaaGreatDoor
