/- Parts of a proof. -/
import Derived.Test.YtapgojgcmlnbgaaGreatDoorTZ
import Derived.Test.YtapgojgcmlnbgaaGreatDoorT06
import Derived.Test.YtapgojgcmlnbgaaGreatDoorT05
set_option linter.unusedSimpArgs false
set_option linter.unusedVariables false
set_option maxRecDepth 100000
set_option maxHeartbeats 16000000
namespace Go.Proofs.YtapgojgcmlnbgaaGreatDoor
open Go Go.RowKit
theorem Q3:Fi Ki where
 hart:=⟨rfl,fun x hx=>(by have:=List.eq_of_mem_replicate hx;omega),by decide,by decide⟩
 state:=rfl
 cause:=rfl
 may:=by decide
 mem:=fun b hb=>(by cases hb)
 room:=by decide
 cho:=fun x hx=>(by cases hx)
 many:=by decide
theorem Sc {s:List UInt8} {D:List (List UInt8)} {z:List UInt8} (h:As 10 s=D++[z]):Ms s=(if z=[] then D else D++[z]).take 40:=by
 unfold Ms
 rw [h,List.getLastD_concat,List.dropLast_concat]
theorem Sg (c:UInt8) (s:List UInt8):∃ D z,As c s=D++[z]:=⟨_,_,(List.dropLast_concat_getLast (Jv c s)).symm⟩
theorem L4:Tryz.prog.built 26 [(0, .int .i64 8),(1, .int .i64 64),(2, .int .i64 2)]=some #[.int .i64 8, .int .i64 64, .int .i64 2]:=by kernel_rfl
theorem W9:Tryz.prog.built 59 [(2, .agg #[.int .i64 8, .int .i64 64, .int .i64 2])]=some (Bs Ki (.slice none 0 0) (.slice none 0 0)):=by kernel_rfl
def Ab8 (M R:Plr→Int→List Com×Aq×Int):Prop:=∀ (p:Plr) (s:List UInt8),Fi p→s.length≤2000000→Fi (Gf M R Et Fh p s).1∧(Gf M R Et Fh p s).2.length≤21002000
def Rm (f:FuncId) (t:TypeId) (M R:Plr→Int→List Com×Aq×Int):Prop:=
 ∀ (B g:Nat) (p:Plr) (vM vC:Value) (s:List UInt8) (w:World),Ig B w→B≤g→Fi p→Ej t w g p vM vC→s.length≤2000000→Calls Tryz.prog f #[.pointer (some ⟨g,0,none⟩),sV s] w (El t w g (Gf M R Et Fh p s))
theorem I7 (M R:Plr→Int→List Com×Aq×Int) (p:Plr) (s:List UInt8) (r:List (List UInt8)):F0 M R Et Fh p (s::r)=(Gf M R Et Fh p s).2++10::F0 M R Et Fh (Gf M R Et Fh p s).1 r:=rfl
theorem Mv {α:Type} {D E:List α} {n k:Nat} {x:α} (h:(D.take n)[k]? = some x):(D++E)[k]? = some x:=by
 rw [List.getElem?_take] at h
 split at h
 ·rw [qQ (qJ.1 h).1];exact h
 ·cases h
theorem Aj0 {M R:Plr→Int→List Com×Aq×Int} (HO:Ab8 M R) (HC:Rm 16 59 M R) {B:Nat} (s:List UInt8) (w:World) (V:Ig B w) (hB:B≤w.heap.size) (hl:s.length≤2000000) :
  Calls Tryz.prog 7 #[sV s] w fun e w'=>e = .returned (sV (N1 M R Et Fh s))∧Below w.heap.size w w':=by
 obtain⟨D,z,hDz⟩:=Sg 10 s
 obtain⟨X,hX⟩:∃ X,N1 M R Et Fh s=X:=⟨_,rfl⟩
 rw [hX]
 unfold N1 at hX
 rw [Sc hDz] at hX
 have CS:=Sf 10 s w V (by omega)
 have hlong:=Hv 10 s
 have hpart:=Ds 10 s
 rw [hDz] at CS hlong hpart
 have hbk:Blk (w.alloc (.cells ((D++[z]).map sV).toArray 9)) w.heap.size 9 ((D++[z]).map sV).toArray:=Blk.new w _ _
 have hb1:Below w.heap.size w (w.alloc (.cells ((D++[z]).map sV).toArray 9)):=(qB _ _).alloc (qC _) _
 have hlen:(D++[z]).length=D.length+1:=by simp
 rw [hlen] at CS hlong
 generalize hw1:w.alloc (.cells ((D++[z]).map sV).toArray 9)=w1 at CS hbk hb1
 have hz1:w1.heap.size=w.heap.size+1:=by rw [←hw1];simp
 clear hw1 hlen
 have c0:w1.cell? ⟨w.heap.size,D.length,none⟩=some (sV z):=by rw [hbk.cell];simp
 have HS:=qA (fun x (hx:x∈D++[z])=>qD (hpart x hx) hl)
 have HX:=qA hX
 have HBK:=qA hbk
 have CSH:=qA CS
 have HHO:=qA HO
 have HHC:=qA HC
 clear hX hbk CS hpart hDz HO HC
 have d1:((D.length+1:Nat):Int) - 1=(D.length:Int):=by omega
 go_enter Tryz.func7,Tryz.ntmps7
 by_cases hz:z=[]
 ·have e0:(z==[])=true:=by simp [hz]
  rw [if_pos hz] at HX
  clear hz
  go_upto_region 4 with(go_at_call 15;(with_reducible refine CSH.out.mono ?_);rintro e w2 ⟨rfl,rfl⟩)
  go_upto_region 5 with(first
   |(refine Am rfl 26 _ rfl [(0, .int .i64 8),(1, .int .i64 64),(2, .int .i64 2)] rfl _ L4 ?_)
   |(refine Am rfl 59 _ rfl [(2, .agg #[.int .i64 8, .int .i64 64, .int .i64 2])] rfl _ W9 ?_))
  try go_simp
  refine A1 fun W4 hq=>?_
  have hB4:Blk W4 (w.heap.size+1) 59 (Bs Ki (.slice none 0 0) (.slice none 0 0)):=by
   rw [hq]
   have:=Blk.new w2 59 (Bs Ki (.slice none 0 0) (.slice none 0 0))
   rw [hz1] at this
   exact this
  have hb4:Below w2.heap.size w2 W4:=by rw [hq];exact(qB _ _).alloc (qC _) _
  clear hq
  obtain⟨K,hK⟩:∃ K,K=(D).take 40:=⟨_,rfl⟩
  obtain⟨m,hm⟩:∃ m,m=K.length:=⟨_,rfl⟩
  have hmL:m=min 40 (D.length):=by rw [hm,hK,List.length_take]<;>simp
  have hmin:min ((D.length:Int)) 40=(m:Int):=by omega
  have hm0:(0:Int)≤m:=by omega
  have hm1:(m:Int)≤(D.length:Int)+1:=by omega
  have hm40:m≤40:=by omega
  have HK:=qA (fun(k:Nat) (x:List UInt8) (h:K[k]? = some x)=>(by rw [hK] at h;have:=Mv (E:=[z]) h;first | exact this | (rw [List.append_nil] at this;exact this):(D++[z])[k]? = some x))
  rw [←hK] at HX
  have HP4:Hid (Ej 59 W4 (w.heap.size+1) Ki (.slice none 0 0) (.slice none 0 0)):=qA ⟨hB4,qT _ _ _ _,qT _ _ _ _⟩
  have HB4:=qA hb4
  clear hB4 hb4 hK hmL c0 e0 d1 CSH
  go_wp2_with(fail)
  subst hm
  go_loopw [5,31] (fun v5 v31 wr=>∃ (k:Nat) (out:List UInt8) (p:Plr) (vM vC:Value),v5=sV out∧v31 = .int .i64 k∧k≤K.length∧out.length≤k*21002001∧Below w2.heap.size w2 wr∧Hid (Ej 59 wr (w.heap.size+1) p vM vC∧Fi p∧out++F0 M R Et Fh p (K.drop k)=X)) (fun _ v _=>K.length - (intOf v).toNat)
  case atStart=>exact⟨0,[],Ki,_,_,rfl,rfl,Nat.zero_le _,Nat.zero_le _,HB4.out,qA ⟨HP4.out,Q3,HX.out⟩⟩
  case round=>
   clear HP4 HB4 HX hmin
   obtain⟨k,out,p,vM,vC,rfl,rfl,hk,hol,hb,HR⟩:=hrel
   have hbz:=hb.size
   by_cases hlt:k<K.length
   ·obtain⟨x,hx⟩:∃ x,K[k]? = some x:=⟨K[k],by simp [hlt]⟩
    have hDx:=HK.out k x hx
    have hck:wr.cell? ⟨w.heap.size,k,none⟩=some (sV x):=by rw [(HBK.out.ext hb).cell];simp only [List.getElem?_toArray,List.getElem?_map,hDx];rfl
    have hxl:=HS.out x (List.mem_of_getElem? hDx)
    have hd:K.drop k=x::K.drop (k+1):=by rw [qM hlt];congr 1;exact qK ((qI hlt).symm.trans hx)
    have hq:=HHO.out p x HR.out.2.1 hxl
    have CL:=HHC.out B (w.heap.size+1) p vM vC x wr (V.ext ((hb1.trans (hb.mono hb1.size)).mono hB)) (by omega) HR.out.2.1 HR.out.1 hxl
    have hs:=HR.out.2.2
    rw [hd,I7] at hs
    generalize Gf M R Et Fh p x=Y at CL hq hs
    obtain⟨p2,ans⟩:=Y
    unfold El at CL
    dsimp only at CL hq hs
    obtain⟨hq1,hq2⟩:=hq
    have HQ:=qA (qL hq1 hs)
    have CLH:=qA CL
    have hlen1:ans.length+1≤9223372036854775807:=by omega
    have hlen2:out.length+(ans.length+1)≤9223372036854775807:=by omega
    have hcat:=F9
    have hcat2:∀ a:List UInt8,Value.string (⟨a.toArray⟩++⟨#[10]⟩)=sV (a++[10]):=fun a=>F9 a [10]
    clear CL hq1 hs hd hx hDx
    go_wp2_with(go_at_call 16;(with_reducible refine CLH.out.mono ?_);rintro e w5 ⟨hb5,rfl,vM5,vC5,hP5⟩)
    go_roundw
    case rel=>exact⟨k+1,out++(ans++[10]),p2,vM5,vC5,by simp,by go_num,by omega,by simp;omega,hb.trans (hb5.mono (by omega)),qA ⟨hP5,HQ.out.1,by rw [←HQ.out.2];simp⟩⟩
    case measure=>simp [intOf];omega
   ·obtain rfl:k=K.length:=by omega
    have e1:decide ((K.length:Int)<K.length)=false:=by simp
    have hs:=HR.out.2.2
    rw [List.drop_length] at hs
    have hs:out=X:=by rw [←hs];simp [F0]
    have HQ:=qA hs
    clear hs
    go_wp2_with(fail)
    go_ret
    exact⟨by rw [HQ.out];rfl,hb1.trans (hb.mono hb1.size)⟩
 ·have e0:(z==[])=false:=by simp [hz]
  rw [if_neg hz] at HX
  clear hz
  go_upto_region 4 with(go_at_call 15;(with_reducible refine CSH.out.mono ?_);rintro e w2 ⟨rfl,rfl⟩)
  go_upto_region 5 with(first
   |(refine Am rfl 26 _ rfl [(0, .int .i64 8),(1, .int .i64 64),(2, .int .i64 2)] rfl _ L4 ?_)
   |(refine Am rfl 59 _ rfl [(2, .agg #[.int .i64 8, .int .i64 64, .int .i64 2])] rfl _ W9 ?_))
  try go_simp
  refine A1 fun W4 hq=>?_
  have hB4:Blk W4 (w.heap.size+1) 59 (Bs Ki (.slice none 0 0) (.slice none 0 0)):=by
   rw [hq]
   have:=Blk.new w2 59 (Bs Ki (.slice none 0 0) (.slice none 0 0))
   rw [hz1] at this
   exact this
  have hb4:Below w2.heap.size w2 W4:=by rw [hq];exact(qB _ _).alloc (qC _) _
  clear hq
  obtain⟨K,hK⟩:∃ K,K=(D++[z]).take 40:=⟨_,rfl⟩
  obtain⟨m,hm⟩:∃ m,m=K.length:=⟨_,rfl⟩
  have hmL:m=min 40 (D.length+1):=by rw [hm,hK,List.length_take]<;>simp
  have hmin:min ((D.length:Int)+1) 40=(m:Int):=by omega
  have hm0:(0:Int)≤m:=by omega
  have hm1:(m:Int)≤(D.length:Int)+1:=by omega
  have hm40:m≤40:=by omega
  have HK:=qA (fun(k:Nat) (x:List UInt8) (h:K[k]? = some x)=>(by rw [hK] at h;have:=Mv (E:=[]) h;first | exact this | (rw [List.append_nil] at this;exact this):(D++[z])[k]? = some x))
  rw [←hK] at HX
  have HP4:Hid (Ej 59 W4 (w.heap.size+1) Ki (.slice none 0 0) (.slice none 0 0)):=qA ⟨hB4,qT _ _ _ _,qT _ _ _ _⟩
  have HB4:=qA hb4
  clear hB4 hb4 hK hmL c0 e0 d1 CSH
  go_wp2_with(fail)
  subst hm
  go_loopw [5,31] (fun v5 v31 wr=>∃ (k:Nat) (out:List UInt8) (p:Plr) (vM vC:Value),v5=sV out∧v31 = .int .i64 k∧k≤K.length∧out.length≤k*21002001∧Below w2.heap.size w2 wr∧Hid (Ej 59 wr (w.heap.size+1) p vM vC∧Fi p∧out++F0 M R Et Fh p (K.drop k)=X)) (fun _ v _=>K.length - (intOf v).toNat)
  case atStart=>exact⟨0,[],Ki,_,_,rfl,rfl,Nat.zero_le _,Nat.zero_le _,HB4.out,qA ⟨HP4.out,Q3,HX.out⟩⟩
  case round=>
   clear HP4 HB4 HX hmin
   obtain⟨k,out,p,vM,vC,rfl,rfl,hk,hol,hb,HR⟩:=hrel
   have hbz:=hb.size
   by_cases hlt:k<K.length
   ·obtain⟨x,hx⟩:∃ x,K[k]? = some x:=⟨K[k],by simp [hlt]⟩
    have hDx:=HK.out k x hx
    have hck:wr.cell? ⟨w.heap.size,k,none⟩=some (sV x):=by rw [(HBK.out.ext hb).cell];simp only [List.getElem?_toArray,List.getElem?_map,hDx];rfl
    have hxl:=HS.out x (List.mem_of_getElem? hDx)
    have hd:K.drop k=x::K.drop (k+1):=by rw [qM hlt];congr 1;exact qK ((qI hlt).symm.trans hx)
    have hq:=HHO.out p x HR.out.2.1 hxl
    have CL:=HHC.out B (w.heap.size+1) p vM vC x wr (V.ext ((hb1.trans (hb.mono hb1.size)).mono hB)) (by omega) HR.out.2.1 HR.out.1 hxl
    have hs:=HR.out.2.2
    rw [hd,I7] at hs
    generalize Gf M R Et Fh p x=Y at CL hq hs
    obtain⟨p2,ans⟩:=Y
    unfold El at CL
    dsimp only at CL hq hs
    obtain⟨hq1,hq2⟩:=hq
    have HQ:=qA (qL hq1 hs)
    have CLH:=qA CL
    have hlen1:ans.length+1≤9223372036854775807:=by omega
    have hlen2:out.length+(ans.length+1)≤9223372036854775807:=by omega
    have hcat:=F9
    have hcat2:∀ a:List UInt8,Value.string (⟨a.toArray⟩++⟨#[10]⟩)=sV (a++[10]):=fun a=>F9 a [10]
    clear CL hq1 hs hd hx hDx
    go_wp2_with(go_at_call 16;(with_reducible refine CLH.out.mono ?_);rintro e w5 ⟨hb5,rfl,vM5,vC5,hP5⟩)
    go_roundw
    case rel=>exact⟨k+1,out++(ans++[10]),p2,vM5,vC5,by simp,by go_num,by omega,by simp;omega,hb.trans (hb5.mono (by omega)),qA ⟨hP5,HQ.out.1,by rw [←HQ.out.2];simp⟩⟩
    case measure=>simp [intOf];omega
   ·obtain rfl:k=K.length:=by omega
    have e1:decide ((K.length:Int)<K.length)=false:=by simp
    have hs:=HR.out.2.2
    rw [List.drop_length] at hs
    have hs:out=X:=by rw [←hs];simp [F0]
    have HQ:=qA hs
    clear hs
    go_wp2_with(fail)
    go_ret
    exact⟨by rw [HQ.out];rfl,hb1.trans (hb.mono hb1.size)⟩
end Go.Proofs.YtapgojgcmlnbgaaGreatDoor
namespace Go.Proofs.YtapgojgcmlnbgaaGreatDoor
open Go
def G8 (seq p:Int) (a:Acc):Bool:=a.store&&a.known&&decide (a.seq<seq)&&hasB a p
theorem Km (seq p:Int):∀ (l:List Acc) (b:Option Acc),l.foldl (Cr seq p) b=(l.filter (G8 seq p)).foldl (Cr seq p) b
 |[],_=>rfl
 |a::l,b=>by
  rw [List.foldl_cons,Km seq p l]
  rcases hr:G8 seq p a with _ | _
  ·rw [List.filter_cons_of_neg (by simp [hr])]
   have:Cr seq p b a=b:=by
    unfold Cr
    unfold G8 at hr
    rw [if_neg]
    rw [hr]
    simp
   rw [this]
  ·rw [List.filter_cons_of_pos hr]
   rfl
theorem Sq {l l':List Acc} {seq p:Int} (m:List Int) (h:l.filter (G8 seq p)=l'.filter (G8 seq p)):Df l m seq p=Df l' m seq p:=by
 unfold Df
 rw [Km seq p l,Km seq p l',h]
theorem W7 (seq p:Int):∀ (l:List Acc) (b:Acc),(∀ a∈l,G8 seq p a=true)→(b::l).Pairwise (fun a c=>a.seq≤c.seq)→l.foldl (Cr seq p) (some b)=some ((b::l).getLast (by simp))
 |[],b,_,_=>rfl
 |a::l,b,h,hs=>by
  rw [List.foldl_cons]
  have hr:=h a (by simp)
  have hle:b.seq≤a.seq:=(List.pairwise_cons.1 hs).1 a (by simp)
  have:Cr seq p (some b) a=some a:=by
   unfold Cr
   unfold G8 at hr
   rw [if_pos]
   rw [hr]
   simp [Ln,hle]
  rw [this,W7 seq p l a (fun x hx=>h x (by simp [hx])) (List.pairwise_cons.1 hs).2]
  rfl
theorem Ae5 {l:List Acc} {seq p:Int} (hs:l.Pairwise (fun a c=>a.seq≤c.seq)):l.foldl (Cr seq p) none=(l.filter (G8 seq p)).getLast? := by
 rw [Km]
 have hs':=hs.sublist (List.filter_sublist (p:=G8 seq p) (l:=l))
 have ha:∀ a∈l.filter (G8 seq p),G8 seq p a=true:=fun a ha=>(List.mem_filter.1 ha).2
 generalize l.filter (G8 seq p)=k at hs' ha
 cases k with
 |nil=>rfl
 |cons a k=>
  rw [List.foldl_cons]
  have hr:=ha a (by simp)
  have:Cr seq p none a=some a:=by
   unfold Cr
   unfold G8 at hr
   rw [if_pos]
   rw [hr]
   simp [Ln]
  rw [this,W7 seq p k a (fun x hx=>ha x (by simp [hx])) hs']
  rw [List.getLast?_eq_some_getLast (by simp)]
theorem T7 {l:List Acc} {seq p:Int} (m:List Int) (hs:l.Pairwise (fun a c=>a.seq≤c.seq)):Df l m seq p=byteOf m p (l.filter (G8 seq p)).getLast? := by
 unfold Df
 rw [Ae5 hs]
theorem Fa (m:List Int) (i j:Nat) (x:Int):(m.set i x).getD j 0=if i=j∧i<m.length then x else m.getD j 0:=by
 simp only [List.getD]
 by_cases h:i=j
 ·subst h
  by_cases h2:i<m.length
  ·rw [List.getElem?_set_self h2,if_pos ⟨rfl,h2⟩];rfl
  ·rw [if_neg (by omega),List.getElem?_eq_none (by simp;omega),List.getElem?_eq_none (by omega)]
 ·rw [List.getElem?_set_ne h,if_neg (by omega)]
theorem Agk (m:List Int) (many:Int) (n:Nat) (d:Int) (hm:many=0∨many=1∨many=2∨many=4) (hf:(n:Int)+many≤m.length) (j:Nat) :
  (Wv m many n d).getD j 0=if n≤j∧(j:Int)<n+many then d / ((2 ^ (8*(j - n)):Nat):Int)%256 else m.getD j 0:=by
 have e8:((2 ^ (8*1):Nat):Int)=256:=by decide
 have e16:((2 ^ (8*2):Nat):Int)=65536:=by decide
 have e24:((2 ^ (8*3):Nat):Int)=16777216:=by decide
 have e0:((2 ^ (8*0):Nat):Int)=1:=by decide
 rcases hm with rfl | rfl | rfl | rfl
 ·rw [if_neg (by omega)];rfl
 ·show(Zd m n d).getD j 0=_
  unfold Zd
  rw [Fa]
  by_cases h:n=j
  ·subst h
   rw [if_pos (by omega),if_pos (by omega),Nat.sub_self,e0,Int.ediv_one]
  ·rw [if_neg (by omega),if_neg (by omega)]
 ·show(Abj m n d).getD j 0=_
  unfold Abj Zd
  simp only [Fa,List.length_set]
  by_cases h:n=j
  ·subst h
   rw [if_neg (by omega),if_pos (by omega),if_pos (by omega),Nat.sub_self,e0,Int.ediv_one]
  ·by_cases h1:n+1=j
   ·subst h1
    rw [if_pos (by omega),if_pos (by omega),show n+1 - n=1 by omega,e8]
   ·rw [if_neg (by omega),if_neg (by omega),if_neg (by omega)]
 ·show(Adi m n d).getD j 0=_
  unfold Adi Abj Zd
  simp only [Fa,List.length_set]
  by_cases h:n=j
  ·subst h
   rw [if_neg (by omega),if_neg (by omega),if_neg (by omega),if_pos (by omega),if_pos (by omega),Nat.sub_self,e0,Int.ediv_one]
  ·by_cases h1:n+1=j
   ·subst h1
    rw [if_neg (by omega),if_neg (by omega),if_pos (by omega),if_pos (by omega),show n+1 - n=1 by omega,e8]
   ·by_cases h2:n+2=j
    ·subst h2
     rw [if_neg (by omega),if_pos (by omega),if_pos (by omega),show n+2 - n=2 by omega,e16]
    ·by_cases h3:n+3=j
     ·subst h3
      rw [if_pos (by omega),if_pos (by omega),show n+3 - n=3 by omega,e24]
     ·rw [if_neg (by omega),if_neg (by omega),if_neg (by omega),if_neg (by omega),if_neg (by omega)]
theorem Yo {a:Acc} {r:List Acc} {m:List Int} {seq p:Int} (hs:(a::r).Pairwise (fun a c=>a.seq≤c.seq)) (ha:a.store=true) (hk:a.known=true) (hseq:a.seq<seq)
  (hm:a.many=0∨a.many=1∨a.many=2∨a.many=4) (h0:0≤a.at_) (hf:a.at_+a.many≤m.length) (hl:m.length≤4096) (hp:0≤p) :
  Df r (Wv m a.many a.at_.toNat a.data) seq p=Df (a::r) m seq p:=by
 rw [T7 _ hs,T7 _ (List.pairwise_cons.1 hs).2]
 have hmi:G0 a.many=a.many:=by unfold G0;omega
 have hg:=Agk m a.many a.at_.toNat a.data hm (by omega) p.toNat
 rcases hr:G8 seq p a with _ | _
 ·rw [List.filter_cons_of_neg (by simp [hr])]
  cases hL:(r.filter (G8 seq p)).getLast? with
  |some b=>rfl
  |none=>
   show(Wv m a.many a.at_.toNat a.data).getD p.toNat 0=m.getD p.toNat 0
   rw [hg,if_neg]
   intro hin
   unfold G8 hasB at hr
   rw [ha,hk,hmi,qF hseq,qF (show a.at_≤p by omega),qF (show p<a.at_+a.many by omega),qF (show p<4294967296 by omega)] at hr
   cases hr
 ·rw [List.filter_cons_of_pos hr]
  unfold G8 hasB at hr
  rw [hmi] at hr
  simp only [Bool.and_eq_true,decide_eq_true_eq] at hr
  cases hk':r.filter (G8 seq p) with
  |nil=>
   show(Wv m a.many a.at_.toNat a.data).getD p.toNat 0=Rw a p
   rw [hg,if_pos (by omega)]
   unfold Rw
   rw [show p.toNat - a.at_.toNat=(p - a.at_).toNat by omega]
  |cons b k=>
   rw [List.getLast?_cons_cons]
   rw [List.getLast?_eq_some_getLast (by simp)]
   rfl
theorem Pv {l l':List Acc} {m m':List Int} {seq p many:Int} (hm:m.length=m'.length) (h:∀ q,p≤q→q<p+4→(many=1→q<p+1)→(many=2→q<p+2)→Df l m seq q=Df l' m' seq q) :
  (Eb l m seq p many).1=(Eb l' m' seq p many).1∧(Eb l m seq p many).2.1=(Eb l' m' seq p many).2.1:=by
 have hok:Gv m p many=Gv m' p many:=by unfold Gv;rw [hm]
 unfold Eb
 rw [hok]
 split
 ·rename_i hs
  refine⟨?_,rfl⟩
  show Pw l m seq p many=Pw l' m' seq p many
  unfold Pw
  by_cases h1:many=1
  ·rw [if_pos h1,if_pos h1,h p (by omega) (by omega) (by omega) (by omega)]
  rw [if_neg h1,if_neg h1]
  by_cases h2:many=2
  ·rw [if_pos h2,if_pos h2,h p (by omega) (by omega) (by omega) (by omega),h (p+1) (by omega) (by omega) (by omega) (by omega)]
  rw [if_neg h2,if_neg h2,h p (by omega) (by omega) (by omega) (by omega),h (p+1) (by omega) (by omega) (by omega) (by omega),h (p+2) (by omega) (by omega) (by omega) (by omega),h (p+3) (by omega) (by omega) (by omega) (by omega)]
 ·exact⟨rfl,rfl⟩
def Dk (N:Ax) (u:Uop):Ax:=if 0<u.dest then ⟨N.phys,N.regs.set u.ins.rd.toNat u.dest,N.free.tail⟩ else N
structure NOk (N:Ax) (u:Uop):Prop where
 src:u.cause=0→u.a=N.regs.getD u.ins.rs1.toNat 0∧u.b=N.regs.getD u.ins.rs2.toNat 0
 dst:0<u.dest→(Bg u.ins=true∧u.cause=0)∧(1≤u.ins.rd∧u.ins.rd≤31)∧N.free=u.dest::N.free.tail∧u.old=N.regs.getD u.ins.rd.toNat 0
 nodst:u.dest≤0→u.dest=0∧¬ (Bg u.ins=true∧u.cause=0)
def Bq:Ax→List Uop→Ax→Prop
 |N,[],M=>N=M
 |N,u::us,M=>NOk N u∧Bq (Dk N u) us M
theorem Bq.append {M:Ax}:∀ {L R:List Uop} {N:Ax},Bq N (L++R) M↔∃ K,Bq N L K∧Bq K R M
 |[],R,N=>⟨fun h=>⟨N,rfl,h⟩,fun⟨K,h1,h2⟩=>by cases h1;exact h2⟩
 |u::L,R,N=>by
  show NOk N u∧Bq (Dk N u) (L++R) M↔_
  rw [Bq.append]
  constructor
  ·rintro⟨h,K,h1,h2⟩;exact⟨K,⟨h,h1⟩,h2⟩
  ·rintro⟨K,⟨h,h1⟩,h2⟩;exact⟨h,K,h1,h2⟩
structure Do (N:Ax):Prop where
 len:N.regs.length=32
 may:N.may=true
 zero:N.regs.getD 0 0=0
theorem Do.nodup {N:Ax} (h:Do N):(∀ p∈N.all,0≤p∧p<N.phys)∧N.all.Nodup:=((J6 _ _).1 h.may).1
theorem Do.phys {N:Ax} (h:Do N):33≤N.phys∧N.phys≤96:=((J6 _ _).1 h.may).2
theorem Do.reg_mem {N:Ax} (h:Do N) {i:Nat} (hi:i<32):N.regs.getD i 0∈N.regs:=by
 have:i<N.regs.length:=by rw [h.len];exact hi
 simp [List.getD,qI this]
theorem Do.reg_range {N:Ax} (h:Do N) {i:Nat} (hi:i<32):0≤N.regs.getD i 0∧N.regs.getD i 0<96:=by
 have h1:=h.nodup.1 _ (List.mem_append_left _ (h.reg_mem hi))
 have h2:=h.phys
 omega
theorem Do.free_pos {N:Ax} (h:Do N) {p:Int} (hp:p∈N.free):0<p∧p<96:=by
 have h1:=h.nodup.1 p (List.mem_append_right _ hp)
 have h2:=h.phys
 have h3:p≠0:=by
  intro e
  subst e
  have hz:=h.reg_mem (i:=0) (by omega)
  rw [h.zero] at hz
  have:=List.nodup_append.1 h.nodup.2
  exact this.2.2 0 hz 0 hp rfl
 omega
theorem Do.disjoint {N:Ax} (h:Do N) {p:Int} (hr:p∈N.regs) (hf:p∈N.free):False:=
 (List.nodup_append.1 h.nodup.2).2.2 p hr p hf rfl
theorem Do.next {N:Ax} (h:Do N) {u:Uop} (hu:NOk N u):Do (Dk N u):=by
 unfold Dk
 split
 ·rename_i hd
  obtain⟨_,⟨r1,r2⟩,hf,_⟩:=hu.dst hd
  refine⟨by simp [h.len],?_,?_⟩
  ·have hm:=h.may
   unfold Ax.may Ax.all at hm ⊢
   rw [hf] at hm
   exact(Va (by rw [h.len];omega) hm).1
  ·show(N.regs.set _ _).getD 0 0=0
   rw [Fa,if_neg (by omega)]
   exact h.zero
 ·exact h
theorem Agz {N:Ax} (h:Do N) {u:Uop} (hu:NOk N u) (hd:0<u.dest):M6 (Dk N u) u.ins.rd u.old=some N:=by
 obtain⟨_,⟨r1,r2⟩,hf,ho⟩:=hu.dst hd
 have hn:=h.next hu
 unfold Dk at hn ⊢
 rw [if_pos hd] at hn ⊢
 have hl:u.ins.rd.toNat<N.regs.length:=by rw [h.len];omega
 have hm:=h.may
 unfold Ax.may Ax.all at hm
 rw [hf] at hm
 obtain⟨m1,m2,m3⟩:=Va hl hm
 have hot:Gy ⟨N.phys,N.regs.set u.ins.rd.toNat u.dest,N.free.tail⟩ u.old=true:=by
  unfold Gy
  rw [hn.may,ho]
  simp only [Ax.all,Bool.true_and,Bool.and_eq_true,decide_eq_true_eq,Bool.not_eq_true']
  exact⟨m2,qG m3⟩
 unfold M6
 rw [if_pos ⟨hot,r1,r2⟩]
 congr 1
 obtain⟨phys,regs,free⟩:=N
 simp only at hf ho hl ⊢
 rw [Fa,if_pos ⟨rfl,hl⟩,←hf]
 congr 1
 rw [List.set_set,ho]
 have:regs.getD u.ins.rd.toNat 0=regs[u.ins.rd.toNat]:=by simp [List.getD,qI hl]
 rw [this,List.set_getElem_self]
theorem Bq.good {M:Ax}:∀ {L:List Uop} {N:Ax},Bq N L M→Do N→Do M
 |[],_,h,hg=>by cases h;exact hg
 |_::_,_,⟨h,h1⟩,hg=>h1.good (hg.next h)
theorem Bq.phys {M:Ax}:∀ {L:List Uop} {N:Ax},Bq N L M→M.phys=N.phys
 |[],_,h=>by cases h;rfl
 |u::L,N,⟨_,h1⟩=>by
  rw [h1.phys]
  unfold Dk
  split<;>rfl
theorem Mm {N:Ax} (u:Uop):∀ p∈(Dk N u).free,p∈N.free:=by
 unfold Dk
 split
 ·exact fun p hp=>List.mem_of_mem_tail hp
 ·exact fun p hp=>hp
theorem Bq.free_sub {M:Ax}:∀ {L:List Uop} {N:Ax},Bq N L M→∀ p∈M.free,p∈N.free
 |[],_,h=>by cases h;exact fun p hp=>hp
 |u::L,N,⟨_,h1⟩=>fun p hp=>Mm u p (h1.free_sub p hp)
theorem Bq.dest_free {M:Ax}:∀ {L:List Uop} {N:Ax},Bq N L M→∀ u∈L,0<u.dest→u.dest∈N.free
 |[],_,_,u,hu=>by cases hu
 |v::L,N,⟨h,h1⟩,u,hu=>fun hd=>by
  rcases List.mem_cons.1 hu with rfl | hu
  ·rw [(h.dst hd).2.2.1];simp
  ·exact Mm v _ (h1.dest_free u hu hd)
structure Apart (u v:Uop):Prop where
 a:0<v.dest→u.a≠v.dest
 b:0<v.dest→u.b≠v.dest
 d:0<v.dest→u.dest≠v.dest
theorem NOk.src_mem {N:Ax} (hg:Do N) {u:Uop} (h:NOk N u) (hi:u.cause=0→(0≤u.ins.rs1∧u.ins.rs1≤31)∧0≤u.ins.rs2∧u.ins.rs2≤31) (hc:u.cause=0):u.a∈N.regs∧u.b∈N.regs:=by
 obtain⟨h1,h2⟩:=h.src hc
 obtain⟨i1,i2⟩:=hi hc
 rw [h1,h2]
 exact⟨hg.reg_mem (by omega),hg.reg_mem (by omega)⟩
theorem Bq.apart {M:Ax}:∀ {L:List Uop} {N:Ax},Bq N L M→Do N→(∀ u∈L,u.cause=0→(0≤u.ins.rs1∧u.ins.rs1≤31)∧0≤u.ins.rs2∧u.ins.rs2≤31)→(∀ u∈L,u.cause≠0→u.a=0∧u.b=0)→L.Pairwise Apart
 |[],_,_,_,_,_=>List.Pairwise.nil
 |u::L,N,⟨h,h1⟩,hg,hi,hz=>by
  have hg1:=hg.next h
  refine List.pairwise_cons.2 ⟨fun v hv=>?_,h1.apart hg1 (fun u hu=>hi u (by simp [hu])) (fun u hu=>hz u (by simp [hu]))⟩
  have hvf:=h1.dest_free v hv
  have hr:u.a∈N.regs∧u.b∈N.regs:=by
   by_cases hc:u.cause=0
   ·exact h.src_mem hg (hi u (by simp)) hc
   ·obtain⟨e1,e2⟩:=hz u (by simp) hc
    have:=hg.reg_mem (i:=0) (by omega)
    rw [hg.zero] at this
    rw [e1,e2]
    exact⟨this,this⟩
  refine⟨fun hd e=>?_,fun hd e=>?_,fun hd e=>?_⟩
  ·exact hg.disjoint hr.1 (e▸Mm u _ (hvf hd))
  ·exact hg.disjoint hr.2 (e▸Mm u _ (hvf hd))
  ·have hud:0<u.dest:=by omega
   have hm:u.dest∈(Dk N u).regs:=by
    unfold Dk
    rw [if_pos hud]
    obtain⟨_,⟨r1,r2⟩,_⟩:=h.dst hud
    exact List.mem_set (by rw [hg.len];omega) _
   exact hg1.disjoint hm (e▸hvf hd)
theorem Bq.snoc {N M:Ax} {L:List Uop} {u:Uop} (h:Bq N L M) (hu:NOk M u):Bq N (L++[u]) (Dk M u):=
 Bq.append.2 ⟨M,h,hu,rfl⟩
def addFree (N:Ax) (p:Int):Ax:=⟨N.phys,N.regs,N.free++[p]⟩
theorem NOk.addFree {N:Ax} {u:Uop} (h:NOk N u) (p:Int):NOk (addFree N p) u:=by
 refine⟨h.src,fun hd=>?_,h.nodst⟩
 obtain⟨h1,h2,h3,h4⟩:=h.dst hd
 refine⟨h1,h2,?_,h4⟩
 show N.free++[p]=u.dest::(N.free++[p]).tail
 rw [h3]
 rfl
theorem Wt {N:Ax} {u:Uop} (h:NOk N u) (p:Int):Dk (Go.Proofs.YtapgojgcmlnbgaaGreatDoor.addFree N p) u=Go.Proofs.YtapgojgcmlnbgaaGreatDoor.addFree (Dk N u) p:=by
 unfold Dk
 split
 ·rename_i hd
  obtain⟨_,_,h3,_⟩:=h.dst hd
  unfold Go.Proofs.YtapgojgcmlnbgaaGreatDoor.addFree
  simp only
  congr 1
  rw [h3]
  rfl
 ·rfl
theorem Bq.addFree {M:Ax} (p:Int):∀ {L:List Uop} {N:Ax},Bq N L M→Bq (Go.Proofs.YtapgojgcmlnbgaaGreatDoor.addFree N p) L (Go.Proofs.YtapgojgcmlnbgaaGreatDoor.addFree M p)
 |[],_,h=>by cases h;rfl
 |u::L,N,⟨h,h1⟩=>⟨h.addFree p,by rw [Wt h];exact h1.addFree p⟩
def B5 (u:Uop):Slt:=⟨u.seq,decide (u.state=2)⟩
def Be (u:Uop):Bool:=Bp u.ins || A0 u.ins
def A4 (u:Uop):Bool:=A0 u.ins&&decide (u.state=2)&&decide (u.commit.state=0)
def G5 (u:Uop):Acc:=⟨u.seq,true,true,u.commit.at_,u.commit.many,u.commit.data,false⟩
def known (L:List Uop):List Acc:=(L.filter A4).map G5
def V3 (words:List Int) (p:Int):Int:=words.getD p.toNat 0
def Bf (words:List Int) (u:Uop):Acc:=
 if A4 u=true then G5 u
 else if Bp u.ins=true∧u.state=2∧u.commit.state=0 then ⟨u.seq,false,true,u32 (V3 words u.a+u.ins.imm),loadBytes u.ins.op,0,true⟩
 else ⟨u.seq,A0 u.ins,false,0,0,0,false⟩
def Dr (K:List Acc) (m:List Int) (seq pc:Int):Ins×Int:=
 if (Eb K m seq pc 4).2.1=true then Dn (bytesOf (Eb K m seq pc 4).1) 0 else (Fz,1)
def Ku (K:List Acc) (m:List Int) (u:Uop) (wa:Int):Com:=
 let s:=Eb K m u.seq (u32 (wa+u.ins.imm)) (loadBytes u.ins.op)
 if s.2.1=true then Cl { u.ins with imm:=0 } ⟨List.replicate 32 0,u.pc,0,0⟩ (bytesOf s.1) else By u.pc 3
def Ac (C:Core) (L:List Uop) (u:Uop):Com:=
 if Bp u.ins=true then Ku (known L) C.mem u (C.word u.a) else Cl u.ins (Ed C u) C.mem
def Cv (u:Uop):Bool:=decide (u.cause≠0) || (decide (u.state=2)&&decide (u.commit.state≠0))
def Er (u:Uop):Bool:=Ba u.ins || Cv u
def Eg:Int→List Uop→Int→Prop
 |p,[],q=>p=q
 |p,u::us,q=>u.pc=p∧(if Cv u=true then us=[] else Eg u.next us q)
structure T0 (C:Core) (L:List Uop) (v:Uop) (R:List Uop):Prop where
 seq:0≤v.seq∧v.seq<C.seq
 st:v.state=0∨v.state=1∨v.state=2
 fault:v.cause≠0→v.state=2∧v.commit=By v.pc v.cause∧v.a=0∧v.b=0∧v.dest=0
 cause:v.cause=0∨v.cause=1∨v.cause=2
 fetch:(v.ins,v.cause)=Dr (known L) C.mem v.seq v.pc
 pc:0≤v.pc∧v.pc≤4294967295
 next:0≤v.next∧v.next≤4294967295
 nextS:v.cause=0→(A0 v.ins || Ba v.ins)=true→v.next=u32 (v.pc+4)
 src:v.cause=0→v.state≠0→C.has v.a=true∧C.has v.b=true
 gs:v.guessed=true→v.state≠0∧0<v.dest∧Bp v.ins=true
 d1:0<v.dest→v.state≠2→C.has v.dest=true→v.guessed=true
 d2:0<v.dest→v.state=2→C.has v.dest=true∧C.word v.dest=v.commit.value
 com:v.cause=0→v.state=2→v.commit=Ac C L v
 nx:v.state=2→Cv v=false→v.next=v.commit.next
 lone:Ba v.ins=true→v.state≠0→L=[]
 last:Er v=true→R=[]∧C.still=true
structure Inv (C:Core):Prop where
 cfg:(1≤C.window∧C.window≤32)∧1≤C.wide∧C.wide≤4
 hart:C.hart.Wf
 may:Ip C.hart=true
 runs:C.hart.state=0
 bytes:Bytes C.mem
 room:C.mem.length≤4096
 tab:E9 C.table
 words:C.words.length=96∧∀ x∈C.words,0≤x∧x≤4294967295
 there:C.there.length=96
 slots:C.slots=C.ops.map B5
 seqs:C.ops.Pairwise (fun u v=>u.seq<v.seq)
 access:C.access=(C.ops.filter Be).map (Bf C.words)
 names:∃ N,Do N∧N.all.length=N.phys.toNat∧Bq N C.ops C.names∧∀ r,r<32→C.has (N.regs.getD r 0)=true∧C.word (N.regs.getD r 0)=C.hart.regs.getD r 0
 pcs:Eg C.hart.pc C.ops C.pc
 len:C.ops.length≤C.window
 seq0:0≤C.seq
 pc:0≤C.pc∧C.pc≤4294967295
 ops:∀ L v R,C.ops=L++v::R→T0 C L v R
theorem Inv.insOk {C:Core} {L R:List Uop} {v:Uop} (h:T0 C L v R) (hc:v.cause=0):IsP v.ins=true:=by
 have hf:=h.fetch
 unfold Dr at hf
 split at hf
 ·have:=Oe (m:=bytesOf (Eb (known L) C.mem v.seq v.pc 4).1) (pc:=0) (by rw [←hf];exact hc)
  rw [←hf] at this
  exact this.1
 ·injection hf with h1 h2
  omega
theorem Vx {L R L' R':List Uop} {u v:Uop} (h:L++u::R=L'++v::R'):(L'=L∧v=u∧R'=R)∨(∃ X,L=L'++v::X∧R'=X++u::R)∨(∃ X,L'=L++u::X∧R=X++v::R'):=by
 rcases List.append_eq_append_iff.1 h with⟨X,h1,h2⟩ | ⟨X,h1,h2⟩
 ·cases X with
  |nil=>
   simp at h1 h2
   left
   exact⟨h1,h2.1.symm,h2.2.symm⟩
  |cons y X=>
   rw [List.cons_append] at h2
   injection h2 with h2 h3
   right;right
   exact⟨X,by rw [h1,h2],h3⟩
 ·cases X with
  |nil=>
   simp at h1 h2
   left
   exact⟨h1.symm,h2.1,h2.2⟩
  |cons y X=>
   rw [List.cons_append] at h2
   injection h2 with h2 h3
   right;left
   exact⟨X,by rw [h1,h2],h3⟩
theorem Mj (A B:List Uop):known (A++B)=known A++known B:=by unfold known;simp
theorem Xt {L X:List Uop} {u u':Uop} (h:A4 u=false) (h':A4 u'=false):known (L++u'::X)=known (L++u::X):=by
 unfold known
 rw [List.filter_append,List.filter_append,List.filter_cons_of_neg (by simp [h']),List.filter_cons_of_neg (by simp [h])]
theorem T0.congr {C C':Core} {L L' R R':List Uop} {v:Uop} (h:T0 C L v R) (hq:v.seq<C'.seq)
  (hL:L=[]→L'=[]) (hR:R=[]→R'=[]) (hst:Er v=true→C.still=true→C'.still=true)
  (hf:Dr (known L') C'.mem v.seq v.pc=Dr (known L) C.mem v.seq v.pc)
  (hs:v.cause=0→v.state≠0→(C.has v.a=true→C'.has v.a=true)∧(C.has v.b=true→C'.has v.b=true))
  (hd:0<v.dest→C'.has v.dest=C.has v.dest∧C'.word v.dest=C.word v.dest)
  (hx:v.cause=0→v.state=2→Ac C' L' v=Ac C L v):T0 C' L' v R':=
 ⟨⟨h.seq.1,hq⟩,h.st,h.fault,h.cause,by rw [hf];exact h.fetch,h.pc,h.next,h.nextS,
  fun hc hn=>⟨(hs hc hn).1 (h.src hc hn).1,(hs hc hn).2 (h.src hc hn).2⟩,h.gs,
  fun h1 h2 h3=>h.d1 h1 h2 (by rw [←(hd h1).1];exact h3),fun h1 h2=>by rw [(hd h1).1,(hd h1).2];exact h.d2 h1 h2,
  fun h1 h2=>by rw [hx h1 h2];exact h.com h1 h2,h.nx,fun h1 h2=>hL (h.lone h1 h2),fun h1=>⟨hR (h.last h1).1,hst h1 (h.last h1).2⟩⟩
theorem Core.op_at {C:Core} {L R:List Uop} {u:Uop} (h:C.ops=L++u::R):C.op L.length=u:=by
 unfold Core.op
 rw [h]
 simp [List.getD]
theorem Gj {L R:List Uop} {u u':Uop}:(L++u::R).set L.length u'=L++u'::R:=by simp
theorem I4 {C C':Core} {L L':List Uop} {v:Uop} (hm:C'.mem=C.mem) (hh:C'.hart.regs=C.hart.regs) (hk:known L'=known L) (ha:C'.word v.a=C.word v.a) (hb:C'.word v.b=C.word v.b):Ac C' L' v=Ac C L v:=by
 unfold Ac Ed
 rw [hm,hh,hk,ha,hb]
theorem Ab6 {words:List Int} {d p:Int} (w:Int) (hd:0≤d) (hp:0≤p) (h:p≠d):(words.set d.toNat w).getD p.toNat 0=words.getD p.toNat 0:=by
 rw [Fa,if_neg (by omega)]
theorem Y0 {there:List Bool} {d p:Int} (w:Bool) (hd:0≤d) (hp:0≤p) (h:p≠d):(there.set d.toNat w).getD p.toNat false=there.getD p.toNat false:=by
 simp only [List.getD]
 rw [List.getElem?_set_ne (by omega)]
theorem Ag2 {words:List Int} {d:Int} (w:Int) (hd:0≤d) (h:d<words.length):(words.set d.toNat w).getD d.toNat 0=w:=by
 rw [Fa,if_pos (by omega)]
theorem Uy {there:List Bool} {d:Int} (w:Bool) (hd:0≤d) (h:d<there.length):(there.set d.toNat w).getD d.toNat false=w:=by
 simp only [List.getD]
 rw [List.getElem?_set_self (by omega)]
 rfl
theorem Ga {N M:Ax}:∀ {ops:List Uop},Bq N ops M→Do N→∀ {L R:List Uop} {u:Uop},ops=L++u::R→∃ K K',Do K∧NOk K u∧Bq N L K∧K'=Dk K u∧Bq K' R M:=by
 intro ops h hg L R u ho
 subst ho
 obtain⟨K,h1,h2,h3⟩:=Bq.append.1 h
 exact⟨K,_,h1.good hg,h2,h1,rfl,h3⟩
theorem Kd {N M:Ax} {C:Core} {L R:List Uop} {u:Uop} (hc:Bq N (L++u::R) M) (hg:Do N) (hu:T0 C L u R):(0≤u.a∧u.a<96)∧(0≤u.b∧u.b<96)∧0≤u.dest∧u.dest<96:=by
 obtain⟨K,_,hK,hN,_⟩:=Ga hc hg rfl
 have hd:0≤u.dest∧u.dest<96:=by
  by_cases h:0<u.dest
  ·have hf:=(hN.dst h).2.2.1
   have:=hK.free_pos (p:=u.dest) (by rw [hf];simp)
   omega
  ·have:=(hN.nodst (by omega)).1
   omega
 by_cases hc:u.cause=0
 ·obtain⟨e1,e2⟩:=hN.src hc
  have hi:=Ho (Inv.insOk hu hc)
  rw [e1,e2]
  exact⟨hK.reg_range (by omega),hK.reg_range (by omega),hd⟩
 ·obtain⟨_,_,e1,e2,_⟩:=hu.fault hc
  rw [e1,e2]
  exact⟨by omega,by omega,hd⟩
theorem Inv.apart {C:Core} (h:Inv C):C.ops.Pairwise Apart:=by
 obtain⟨N,hg,_,hc,_⟩:=h.names
 refine hc.apart hg (fun u hu=>fun hcz=>?_) (fun u hu=>fun hcn=>?_)
 ·obtain⟨L,R,e⟩:=List.append_of_mem hu
  have:=Ho (Inv.insOk (h.ops L u R e) hcz)
  omega
 ·obtain⟨L,R,e⟩:=List.append_of_mem hu
  obtain⟨_,_,e1,e2,_⟩:=(h.ops L u R e).fault hcn
  exact⟨e1,e2⟩
theorem Inv.head {C:Core} (h:Inv C) {L R:List Uop} {u:Uop} (ho:C.ops=L++u::R) (hs:u.seq=(C.op 0).seq):L=[]:=by
 cases L with
 |nil=>rfl
 |cons x L=>
  exfalso
  have hx:C.op 0=x:=by unfold Core.op;rw [ho];rfl
  have hp:=h.seqs
  rw [ho,List.cons_append] at hp
  have:=(List.pairwise_cons.1 hp).1 u (by simp)
  rw [hx] at hs
  omega
theorem Inv.begun {C:Core} (h:Inv C) {L R:List Uop} {u u':Uop} (ho:C.ops=L++u::R) (s:List Int) (words:List Int) (there:List Bool)
  (hu:u'={ u with state:=1,ready:=u'.ready,guessed:=u'.guessed }) (h0:u.state=0) (ha:C.has u.a=true) (hb:C.has u.b=true) (hal:Ba u.ins=true→L=[])
  (hw:words.length=96∧∀ x∈words,0≤x∧x≤4294967295) (ht:there.length=96)
  (hsame:∀ p:Int,0≤p→(0<u.dest→p≠u.dest)→words.getD p.toNat 0=C.word p∧there.getD p.toNat false=C.has p) (hmono:∀ p:Int,C.has p=true→there.getD p.toNat false=true)
  (hg:u'.guessed=true→0<u.dest∧Bp u.ins=true) (hg2:0<u.dest→there.getD u.dest.toNat false=true→u'.guessed=true) :
  Inv { C with ops:=L++u'::R,script:=s,words:=words,there:=there }:=by
 obtain⟨N,hgN,hlN,hcN,hvN⟩:=h.names
 have hap:=h.apart
 have hreg:∀ L' v R',C.ops=L'++v::R'→(0≤v.a∧v.a<96)∧(0≤v.b∧v.b<96)∧0≤v.dest∧v.dest<96:=fun L' v R' e=>Kd (by rw [←e];exact hcN) hgN (h.ops L' v R' e)
 have hops:=h.ops
 rw [ho] at hap hcN hops hreg
 obtain⟨hap1,hap2,hap3⟩:=List.pairwise_append.1 hap
 have huR:=(List.pairwise_cons.1 hap2).1
 have hOu:=hops L u R rfl
 have hstop:Cv u'=Cv u:=by rw [hu];unfold Cv;simp [h0]
 have hkn:A4 u=false:=by unfold A4;rw [h0];simp
 have hkn':A4 u'=false:=by rw [hu];unfold A4;simp
 have hmem:Be u'=Be u:=by rw [hu];rfl
 have hother:∀ L' v R',L++u::R=L'++v::R'→v≠u∨L'≠L→(v.state≠0→v.cause=0→(0<u.dest→v.a≠u.dest∧v.b≠u.dest))∧(0<u.dest→0<v.dest→v.dest≠u.dest):=by
  intro L' v R' e hne
  rcases Vx e with⟨e1,e2,_⟩ | ⟨X,e1,e2⟩ | ⟨X,e1,e2⟩
  ·exact absurd e1 (by rcases hne with hh | hh;exact absurd e2 hh;exact hh)
  ·have:=hap3 v (by rw [e1];simp) u (by simp)
   exact⟨fun _ _ hd=>⟨this.a hd,this.b hd⟩,fun hd _=>this.d hd⟩
  ·have hv:=huR v (by rw [e2];simp)
   have hOv:=hops L' v R' e
   refine⟨fun hs hc hd=>?_,fun hd hd'=>fun e=>hv.d hd' e.symm⟩
   have hnot:C.has u.dest=true→False:=fun hh=>by
    have:=hOu.gs (hOu.d1 hd (by omega) hh)
    exact this.1 h0
   obtain⟨s1,s2⟩:=hOv.src hc hs
   exact⟨fun e=>hnot (e▸s1),fun e=>hnot (e▸s2)⟩
 have hacc:∀ L' v R',L++u::R=L'++v::R'→v≠u∨L'≠L→Bf words v=Bf C.words v:=by
  intro L' v R' e hne
  unfold Bf
  split
  ·rfl
  ·split
   ·rename_i hl
    have hOv:=hops L' v R' e
    have hc:v.cause=0:=by
     rcases Decidable.em (v.cause=0) with hc | hc
     ·exact hc
     ·obtain⟨_,e1,_⟩:=hOv.fault hc
      have:=hl.2.2
      rw [e1] at this
      cases this
    have h1:=(hother L' v R' e hne).1 (by omega) hc
    have h2:=(hsame v.a (hreg L' v R' e).1.1 (fun hd=>(h1 hd).1)).1
    unfold V3
    rw [h2]
    rfl
   ·rfl
 refine⟨h.cfg,h.hart,h.may,h.runs,h.bytes,h.room,h.tab,hw,ht,?_,?_,?_,⟨N,hgN,hlN,?_,fun r hr=>?_⟩,?_,?_,h.seq0,h.pc,?_⟩
 ·show C.slots=(L++u'::R).map B5
  rw [h.slots,ho]
  simp only [List.map_append,List.map_cons]
  congr 2
  rw [hu];unfold B5;simp [h0]
 ·show(L++u'::R).Pairwise _
  have:=h.seqs
  rw [ho] at this
  rw [List.pairwise_append,List.pairwise_cons] at this ⊢
  obtain⟨p1,⟨p2,p3⟩,p4⟩:=this
  have hseq:u'.seq=u.seq:=by rw [hu]
  refine⟨p1,⟨fun v hv=>by rw [hseq];exact p2 v hv,p3⟩,fun a ha b hb=>?_⟩
  rcases List.mem_cons.1 hb with rfl | hb
  ·rw [hseq];exact p4 a ha u (by simp)
  ·exact p4 a ha b (by simp [hb])
 ·show C.access=((L++u'::R).filter Be).map (Bf words)
  rw [h.access,ho]
  have hL:(L.filter Be).map (Bf words)=(L.filter Be).map (Bf C.words):=List.map_congr_left fun v hv=>by
   obtain⟨X,Y,e⟩:=List.append_of_mem (List.mem_filter.1 hv).1
   exact hacc X v (Y++u::R) (by rw [e];simp) (Or.inr (by rw [e];intro hh;have:=congrArg List.length hh;simp at this))
  have hR:(R.filter Be).map (Bf words)=(R.filter Be).map (Bf C.words):=List.map_congr_left fun v hv=>by
   obtain⟨X,Y,e⟩:=List.append_of_mem (List.mem_filter.1 hv).1
   exact hacc (L++u::X) v Y (by simp [e]) (Or.inr (fun hh=>by have:=congrArg List.length hh;simp at this))
  have hU:Bf words u'=Bf C.words u:=by
   unfold Bf
   rw [hkn,hkn',hu]
   simp [h0]
  rw [List.filter_append,List.filter_append,List.map_append,List.map_append,hL]
  congr 1
  rcases hm:Be u with _ | _
  ·rw [List.filter_cons_of_neg (by simp [hm]),List.filter_cons_of_neg (by rw [hmem];simp [hm]),hR]
  ·rw [List.filter_cons_of_pos hm,List.filter_cons_of_pos (by rw [hmem];exact hm),List.map_cons,List.map_cons,hR,hU]
 ·show Bq N (L++u'::R) C.names
  rw [Bq.append] at hcN ⊢
  obtain⟨K,h1,h2,h3⟩:=hcN
  refine⟨K,h1,?_,?_⟩
  ·rw [hu];exact⟨h2.src,h2.dst,h2.nodst⟩
  ·have:Dk K u'=Dk K u:=by rw [hu];rfl
   rw [this]
   exact h3
 ·have hr0:=hgN.reg_range (i:=r) hr
  have hne:0<u.dest→N.regs.getD r 0≠u.dest:=fun hd e=>hgN.disjoint (hgN.reg_mem hr) (e▸hcN.dest_free u (by simp) hd)
  obtain⟨e1,e2⟩:=hsame _ hr0.1 hne
  exact⟨e2.trans (hvN r hr).1,e1.trans (hvN r hr).2⟩
 ·show Eg C.hart.pc (L++u'::R) C.pc
  have:=h.pcs
  rw [ho] at this
  revert this
  generalize C.hart.pc=p
  clear h ho h0 ha hb hal hw ht hsame hmono hg hg2 hcN hvN hap hap1 hap2 hap3 huR hreg hops hOu hkn hkn' hmem hother hacc
  induction L generalizing p with
  |nil=>
   rintro⟨h1,h2⟩
   refine⟨by rw [hu];exact h1,?_⟩
   rw [hstop]
   have:u'.next=u.next:=by rw [hu]
   rw [this]
   exact h2
  |cons x L ih=>
   rintro⟨h1,h2⟩
   refine⟨h1,?_⟩
   by_cases hs:Cv x=true
   ·rw [if_pos hs] at h2 ⊢
    simp at h2
   ·rw [if_neg hs] at h2 ⊢
    exact ih _ h2
 ·show(L++u'::R).length≤C.window
  have:=h.len
  rw [ho] at this
  simpa using this
 ·intro L' v R' e
  have e:L++u'::R=L'++v::R':=e
  rcases Vx e with⟨rfl,rfl,rfl⟩ | ⟨X,e1,e2⟩ | ⟨X,e1,e2⟩
  ·
   have e':∀ {α:Type} (f:Uop→α),f v=f { u with state:=1,ready:=v.ready,guessed:=v.guessed }:=fun f=>congrArg f hu
   have i1:v.ins=u.ins:=e' Uop.ins
   have i2:v.cause=u.cause:=e' Uop.cause
   have i3:v.a=u.a:=e' Uop.a
   have i4:v.b=u.b:=e' Uop.b
   have i5:v.dest=u.dest:=e' Uop.dest
   have i6:v.seq=u.seq:=e' Uop.seq
   have i7:v.pc=u.pc:=e' Uop.pc
   have i8:v.next=u.next:=e' Uop.next
   have i9:v.state=1:=e' Uop.state
   have hcz:u.cause=0:=by
    rcases Decidable.em (u.cause=0) with hc | hc
    ·exact hc
    ·have:=(hOu.fault hc).1;omega
   refine⟨by rw [i6];exact hOu.seq,Or.inr (Or.inl i9),fun hc=>absurd hcz (by rw [←i2];exact hc),by rw [i2];exact hOu.cause,by rw [i1,i2,i6,i7];exact hOu.fetch,by rw [i7];exact hOu.pc,by rw [i8];exact hOu.next,
    by rw [i1,i2,i7,i8];exact hOu.nextS,fun _ _=>⟨?_,?_⟩,fun hgg=>⟨by omega,by rw [i5];exact(hg hgg).1,by rw [i1];exact(hg hgg).2⟩,fun hd _ hh=>?_,fun _ hs=>by omega,fun _ hs=>by omega,fun hs=>by omega,fun hl _=>by rw [i1] at hl;exact hal hl,fun hl=>?_⟩
   ·show there.getD v.a.toNat false=true
    rw [i3];exact hmono _ ha
   ·show there.getD v.b.toNat false=true
    rw [i4];exact hmono _ hb
   ·rw [i5] at hd
    exact hg2 hd (by rw [←i5];exact hh)
   ·have:Er u=true:=by unfold Er at hl ⊢;rw [←hstop,←i1];exact hl
    exact hOu.last this
  ·
   subst e1 e2
   have hO:=hops L' v (X++u::R) (by simp)
   have hne:L'≠L'++v::X:=fun hh=>by have:=congrArg List.length hh;simp at this
   obtain⟨o1,o2⟩:=hother L' v (X++u::R) (by simp) (Or.inr hne)
   obtain⟨q1,q2,q3,_⟩:=hreg L' v (X++u::R) (by simp)
   refine hO.congr hO.seq.2 id (fun hh=>by simp at hh) (fun _ hh=>hh) rfl (fun hc hs=>⟨hmono _,hmono _⟩) (fun hd=>?_) (fun hc hs=>?_)
   ·obtain⟨e1,e2⟩:=hsame v.dest q3 (fun hd'=>o2 hd' hd)
    exact⟨e2,e1⟩
   ·have:=o1 (by omega) hc
    exact I4 rfl rfl rfl (hsame v.a q1.1 fun hd=>(this hd).1).1 (hsame v.b q2.1 fun hd=>(this hd).2).1
  ·
   subst e1 e2
   have hO:=hops (L++u::X) v R' (by simp)
   have hne:L++u::X≠L:=fun hh=>by have:=congrArg List.length hh;simp at this
   obtain⟨o1,o2⟩:=hother (L++u::X) v R' (by simp) (Or.inr hne)
   obtain⟨q1,q2,q3,_⟩:=hreg (L++u::X) v R' (by simp)
   have hk:known (L++u'::X)=known (L++u::X):=Xt hkn hkn'
   refine hO.congr hO.seq.2 (fun hh=>by simp at hh) id (fun _ hh=>hh) (by rw [hk]) (fun hc hs=>⟨hmono _,hmono _⟩) (fun hd=>?_) (fun hc hs=>?_)
   ·obtain⟨e1,e2⟩:=hsame v.dest q3 (fun hd'=>o2 hd' hd)
    exact⟨e2,e1⟩
   ·have:=o1 (by omega) hc
    exact I4 rfl rfl hk (hsame v.a q1.1 fun hd=>(this hd).1).1 (hsame v.b q2.1 fun hd=>(this hd).2).1
theorem Ae3 {C:Core} (h:Inv C) {L R:List Uop} {u:Uop} (ho:C.ops=L++u::R) (now:Int):Inv (Cb C L.length now (C.op 0).seq).2:=by
 have hu:C.op L.length=u:=Core.op_at ho
 unfold Cb
 rw [hu]
 simp only [ho,Gj]
 split
 ·exact h
 rename_i hn
 have h0:u.state=0:=by rcases Decidable.em (u.state=0) with e | e;exact e;exact absurd (Or.inl e) hn
 have ha:C.has u.a=true:=by rcases e:C.has u.a with _ | _;exact absurd (Or.inr (Or.inl e)) hn;rfl
 have hb:C.has u.b=true:=by rcases e:C.has u.b with _ | _;exact absurd (Or.inr (Or.inr (Or.inl e))) hn;rfl
 have hal:Ba u.ins=true→L=[]:=fun hl=>by
  rcases Decidable.em (u.seq=(C.op 0).seq) with e | e
  ·exact h.head ho e
  ·exact absurd (Or.inr (Or.inr (Or.inr ⟨hl,e⟩))) hn
 clear hn
 obtain⟨N,hgN,_,hcN,_⟩:=h.names
 have hO:=h.ops L u R ho
 obtain⟨_,_,hd0,hd1⟩:=Kd (by rw [←ho];exact hcN) hgN hO
 have hgz:u.guessed=false:=by
  rcases e:u.guessed with _ | _
  ·rfl
  ·exact absurd h0 (hO.gs e).1
 have plain:∀ (s:List Int) (r:Int),Inv { C with ops:=L++{ u with state:=1,ready:=r }::R,script:=s }:=fun s r=>
  h.begun ho s C.words C.there rfl h0 ha hb hal h.words h.there (fun p _ _=>⟨rfl,rfl⟩) (fun p hp=>hp) (fun hg=>by have hg:u.guessed=true:=hg;rw [hgz] at hg;cases hg)
   (fun hd hh=>by
    have:=hO.d1 hd (by omega) hh
    rw [hgz] at this;cases this)
 split
 ·exact plain C.script _
 split
 ·rename_i hl
  split
  ·rename_i hg
   show Inv { Di _ u.dest _ with ops:=_ }
   unfold Di
   rw [if_pos hg.1]
   refine h.begun ho _ _ _ rfl h0 ha hb hal ⟨by simp [h.words.1],fun x hx=>?_⟩ (by simp [h.there]) (fun p hp hne=>⟨Ab6 _ hd0 hp (hne hg.1),Y0 _ hd0 hp (hne hg.1)⟩) (fun p hp=>?_) (fun _=>⟨hg.1,hl⟩) (fun _ _=>rfl)
   ·rcases List.mem_or_eq_of_mem_set hx with hx | rfl
    ·exact h.words.2 x hx
    ·exact Da _
   ·by_cases e:p.toNat=u.dest.toNat
    ·have:=Uy (there:=C.there) true hd0 (by rw [h.there];exact hd1)
     rw [e];exact this
    ·simp only [List.getD]
     rw [List.getElem?_set_ne (fun x=>e x.symm)]
     exact hp
  ·exact plain C.script.tail _
 ·exact plain C.script _
theorem Y1 {α:Type} (p:α→Bool):∀ (P:List α) (b:α) (Q:List α) (k:Int),(∀ x∈P,p x=false)→p b=true→Cy p (P++b::Q) k=k+P.length
 |[],b,Q,k,_,h=>by
  show(if p b=true then k else _)=_
  rw [if_pos h]
  simp
 |x::P,b,Q,k,h,hb=>by
  show(if p x=true then k else Cy p (P++b::Q) (k+1))=_
  rw [if_neg (by rw [h x (by simp)];simp),Y1 p P b Q (k+1) (fun y hy=>h y (by simp [hy])) hb]
  simp
  omega
theorem D1 {P Q:List Uop} {b:Uop} (h:(P++b::Q).Pairwise (fun u v=>u.seq<v.seq)):(∀ x∈P,x.seq<b.seq)∧∀ x∈Q,b.seq<x.seq:=by
 rw [List.pairwise_append,List.pairwise_cons] at h
 exact⟨fun x hx=>h.2.2 x hx b (by simp),h.2.1.1⟩
theorem Aje {P Q:List Uop} {b:Uop} (h:(P++b::Q).Pairwise (fun u v=>u.seq<v.seq)):I6 (P++b::Q) b.seq=P.length:=by
 unfold I6
 rw [Y1 (fun u:Uop=>decide (u.seq=b.seq)) P b Q 0 (fun x hx=>qG (by have:=(D1 h).1 x hx;omega)) (qF rfl)]
 omega
theorem Ahq {P Q:List Uop} {b:Uop} (h:(P++b::Q).Pairwise (fun u v=>u.seq<v.seq)):(P++b::Q).getD (I6 (P++b::Q) b.seq).toNat Bz=b:=by
 rw [Aje h]
 simp [List.getD]
theorem Rh {M:Ax}:∀ {B A:List Uop} {K:Ax},Bq K B M→Do K→(A++B).Pairwise (fun u v=>u.seq<v.seq)→((B.map (·.seq)).reverse).foldl (Ei (A++B)) M=K
 |[],_,_,h,_,_=>by cases h;rfl
 |b::B,A,K,⟨h,h1⟩,hg,hp=>by
  rw [List.map_cons,List.reverse_cons,List.foldl_append]
  have e:A++b::B=(A++[b])++B:=by simp
  rw [e,Rh h1 (hg.next h) (by rw [←e];exact hp),←e]
  show Ei (A++b::B) (Dk K b) b.seq=K
  unfold Ei
  rw [Ahq hp]
  simp only
  split
  ·rename_i hd
   rw [Agz hg h hd]
   rfl
  ·rename_i hd
   unfold Dk
   rw [if_neg hd]
theorem filter_lt {A B:List Uop} {s:Int} (hA:∀ u∈A,u.seq<s) (hB:∀ u∈B,s≤u.seq):(A++B).filter (fun u=>!decide (s≤u.seq))=A:=by
 rw [List.filter_append,List.filter_eq_self.2 (fun u hu=>by have:=hA u hu;simp;omega),List.filter_eq_nil_iff.2 (fun u hu=>by have:=hB u hu;simp;omega),List.append_nil]
theorem Aed {c:Core} {A B:List Uop} {K:Ax} {g:Uop→Acc} {s:Int} (pc:Int) (ho:c.ops=A++B) (hs:c.slots=(A++B).map B5) (hp:(A++B).Pairwise (fun u v=>u.seq<v.seq))
  (hA:∀ u∈A,u.seq<s) (hB:∀ u∈B,s≤u.seq) (hg:∀ u,(g u).seq=u.seq) (hacc:c.access=((A++B).filter Be).map g) (hN:Bq K B c.names) (hK:Do K) :
  F5 c s pc={ c with backs:=c.backs+1,names:=K,slots:=A.map B5,ops:=A,access:=(A.filter Be).map g,pc:=pc,still:=false }:=by
 have hcutO:Lj c.slots s=(B.map (·.seq)).reverse:=by
  unfold Lj
  rw [hs,List.map_append,List.filter_append,List.filter_eq_nil_iff.2 (fun x hx=>?_),List.filter_eq_self.2 (fun x hx=>?_)]
  ·simp [B5,Function.comp_def]
  ·obtain⟨u,hu,rfl⟩:=List.mem_map.1 hx
   have:=hB u hu
   exact qF (p:=s≤u.seq) this
  ·obtain⟨u,hu,rfl⟩:=List.mem_map.1 hx
   have:=hA u hu
   exact fun h=>by have:=of_decide_eq_true (p:=s≤u.seq) h;omega
 have hcutL:Nb c.slots s=A.map B5:=by
  unfold Nb
  rw [hs,List.map_append,List.filter_append,List.filter_eq_self.2 (fun x hx=>?_),List.filter_eq_nil_iff.2 (fun x hx=>?_),List.append_nil]
  ·obtain⟨u,hu,rfl⟩:=List.mem_map.1 hx
   have:=hB u hu
   exact fun h=>by have:=of_decide_eq_true (p:=u.seq<s) h;omega
  ·obtain⟨u,hu,rfl⟩:=List.mem_map.1 hx
   have:=hA u hu
   exact qF (p:=u.seq<s) this
 unfold F5
 rw [hcutO,hcutL,ho,Rh hN hK hp,filter_lt hA hB]
 have hac:c.access.filter (fun a=>!decide (s≤a.seq))=(A.filter Be).map g:=by
  rw [hacc,List.filter_map,List.filter_filter]
  congr 1
  rw [List.filter_append,List.filter_eq_nil_iff (l:=B).2 (fun u hu=>by have:=hB u hu;simp [hg];omega),List.append_nil]
  refine List.filter_congr fun u hu=>?_
  have:=hA u hu
  simp [hg]
  omega
 rw [hac]
theorem Ew (words:List Int) (u:Uop):(Bf words u).seq=u.seq:=by
 unfold Bf G5
 (repeat' split)<;>rfl
theorem Adl (words:List Int) (seq p:Int) (u:Uop):G8 seq p (Bf words u)=(A4 u&&G8 seq p (G5 u)):=by
 unfold Bf
 rcases hk:A4 u with _ | _
 ·rw [if_neg (by simp)]
  split
  ·unfold G8;simp
  ·unfold G8;simp
 ·rw [if_pos rfl];simp
theorem Abw {u:Uop} (h:A4 u=true):Be u=true:=by
 unfold A4 at h
 unfold Be
 simp only [Bool.and_eq_true] at h
 rw [h.1.1]
 simp
theorem T1 (words:List Int) (seq p:Int):∀ ops:List Uop,((ops.filter Be).map (Bf words)).filter (G8 seq p)=(known ops).filter (G8 seq p)
 |[]=>rfl
 |u::ops=>by
  have ih:=T1 words seq p ops
  unfold known at ih ⊢
  rcases hk:A4 u with _ | _
  ·rw [List.filter_cons_of_neg (p:=A4) (by simp [hk])]
   rcases hm:Be u with _ | _
   ·rw [List.filter_cons_of_neg (p:=Be) (by simp [hm])]
    exact ih
   ·rw [List.filter_cons_of_pos (p:=Be) hm,List.map_cons,List.filter_cons_of_neg (by rw [Adl,hk];simp)]
    exact ih
  ·have ha:Bf words u=G5 u:=by unfold Bf;rw [if_pos hk]
   rw [List.filter_cons_of_pos (p:=A4) hk,List.filter_cons_of_pos (p:=Be) (Abw hk),List.map_cons,List.map_cons,ha]
   rcases hr:G8 seq p (G5 u) with _ | _
   ·rw [List.filter_cons_of_neg (by simp [hr]),List.filter_cons_of_neg (by simp [hr])]
    exact ih
   ·rw [List.filter_cons_of_pos hr,List.filter_cons_of_pos hr,ih]
theorem Aga {A B:List Uop} {seq:Int} (p:Int) (h:∀ v∈B,seq≤v.seq):(known (A++B)).filter (G8 seq p)=(known A).filter (G8 seq p):=by
 rw [Mj,List.filter_append]
 have:(known B).filter (G8 seq p)=[]:=by
  rw [List.filter_eq_nil_iff]
  intro a ha
  obtain⟨v,hv,rfl⟩:=List.mem_map.1 ha
  have:=h v (List.mem_filter.1 hv).1
  unfold G8 G5
  simp
  omega
 rw [this,List.append_nil]
theorem Vu {words:List Int} {A B:List Uop} {seq:Int} (m:List Int) (p many:Int) (h:∀ v∈B,seq≤v.seq) :
  (Eb (((A++B).filter Be).map (Bf words)) m seq p many).1=(Eb (known A) m seq p many).1∧(Eb (((A++B).filter Be).map (Bf words)) m seq p many).2.1=(Eb (known A) m seq p many).2.1:=
 Pv rfl fun q _ _ _ _=>Sq m (by rw [T1,Aga q h])
theorem Ac8 {A:List Uop} (h:A.Pairwise (fun u v=>u.seq<v.seq)):(known A).Pairwise (fun a c=>a.seq≤c.seq):=by
 unfold known
 rw [List.pairwise_map]
 exact(h.sublist List.filter_sublist).imp fun h=>Int.le_of_lt h
theorem Eg.cut {v:Uop} {Y:List Uop}:∀ {A:List Uop} {p q:Int},Eg p (A++v::Y) q→Eg p A v.pc∧∀ x∈A,Cv x=false
 |[],p,q,⟨h1,_⟩=>⟨h1.symm,fun x hx=>by cases hx⟩
 |a::A,p,q,⟨h1,h2⟩=>by
  by_cases hs:Cv a=true
  ·rw [if_pos hs] at h2
   simp at h2
  ·rw [if_neg hs] at h2
   obtain⟨h3,h4⟩:=Eg.cut h2
   refine⟨⟨h1,by rw [if_neg hs];exact h3⟩,fun x hx=>?_⟩
   rcases List.mem_cons.1 hx with rfl | hx
   ·simpa using hs
   ·exact h4 x hx
theorem Eg.snoc {u:Uop}:∀ {A:List Uop} {p:Int},Eg p A u.pc→(∀ x∈A,Cv x=false)→∀ q,(Cv u=false→u.next=q)→Eg p (A++[u]) q
 |[],p,h,_,q,hq=>by
  refine⟨(show p=u.pc from h).symm,?_⟩
  split
  ·rfl
  ·rename_i hs
   exact hq (by simpa using hs)
 |a::A,p,⟨h1,h2⟩,hs,q,hq=>by
  have ha:=hs a (by simp)
  refine⟨h1,?_⟩
  rw [if_neg (by rw [ha];simp)] at h2 ⊢
  exact Eg.snoc h2 (fun x hx=>hs x (by simp [hx])) q hq
theorem Eg.put {u u':Uop} {X:List Uop} (hpc:u'.pc=u.pc) (hn:u'.next=u.next) (hs:Cv u'=Cv u) {q:Int}:∀ {L:List Uop} {p:Int},Eg p (L++u::X) q→Eg p (L++u'::X) q
 |[],p,⟨h1,h2⟩=>⟨by rw [hpc];exact h1,by rw [hs,hn];exact h2⟩
 |a::L,p,⟨h1,h2⟩=>by
  refine⟨h1,?_⟩
  by_cases hst:Cv a=true
  ·rw [if_pos hst] at h2
   simp at h2
  ·rw [if_neg hst] at h2 ⊢
   exact Eg.put hpc hn hs h2
theorem Inv.done {C:Core} (h:Inv C) {L X Y:List Uop} {u u':Uop} (ho:C.ops=L++u::(X++Y)) (h1:u.state=1)
  (hu:u'={ u with state:=2,commit:=Ac C L u,next:=u'.next }) (words:List Int) (there:List Bool)
  (hw:words.length=96∧∀ x∈words,0≤x∧x≤4294967295) (ht:there.length=96)
  (hsame:∀ p:Int,0≤p→(0<u.dest→p≠u.dest)→words.getD p.toNat 0=C.word p∧there.getD p.toNat false=C.has p)
  (hd:0<u.dest→there.getD u.dest.toNat false=true∧words.getD u.dest.toNat 0=(Ac C L u).value)
  (hold:X≠[]→0<u.dest→C.has u.dest=true→C.word u.dest=(Ac C L u).value)
  (M:Ax) (hM:∀ N,Bq N (L++u::X++Y) C.names→Do N→Bq N (L++u::X) M)
  (hf:∀ X1 v X2,X=X1++v::X2→Dr (known (L++u'::X1)) C.mem v.seq v.pc=Dr (known (L++u::X1)) C.mem v.seq v.pc)
  (hl:∀ X1 v X2,X=X1++v::X2→Bp v.ins=true→v.state=2→Ku (known (L++u'::X1)) C.mem v (C.word v.a)=Ku (known (L++u::X1)) C.mem v (C.word v.a))
  (pc backs:Int) (still:Bool) (hpc:Eg C.hart.pc (L++u'::X) pc) (hpcr:0≤pc∧pc≤4294967295)
  (hnr:0≤u'.next∧u'.next≤4294967295) (hnx:Cv u'=false→u'.next=(Ac C L u).next) (hns:(A0 u.ins || Ba u.ins)=true→u'.next=u32 (u.pc+4))
  (hlast:Er u'=true→X=[]∧still=true) (hst:Y=[]→X≠[]→C.still=true→still=true) :
  Inv { C with ops:=L++u'::X,slots:=(L++u'::X).map B5,access:=((L++u'::X).filter Be).map (Bf words),names:=M,words:=words,there:=there,pc:=pc,still:=still,backs:=backs }:=by
 obtain⟨N,hgN,hlN,hcN,hvN⟩:=h.names
 have hap:=h.apart
 have hreg:∀ L' v R',C.ops=L'++v::R'→(0≤v.a∧v.a<96)∧(0≤v.b∧v.b<96)∧0≤v.dest∧v.dest<96:=fun L' v R' e=>Kd (by rw [←e];exact hcN) hgN (h.ops L' v R' e)
 have hops:=h.ops
 have hsq:=h.seqs
 rw [ho] at hap hcN hops hreg hsq
 obtain⟨hap1,hap2,hap3⟩:=List.pairwise_append.1 hap
 have huR:=(List.pairwise_cons.1 hap2).1
 have hOu:=hops L u (X++Y) rfl
 have e':∀ {α:Type} (f:Uop→α),f u'=f { u with state:=2,commit:=Ac C L u,next:=u'.next }:=fun f=>congrArg f hu
 have i1:u'.ins=u.ins:=e' Uop.ins
 have i2:u'.cause=u.cause:=e' Uop.cause
 have i3:u'.a=u.a:=e' Uop.a
 have i4:u'.b=u.b:=e' Uop.b
 have i5:u'.dest=u.dest:=e' Uop.dest
 have i6:u'.seq=u.seq:=e' Uop.seq
 have i7:u'.pc=u.pc:=e' Uop.pc
 have i9:u'.state=2:=e' Uop.state
 have i10:u'.commit=Ac C L u:=e' Uop.commit
 have i11:u'.guessed=u.guessed:=e' Uop.guessed
 have i12:u'.old=u.old:=e' Uop.old
 have hcz:u.cause=0:=by
  rcases Decidable.em (u.cause=0) with hc | hc
  ·exact hc
  ·have:=(hOu.fault hc).1;omega
 have hmem:Be u'=Be u:=by unfold Be;rw [i1]
 have hbeh:∀ v∈X++Y,0<v.dest→u.a≠v.dest∧u.b≠v.dest∧u.dest≠v.dest:=fun v hv hd'=>⟨(huR v hv).a hd',(huR v hv).b hd',(huR v hv).d hd'⟩
 have hself:0<u.dest→u.a≠u.dest∧u.b≠u.dest:=by
  intro hd'
  obtain⟨K,_,hK,hNk,_⟩:=Ga hcN hgN rfl
  have hfr:u.dest∈K.free:=by rw [(hNk.dst hd').2.2.1];simp
  have hi:=Ho (Inv.insOk hOu hcz)
  obtain⟨m1,m2⟩:=hNk.src_mem hK (fun _=>⟨by omega,by omega⟩) hcz
  exact⟨fun e=>hK.disjoint m1 (e▸hfr),fun e=>hK.disjoint m2 (e▸hfr)⟩
 have hLw:∀ v∈L,words.getD v.a.toNat 0=C.word v.a∧there.getD v.a.toNat false=C.has v.a∧words.getD v.b.toNat 0=C.word v.b∧there.getD v.b.toNat false=C.has v.b∧words.getD v.dest.toNat 0=C.word v.dest∧there.getD v.dest.toNat false=C.has v.dest:=by
  intro v hv
  obtain⟨P,Q,e⟩:=List.append_of_mem hv
  obtain⟨q1,q2,q3,_⟩:=hreg P v (Q++u::(X++Y)) (by rw [e];simp)
  have ha:=hap3 v hv u (by simp)
  obtain⟨a1,a2⟩:=hsame v.a q1.1 ha.a
  obtain⟨b1,b2⟩:=hsame v.b q2.1 ha.b
  obtain⟨d1,d2⟩:=hsame v.dest q3 ha.d
  exact⟨a1,a2,b1,b2,d1,d2⟩
 have hUw:words.getD u.a.toNat 0=C.word u.a∧there.getD u.a.toNat false=C.has u.a∧words.getD u.b.toNat 0=C.word u.b∧there.getD u.b.toNat false=C.has u.b:=by
  obtain⟨q1,q2,_⟩:=hreg L u (X++Y) rfl
  obtain⟨a1,a2⟩:=hsame u.a q1.1 fun hd'=>(hself hd').1
  obtain⟨b1,b2⟩:=hsame u.b q2.1 fun hd'=>(hself hd').2
  exact⟨a1,a2,b1,b2⟩
 have hXw:∀ X1 v X2,X=X1++v::X2→v.cause=0→v.state≠0→words.getD v.a.toNat 0=C.word v.a∧there.getD v.a.toNat false=C.has v.a∧words.getD v.b.toNat 0=C.word v.b∧there.getD v.b.toNat false=C.has v.b:=by
  intro X1 v X2 e hc hs
  have hOv:=hops (L++u::X1) v (X2++Y) (by rw [e];simp)
  obtain⟨q1,q2,_⟩:=hreg (L++u::X1) v (X2++Y) (by rw [e];simp)
  obtain⟨s1,s2⟩:=hOv.src hc hs
  have key:∀ p:Int,0≤p→C.has p=true→words.getD p.toNat 0=C.word p∧there.getD p.toNat false=C.has p:=by
   intro p hp hh
   by_cases hpd:0<u.dest∧p=u.dest
   ·obtain⟨hd',rfl⟩:=hpd
    obtain⟨d1,d2⟩:=hd hd'
    rw [d1,d2,hh,hold (by rw [e];simp) hd' hh]
    exact⟨rfl,rfl⟩
   ·exact hsame p hp fun hd' hpe=>hpd ⟨hd',hpe⟩
  obtain⟨a1,a2⟩:=key v.a q1.1 s1
  obtain⟨b1,b2⟩:=key v.b q2.1 s2
  exact⟨a1,a2,b1,b2⟩
 refine⟨h.cfg,h.hart,h.may,h.runs,h.bytes,h.room,h.tab,hw,ht,rfl,?_,rfl,⟨N,hgN,hlN,?_,fun r hr=>?_⟩,hpc,?_,h.seq0,hpcr,?_⟩
 ·show(L++u'::X).Pairwise _
  rw [List.pairwise_append,List.pairwise_cons] at hsq ⊢
  obtain⟨p1,⟨p2,p3⟩,p4⟩:=hsq
  refine⟨p1,⟨fun v hv=>by rw [i6];exact p2 v (by simp [hv]),p3.sublist (List.sublist_append_left _ _)⟩,fun a ha b hb=>?_⟩
  rcases List.mem_cons.1 hb with rfl | hb
  ·rw [i6];exact p4 a ha u (by simp)
  ·exact p4 a ha b (by simp [hb])
 ·show Bq N (L++u'::X) M
  have:=hM N (by rw [List.append_assoc];exact hcN) hgN
  rw [Bq.append] at this ⊢
  obtain⟨K,k1,k2,k3⟩:=this
  refine⟨K,k1,?_,?_⟩
  ·rw [hu];exact⟨k2.src,k2.dst,k2.nodst⟩
  ·have:Dk K u'=Dk K u:=by unfold Dk;rw [i5,i1]
   rw [this]
   exact k3
 ·have hr0:=hgN.reg_range (i:=r) hr
  have hne:0<u.dest→N.regs.getD r 0≠u.dest:=fun hd' e=>hgN.disjoint (hgN.reg_mem hr) (e▸hcN.dest_free u (by simp) hd')
  obtain⟨e1,e2⟩:=hsame _ hr0.1 hne
  exact⟨e2.trans (hvN r hr).1,e1.trans (hvN r hr).2⟩
 ·show((L++u'::X).length:Int)≤C.window
  have:=h.len
  rw [ho] at this
  simp at this ⊢
  omega
 ·intro L' v R' e
  have e:L++u'::X=L'++v::R':=e
  rcases Vx e with⟨rfl,rfl,rfl⟩ | ⟨P,e1,e2⟩ | ⟨P,e1,e2⟩
  ·
   refine⟨by rw [i6];exact hOu.seq,Or.inr (Or.inr i9),fun hc=>absurd hcz (by rw [←i2];exact hc),by rw [i2];exact hOu.cause,by rw [i1,i2,i6,i7];exact hOu.fetch,by rw [i7];exact hOu.pc,hnr,
    fun _=>by rw [i1,i7];exact hns,fun _ _=>?_,fun hg=>?_,fun _ hs=>absurd i9 hs,fun hd' _=>?_,fun _ _=>?_,fun _ hs=>by rw [i10];exact hnx hs,fun hal hs=>?_,hlast⟩
   ·obtain⟨s1,s2⟩:=hOu.src hcz (by omega)
    rw [i3,i4]
    exact⟨hUw.2.1.trans s1,hUw.2.2.2.trans s2⟩
   ·have:=hOu.gs (by rw [←i11];exact hg)
    exact⟨by rw [i9];omega,by rw [i5];exact this.2.1,by rw [i1];exact this.2.2⟩
   ·rw [i5] at hd' ⊢
    rw [i10]
    exact hd hd'
   ·rw [i10]
    have:Ac { C with ops:=L'++v::R',slots:=(L'++v::R').map B5,access:=((L'++v::R').filter Be).map (Bf words),names:=M,words:=words,there:=there,pc:=pc,still:=still,backs:=backs } L' v=Ac { C with words:=words } L' u:=by
     unfold Ac Ku Ed
     rw [i1,i3,i4,i6,i7]
     rfl
    rw [this]
    exact(I4 (C:=C) (C':={ C with words:=words }) (L:=L') (L':=L') (v:=u) rfl rfl rfl hUw.1 hUw.2.2.1).symm
   ·rw [i1] at hal
    exact hOu.lone hal (by omega)
  ·
   subst e1 e2
   have hO:=hops L' v (P++u::(X++Y)) (by simp)
   obtain⟨a1,a2,b1,b2,d1,d2⟩:=hLw v (by simp)
   refine hO.congr hO.seq.2 id (fun hh=>by simp at hh) (fun hl' _=>?_) rfl (fun hc hs=>⟨fun x=>a2.trans x,fun x=>b2.trans x⟩) (fun hd'=>⟨d2,d1⟩) (fun hc hs=>I4 rfl rfl rfl a1 b1)
   exact absurd (hO.last hl').1 (by simp)
  ·
   subst e1 e2
   have hO:=hops (L++u::P) v (R'++Y) (by simp)
   obtain⟨q1,q2,q3,_⟩:=hreg (L++u::P) v (R'++Y) (by simp)
   refine hO.congr hO.seq.2 (fun hh=>by simp at hh) (fun hh=>by simp at hh;exact hh.1) (fun hl' hstill=>?_) (hf P v R' rfl) (fun hc hs=>?_) (fun hd'=>?_) (fun hc hs=>?_)
   ·have:=(hO.last hl').1
    simp at this
    exact hst this.2 (by simp) hstill
   ·obtain⟨a1,a2,b1,b2⟩:=hXw P v R' rfl hc hs
    exact⟨fun x=>a2.trans x,fun x=>b2.trans x⟩
   ·have hne:=(hbeh v (by simp) hd').2.2
    obtain⟨d1,d2⟩:=hsame v.dest q3 fun _ e=>hne e.symm
    exact⟨d2,d1⟩
   ·obtain⟨a1,a2,b1,b2⟩:=hXw P v R' rfl hc (by omega)
    have a1':words.getD v.a.toNat 0=C.word v.a:=a1
    have b1':words.getD v.b.toNat 0=C.word v.b:=b1
    unfold Ac Ed
    split
    ·rename_i hlv
     show Ku (known (L++u'::P)) C.mem v (words.getD v.a.toNat 0)=_
     rw [a1']
     exact hl P v R' rfl hlv hs
    ·show Cl v.ins ⟨(C.hart.regs.set v.ins.rs1.toNat (words.getD v.a.toNat 0)).set v.ins.rs2.toNat (words.getD v.b.toNat 0),v.pc,0,0⟩ C.mem=_
     rw [a1',b1']
theorem D5 {i:Ins}:Bp i=true↔11≤i.op∧i.op≤15:=by unfold Bp;simp
theorem Ff {i:Ins}:A0 i=true↔16≤i.op∧i.op≤18:=by unfold A0;simp
theorem Lf {i:Ins}:Ba i=true↔i.op=47∨i.op=48:=by unfold Ba;simp
theorem J4 {op:Int} (h:11≤op∧op≤15):loadBytes op=Dh op∧(Dh op=1∨Dh op=2∨Dh op=4):=by
 obtain rfl | rfl | rfl | rfl | rfl:op=11∨op=12∨op=13∨op=14∨op=15:=by omega
 all_goals exact⟨rfl,by decide⟩
theorem Aim (pc:Int) (i:Int):(⟨List.replicate 32 0,pc,0,0⟩:Aq).reg i=0:=by
 unfold Aq.reg
 simp only [List.getD]
 rw [List.getElem?_replicate]
 split<;>rfl
theorem R7 {op:Int} (h:11≤op∧op≤15) (w:Int):(Dg (bytesOf w) op 0).2=true:=by
 obtain rfl | rfl | rfl | rfl | rfl:op=11∨op=12∨op=13∨op=14∨op=15:=by omega
 all_goals rfl
theorem Oo (K:List Acc) (m:List Int) (seq p many:Int):(Eb K m seq p many).2.1=Gv m p many:=by
 unfold Eb
 split
 ·rename_i h;exact h.symm
 ·rename_i h;simp at h;exact h.symm
def Tr (i:Ins) (pc w:Int):Com:=⟨pc,u32 (pc+4),0,0,if Bg i=true then i.rd else 0,if Bg i=true then (Dg (bytesOf w) i.op 0).1 else 0,0,0,0,false,0⟩
theorem J5 {u:Uop} (hl:Bp u.ins=true) (K:List Acc) (m:List Int) (wa:Int) :
  Ku K m u wa=if Gv m (u32 (wa+u.ins.imm)) (loadBytes u.ins.op)=true then Tr u.ins u.pc (Eb K m u.seq (u32 (wa+u.ins.imm)) (loadBytes u.ins.op)).1 else By u.pc 3:=by
 have h:=D5.1 hl
 unfold Ku
 simp only [Oo]
 split
 ·unfold Cl
  simp only [Aim]
  rw [if_pos h]
  have:u32 (0+0)=0:=by decide
  rw [this,if_pos (R7 h _)]
  rfl
 ·rfl
theorem Nv {u:Uop} (hl:Bp u.ins=true) (K:List Acc) (m:List Int) (wa:Int) :
  (Ku K m u wa).state=0↔Gv m (u32 (wa+u.ins.imm)) (loadBytes u.ins.op)=true:=by
 rw [J5 hl]
 split
 ·rename_i h
  exact⟨fun _=>h,fun _=>rfl⟩
 ·rename_i h
  exact⟨fun hh=>absurd hh (by decide:¬ ((2:Int)=0)),fun hh=>absurd hh h⟩
theorem Gz (w:Int):Bytes (bytesOf w):=by
 intro b hb
 unfold bytesOf at hb
 simp at hb
 omega
theorem Adb {i:Ins} {pc:Int} (w:Int) (hi:0≤i.rd∧i.rd≤31) (hp:0≤pc∧pc≤4294967295):(Tr i pc w).Wf:=by
 have z:(0:Int)≤0∧(0:Int)≤4294967295:=by omega
 refine⟨hp,Da _,?_,?_,z,Or.inl rfl,z,z,Or.inr ⟨Or.inl rfl,rfl⟩⟩
 ·show 0≤(if Bg i=true then i.rd else 0)∧(if Bg i=true then i.rd else 0)≤31
  split<;>omega
 ·show 0≤(if Bg i=true then (Dg (bytesOf w) i.op 0).1 else 0)∧(if Bg i=true then (Dg (bytesOf w) i.op 0).1 else 0)≤4294967295
  split
  ·exact U8 (Gz w) _ _
  ·exact z
theorem Vq {C:Core} {u:Uop} (hh:C.hart.Wf) (hw:∀ x∈C.words,0≤x∧x≤4294967295) (hp:0≤u.pc∧u.pc≤4294967295):(Ed C u).Wf:=by
 have hword:∀ p,0≤C.word p∧C.word p≤4294967295:=fun p=>by
  unfold Core.word
  simp only [List.getD]
  cases h:C.words[p.toNat]? with
  |none=>simp
  |some v=>exact hw v (List.mem_of_getElem? h)
 refine⟨by simp [Ed,hh.len],fun x hx=>?_,hp.1,hp.2⟩
 unfold Ed at hx
 rcases List.mem_or_eq_of_mem_set hx with hx | rfl
 ·rcases List.mem_or_eq_of_mem_set hx with hx | rfl
  ·exact hh.word x hx
  ·exact hword _
 ·exact hword _
theorem Qm {C:Core} (h:Inv C) {L:List Uop} {u:Uop} (hi:0≤u.ins.rd∧u.ins.rd≤31) (hp:0≤u.pc∧u.pc≤4294967295):(Ac C L u).Wf:=by
 unfold Ac
 split
 ·rename_i hl
  rw [J5 hl]
  split
  ·exact Adb _ hi hp
  ·exact Ka hp (by omega)
 ·exact Aah hi (Vq h.hart h.words.2 hp) h.bytes
theorem Nt {i:Ins} (h:Aq) (m:List Int) (hi:A0 i=true) (hs:(Cl i h m).state=0) :
  Cl i h m=⟨h.pc,u32 (h.pc+4),0,0,0,0,u32 (h.reg i.rs1+i.imm),Fl i.op,R8 (h.reg i.rs2) (Fl i.op),false,0⟩∧Cu m.length (u32 (h.reg i.rs1+i.imm)) (Fl i.op)=true:=by
 have ho:=Ff.1 hi
 unfold Cl at hs ⊢
 dsimp only at hs ⊢
 rw [if_neg (by omega),if_pos ho] at hs ⊢
 split at hs
 ·rename_i ht
  exact⟨if_pos ht,ht⟩
 ·cases hs
theorem Afq {i:Ins} (h:Aq) (m:List Int) (hi:(A0 i || Ba i)=true) (hs:(Cl i h m).state=0):(Cl i h m).next=u32 (h.pc+4):=by
 rw [Bool.or_eq_true] at hi
 rcases hi with hi | hi
 ·rw [(Nt h m hi hs).1]
 ·have ho:=Lf.1 hi
  unfold Cl at hs ⊢
  dsimp only at hs ⊢
  rw [if_neg (by omega),if_neg (by omega)] at hs ⊢
  by_cases h8:i.op=48
  ·rw [if_pos h8] at hs;cases hs
  ·rw [if_neg h8,if_pos (by omega)] at hs ⊢
   split at hs
   ·cases hs
   ·rename_i h1
    rw [if_neg h1] at *
    split at hs
    ·rename_i h2
     rw [if_pos h2]
    ·cases hs
theorem Xf {C:Core} {L:List Uop} {u:Uop} (hi:(A0 u.ins || Ba u.ins)=true) (hs:(Ac C L u).state=0):(Ac C L u).next=u32 (u.pc+4):=by
 have hl:¬ Bp u.ins=true:=by
  intro hl
  have h1:=D5.1 hl
  rw [Bool.or_eq_true] at hi
  rcases hi with hi | hi
  ·have:=Ff.1 hi;omega
  ·have:=Lf.1 hi;omega
 unfold Ac at hs ⊢
 rw [if_neg hl] at hs ⊢
 exact Afq _ _ hi hs
theorem Ac1 {K:Ax} {u:Uop} (h:NOk K u) (hi:A0 u.ins=true):u.dest=0:=by
 by_cases hd:0<u.dest
 ·have hg:=(h.dst hd).1.1
  have:=Ff.1 hi
  unfold Bg at hg
  simp at hg
  omega
 ·exact(h.nodst (by omega)).1
theorem Ain {C:Core} {K:Ax} {u:Uop} (hl:C.hart.regs.length=32) (h:NOk K u) (hc:u.cause=0) (h1:0≤u.ins.rs1∧u.ins.rs1≤31) (h2:0≤u.ins.rs2∧u.ins.rs2≤31):(Ed C u).reg u.ins.rs1=C.word u.a:=by
 obtain⟨e1,e2⟩:=h.src hc
 unfold Ed Aq.reg
 rw [Fa]
 by_cases e:u.ins.rs2.toNat=u.ins.rs1.toNat
 ·rw [if_pos ⟨e,by simp [hl];omega⟩]
  rw [e1,e2,e]
 ·rw [if_neg (by omega),Fa,if_pos ⟨rfl,by omega⟩]
theorem Uk {seq:Int}:∀ {P Q:List Slt},(∀ s∈P,s.seq≠seq)→Ii (P++⟨seq,false⟩::Q) seq=some (P++⟨seq,true⟩::Q)
 |[],Q,_=>by
  show(if (⟨seq,false⟩:Slt)=⟨seq,false⟩ then _ else _)=_
  rw [if_pos rfl]
  rfl
 |s::P,Q,h=>by
  show(if s=(⟨seq,false⟩:Slt) then _ else (Ii (P++⟨seq,false⟩::Q) seq).map (s::·))=_
  rw [if_neg (fun e=>h s (by simp) (by rw [e])),Uk (fun x hx=>h x (by simp [hx]))]
  rfl
theorem Ya (c:Core) (d w:Int):Di c d w={ c with words:=if 0<d then c.words.set d.toNat w else c.words,there:=if 0<d then c.there.set d.toNat true else c.there }:=by
 unfold Di
 split<;>rfl
theorem T2 {g:Uop→Acc} {L R:List Uop} {u:Uop} (hm:Be u=true) (hg:∀ v,(g v).seq=v.seq) (hL:∀ v∈L,v.seq≠u.seq) (a:Acc) :
  (Jh (((L++u::R).filter Be).map g) u.seq).toNat=(L.filter Be).length∧(((L++u::R).filter Be).map g).getD (L.filter Be).length default=g u ∧
   (((L++u::R).filter Be).map g).set (L.filter Be).length a=(L.filter Be).map g++a::(R.filter Be).map g:=by
 have e:((L++u::R).filter Be).map g=(L.filter Be).map g++g u::(R.filter Be).map g:=by
  rw [List.filter_append,List.filter_cons_of_pos hm,List.map_append,List.map_cons]
 have hlen:((L.filter Be).map g).length=(L.filter Be).length:=List.length_map _
 rw [e]
 refine⟨?_,?_,?_⟩
 ·unfold Jh
  rw [Y1 (fun x:Acc=>decide (x.seq=u.seq)) _ (g u) _ 0 (fun x hx=>?_) (qF (hg u)),hlen]
  ·omega
  ·obtain⟨v,hv,rfl⟩:=List.mem_map.1 hx
   exact qG (by rw [hg];exact hL v (List.mem_filter.1 hv).1)
 ·rw [←hlen];simp [List.getD]
 ·rw [←hlen];simp
def Eu (C:Core) (u:Uop) (v:Int):List Int:=if 0<u.dest then C.words.set u.dest.toNat v else C.words
def Iv (C:Core) (u:Uop):List Bool:=if 0<u.dest then C.there.set u.dest.toNat true else C.there
def Cf (C:Core) (u:Uop) (l:Com):Acc:=
 if Bp u.ins=true∧l.state=0 then ⟨u.seq,false,true,u32 (C.word u.a+u.ins.imm),loadBytes u.ins.op,0,true⟩ else ⟨u.seq,A0 u.ins,false,0,0,0,false⟩
def gD (C:Core) (u:Uop) (a:Acc) (v:Uop):Acc:=if v.seq=u.seq then { a with seq:=v.seq } else Bf C.words v
theorem Ut (C:Core) (u:Uop) (a:Acc) (v:Uop):(gD C u a v).seq=v.seq:=by
 unfold gD
 split
 ·rfl
 ·exact Ew _ _
theorem Ql (C:Core) (u:Uop) (l:Com):(Cf C u l).seq=u.seq:=by
 unfold Cf
 split<;>rfl
def uD (u:Uop) (l:Com):Uop:={ u with state:=2,commit:=l }
def B9 (C:Core) (L R:List Uop) (u:Uop) (l:Com) (u':Uop) (a:Acc):Core:=
 { C with access:=((L++u'::R).filter Be).map (gD C u a),words:=Eu C u l.value,there:=Iv C u,ops:=L++u'::R,slots:=(L++u'::R).map B5 }
theorem Gs {L R:List Uop} {u:Uop} (h:(L++u::R).Pairwise (fun u v=>u.seq<v.seq)):(∀ v∈L,v.seq≠u.seq)∧∀ v∈R,v.seq≠u.seq:=
 ⟨fun v hv e=>by have:=(D1 h).1 v hv;omega,fun v hv e=>by have:=(D1 h).2 v hv;omega⟩
theorem Oh {C:Core} {u:Uop} {a:Acc} {A:List Uop} (h:∀ v∈A,v.seq≠u.seq):(A.filter Be).map (gD C u a)=(A.filter Be).map (Bf C.words):=
 List.map_congr_left fun v hv=>by
  unfold gD
  rw [if_neg (h v (List.mem_filter.1 hv).1)]
theorem Ahn {C:Core} {L R:List Uop} {u u':Uop} {a:Acc} (hq:(L++u::R).Pairwise (fun u v=>u.seq<v.seq)) (hm:Be u=true) (hm':Be u'=Be u) (hs:u'.seq=u.seq) (ha:a.seq=u.seq) :
  ((L++u'::R).filter Be).map (gD C u a)=(L.filter Be).map (Bf C.words)++a::(R.filter Be).map (Bf C.words):=by
 rw [List.filter_append,List.filter_cons_of_pos (by rw [hm'];exact hm),List.map_append,List.map_cons,Oh (Gs hq).1,Oh (Gs hq).2]
 congr 2
 unfold gD
 rw [if_pos hs,hs,←ha]
theorem Ajg {C:Core} {L R:List Uop} {u u':Uop} {a:Acc} (hq:(L++u::R).Pairwise (fun u v=>u.seq<v.seq)) (hm:Be u=false) (hm':Be u'=Be u) :
  ((L++u'::R).filter Be).map (gD C u a)=((L++u::R).filter Be).map (Bf C.words):=by
 rw [List.filter_append,List.filter_append,List.filter_cons_of_neg (by rw [hm',hm];simp),List.filter_cons_of_neg (by rw [hm];simp),List.map_append,List.map_append,Oh (Gs hq).1,Oh (Gs hq).2]
theorem Vv {L R:List Uop} {u u':Uop} (hq:(L++u::R).Pairwise (fun u v=>u.seq<v.seq)) (h1:u.state=1) (h2:u'.state=2) (hs:u'.seq=u.seq) :
  Ii ((L++u::R).map B5) u.seq=some ((L++u'::R).map B5):=by
 rw [List.map_append,List.map_cons,List.map_append,List.map_cons]
 have e1:B5 u=⟨u.seq,false⟩:=by unfold B5;rw [h1];rfl
 have e2:B5 u'=⟨u.seq,true⟩:=by unfold B5;rw [h2,hs];rfl
 rw [e1,e2]
 exact Uk fun s hs=>by
  obtain⟨v,hv,rfl⟩:=List.mem_map.1 hs
  exact(Gs hq).1 v hv
theorem Aa6 {C:Core} (h:Inv C) {L R:List Uop} {u:Uop} (ho:C.ops=L++u::R) (h1:u.state=1) :
  (if Bp u.ins=true then M3 C u else (Cl u.ins (Ed C u) C.mem,C.access))=(Ac C L u,((L++uD u (Ac C L u)::R).filter Be).map (gD C u (Cf C u (Ac C L u)))):=by
 obtain⟨N,hgN,_,hcN,_⟩:=h.names
 have hO:=h.ops L u R ho
 have hsq:=h.seqs
 have hac:=h.access
 rw [ho] at hcN hsq hac
 have hcz:u.cause=0:=by
  rcases Decidable.em (u.cause=0) with hc | hc
  ·exact hc
  ·have:=(hO.fault hc).1;omega
 have hi:=Ho (Inv.insOk hO hcz)
 obtain⟨K,_,hK,hNk,_⟩:=Ga hcN hgN rfl
 have hr1:=Ain (C:=C) (by exact h.hart.len) hNk hcz (by omega) (by omega)
 have hm':Be (uD u (Ac C L u))=Be u:=rfl
 have hbase:Bf C.words u=⟨u.seq,A0 u.ins,false,0,0,0,false⟩:=by
  unfold Bf A4
  rw [h1]
  simp
 have hsee:=fun(p many:Int)=>Vu (words:=C.words) (A:=L) (B:=u::R) (seq:=u.seq) C.mem p many (fun v hv=>by
  rcases List.mem_cons.1 hv with rfl | hv
  ·omega
  ·have:=(D1 hsq).2 v hv;omega)
 by_cases hl:Bp u.ins=true
 ·have hmem:Be u=true:=by unfold Be;rw [hl];rfl
  have hst:A0 u.ins=false:=by
   rcases e:A0 u.ins with _ | _
   ·rfl
   ·have:=Ff.1 e;have:=D5.1 hl;omega
  obtain⟨q1,q2,q3⟩:=T2 (g:=Bf C.words) (R:=R) hmem (Ew _) (Gs hsq).1 (Cf C u (Ac C L u))
  have hex:Ac C L u=Ku (known L) C.mem u (C.word u.a):=by unfold Ac;rw [if_pos hl]
  have hss:=hsee (u32 (C.word u.a+u.ins.imm)) (loadBytes u.ins.op)
  rw [if_pos hl,Ahn hsq hmem hm' rfl (Ql _ _ _)]
  unfold M3
  simp only [hr1]
  rw [hac,hss.1,hss.2]
  have hx:=hex
  unfold Ku at hx
  simp only at hx
  split
  ·rename_i hok
   rw [if_pos hok] at hx
   rw [←hx,q1,q2]
   have hst0:(Ac C L u).state=0:=by
    rw [hex]
    exact(Nv hl _ _ _).2 (by rw [←Oo (known L) C.mem u.seq];exact hok)
   have:({ Bf C.words u with known:=true,at_:=u32 (C.word u.a+u.ins.imm),many:=loadBytes u.ins.op,done:=true }:Acc)=Cf C u (Ac C L u):=by
    rw [hbase]
    unfold Cf
    rw [if_pos ⟨hl,hst0⟩,hst]
   rw [this,q3]
  ·rename_i hok
   rw [if_neg hok] at hx
   rw [←hx]
   have hst0:¬ (Ac C L u).state=0:=by
    rw [hex,Nv hl,←Oo (known L) C.mem u.seq]
    exact hok
   have:Cf C u (Ac C L u)=Bf C.words u:=by
    unfold Cf
    rw [if_neg (fun hh=>hst0 hh.2),hbase]
   rw [this,List.filter_append,List.filter_cons_of_pos hmem,List.map_append,List.map_cons]
 ·rw [if_neg hl]
  have hex:Ac C L u=Cl u.ins (Ed C u) C.mem:=by unfold Ac;rw [if_neg hl]
  rw [←hex]
  congr 1
  rw [hac]
  rcases hmem:Be u with _ | _
  ·rw [Ajg hsq hmem hm']
  ·rw [Ahn hsq hmem hm' rfl (Ql _ _ _)]
   have:Cf C u (Ac C L u)=Bf C.words u:=by
    unfold Cf
    rw [if_neg (fun hh=>hl hh.1),hbase]
   rw [this,List.filter_append,List.filter_cons_of_pos hmem,List.map_append,List.map_cons]
def O7 (C:Core) (L:List Uop) (u:Uop):Bool:=(u.guessed&&decide (C.word u.dest≠(Ac C L u).value)) || decide ((Ac C L u).next≠u.next)
theorem Nm {C:Core} (h:Inv C) {L R:List Uop} {u:Uop} (ho:C.ops=L++u::R) (h1:u.state=1) :
  B6 C L.length =
   (let l:=Ac C L u
    let c2:=B9 C L R u l (uD u l) (Cf C u l)
    if l.state≠0 then { F5 c2 (u.seq+1) u.pc with still:=true }
    else
     let c3:=if O7 C L u=true then F5 (B9 C L R u l { uD u l with next:=l.next } (Cf C u l)) (u.seq+1) l.next else c2
     if A0 u.ins=true then E8 c3 L.length else c3):=by
 have hsq:=h.seqs
 rw [ho] at hsq
 have hu:C.op L.length=u:=Core.op_at ho
 have hlc:=Aa6 h ho h1
 unfold B6
 rw [hu]
 simp only [hlc]
 have hf:Ep { Di { C with access:=((L++uD u (Ac C L u)::R).filter Be).map (gD C u (Cf C u (Ac C L u))) } u.dest (Ac C L u).value with ops:=C.ops.set L.length { u with commit:=Ac C L u } } L.length=B9 C L R u (Ac C L u) (uD u (Ac C L u)) (Cf C u (Ac C L u)):=by
  unfold Ep
  rw [Ya]
  have e1:C.ops.set L.length { u with commit:=Ac C L u }=L++{ u with commit:=Ac C L u }::R:=by rw [ho];exact Gj
  simp only [e1]
  have e2:Core.op { C with access:=((L++uD u (Ac C L u)::R).filter Be).map (gD C u (Cf C u (Ac C L u))),words:=if 0<u.dest then C.words.set u.dest.toNat (Ac C L u).value else C.words,there:=if 0<u.dest then C.there.set u.dest.toNat true else C.there,ops:=L++{ u with commit:=Ac C L u }::R } L.length={ u with commit:=Ac C L u }:=Core.op_at rfl
  rw [e2,Gj]
  have e3:(Ii C.slots u.seq).getD []=(L++uD u (Ac C L u)::R).map B5:=by
   rw [h.slots,ho,Vv hsq h1 (u':=uD u (Ac C L u)) rfl rfl]
   rfl
  simp only [e3]
  rfl
 rw [hf]
 have hop:Core.op (B9 C L R u (Ac C L u) (uD u (Ac C L u)) (Cf C u (Ac C L u))) L.length=uD u (Ac C L u):=Core.op_at rfl
 have hset:(B9 C L R u (Ac C L u) (uD u (Ac C L u)) (Cf C u (Ac C L u))).ops.set L.length { uD u (Ac C L u) with next:=(Ac C L u).next }=L++{ uD u (Ac C L u) with next:=(Ac C L u).next }::R:=Gj
 rw [hop,hset]
 have hcc:({ B9 C L R u (Ac C L u) (uD u (Ac C L u)) (Cf C u (Ac C L u)) with ops:=L++{ uD u (Ac C L u) with next:=(Ac C L u).next }::R }:Core)=B9 C L R u (Ac C L u) { uD u (Ac C L u) with next:=(Ac C L u).next } (Cf C u (Ac C L u)):=by
  unfold B9
  have e1:(L++{ uD u (Ac C L u) with next:=(Ac C L u).next }::R).map B5=(L++uD u (Ac C L u)::R).map B5:=by simp [B5]
  have e2:((L++{ uD u (Ac C L u) with next:=(Ac C L u).next }::R).filter Be).map (gD C u (Cf C u (Ac C L u)))=((L++uD u (Ac C L u)::R).filter Be).map (gD C u (Cf C u (Ac C L u))):=by
   rw [List.filter_append,List.filter_append,List.filter_cons,List.filter_cons]
   have:Be { uD u (Ac C L u) with next:=(Ac C L u).next }=Be (uD u (Ac C L u)):=rfl
   rw [this]
   split
   ·simp [gD,uD]
   ·rfl
  rw [e1,e2]
 rw [hcc]
 rfl
def Fo {α:Type} (P:α→Bool) (k:α→Int) (x:Int×Bool) (a:α):Int×Bool:=if (P a&&(!x.2 || decide (k a<x.1)))=true then (k a,true) else x
theorem Nx {α:Type} (P:α→Bool) (k:α→Int):∀ (l:List α) (x:Int×Bool),
  ((l.foldl (Fo P k) x).2=true→(x.2=true∧(l.foldl (Fo P k) x).1=x.1)∨∃ a∈l,P a=true∧(l.foldl (Fo P k) x).1=k a) ∧
  (∀ a∈l,P a=true→(l.foldl (Fo P k) x).2=true∧(l.foldl (Fo P k) x).1≤k a)∧(x.2=true→(l.foldl (Fo P k) x).2=true∧(l.foldl (Fo P k) x).1≤x.1)
 |[],x=>⟨fun h=>Or.inl ⟨h,rfl⟩,fun a ha _=>absurd ha List.not_mem_nil,fun h=>⟨h,Int.le_refl _⟩⟩
 |b::l,x=>by
  rw [List.foldl_cons]
  obtain⟨i1,i2,i3⟩:=Nx P k l (Fo P k x b)
  generalize l.foldl (Fo P k) (Fo P k x b)=f at i1 i2 i3
  by_cases hb:(P b&&(!x.2 || decide (k b<x.1)))=true
  ·have e:Fo P k x b=(k b,true):=if_pos hb
   rw [e] at i1 i3
   obtain⟨j1,j2⟩:=i3 rfl
   have hPb:P b=true:=by rw [Bool.and_eq_true] at hb;exact hb.1
   refine⟨fun h=>Or.inr ?_,fun a ha hP=>?_,fun hx=>⟨j1,?_⟩⟩
   ·rcases i1 h with⟨_,h2⟩ | ⟨a,ha,h2⟩
    ·exact⟨b,by simp,hPb,h2⟩
    ·exact⟨a,by simp [ha],h2⟩
   ·rcases List.mem_cons.1 ha with rfl | ha
    ·exact⟨j1,j2⟩
    ·exact i2 a ha hP
   ·rw [Bool.and_eq_true,hx] at hb
    simp at hb
    have:f.1≤k b:=j2
    omega
  ·have e:Fo P k x b=x:=if_neg hb
   rw [e] at i1 i3
   refine⟨fun h=>?_,fun a ha hP=>?_,i3⟩
   ·rcases i1 h with h2 | ⟨a,ha,h2⟩
    ·exact Or.inl h2
    ·exact Or.inr ⟨a,by simp [ha],h2⟩
   ·rcases List.mem_cons.1 ha with rfl | ha
    ·rw [hP] at hb
     simp at hb
     obtain⟨h1,h2⟩:=hb
     obtain⟨h3,h4⟩:=i3 h1
     exact⟨h3,by omega⟩
    ·exact i2 a ha hP
def Td (s a:Acc):Bool:=!a.store&&a.known&&a.done&&decide (s.seq<a.seq)&&Qx s a
theorem Ag6 (s:Acc):Fg s=Fo (Td s) (·.seq):=rfl
def Ab5 (seq at_ many:Int) (v:Uop):Bool:=decide (seq<v.seq)&&Vf v.pc at_ many
theorem Xj (seq at_ many:Int):Dj seq at_ many=Fo (Ab5 seq at_ many) (·.seq):=rfl
theorem V8 (l:List Acc) {seq:Int} {s:Acc} {Q:List Acc} (hs:I3 seq s=true):∀ {P:List Acc},(∀ x∈P,I3 seq x=false)→If l seq (P++s::Q)=l.foldl (Fg s) (0,false)
 |[],_=>by
  show(if I3 seq s=true then _ else _)=_
  rw [if_pos hs]
 |x::P,h=>by
  show(if I3 seq x=true then _ else If l seq (P++s::Q))=_
  rw [if_neg (by rw [h x (by simp)];simp),V8 l hs (fun y hy=>h y (by simp [hy]))]
theorem Ajr {s a:Acc} (h:Qx s a=false) {q:Int} (h1:hasB s q=true) (h2:hasB a q=true):False:=by
 have h1':=h1
 unfold hasB at h1'
 simp only [Bool.and_eq_true,decide_eq_true_eq] at h1'
 have:=Qw s.many
 obtain⟨k,hk,rfl⟩:∃ k:Nat,k<4∧q=s.at_+k:=⟨(q - s.at_).toNat,by omega,by omega⟩
 unfold Qx Fb Fb Fb Fb Fb at h
 simp only [Bool.or_eq_false_iff] at h
 obtain⟨m0,m1,m2,m3,_⟩:=h
 have key:∀ c:Int,(k:Int)=c→(hasB s (s.at_+c)&&hasB a (s.at_+c))=false→False:=fun c e hh=>by
  subst e
  rw [h1,h2] at hh
  cases hh
 obtain rfl | rfl | rfl | rfl:k=0∨k=1∨k=2∨k=3:=by omega
 ·exact key _ (by omega) m0
 ·exact key _ (by omega) m1
 ·exact key _ (by omega) m2
 ·exact key _ (by omega) m3
theorem Aci {L X:List Uop} {u u':Uop} (h:A4 u=false) (h':A4 u'=true) (m:List Int) (seq q:Int) (hq:hasB (G5 u') q=false):Df (known (L++u'::X)) m seq q=Df (known (L++u::X)) m seq q:=by
 apply Sq
 have e1:known (u'::X)=G5 u'::known X:=by unfold known;rw [List.filter_cons_of_pos h'];rfl
 have e2:known (u::X)=known X:=by unfold known;rw [List.filter_cons_of_neg (by simp [h])]
 rw [Mj,Mj,e1,e2,List.filter_append,List.filter_append,List.filter_cons_of_neg]
 unfold G8
 rw [hq]
 simp
theorem Sn {w w':List Int} {v:Uop} (h:w.getD v.a.toNat 0=w'.getD v.a.toNat 0):Bf w v=Bf w' v:=by
 unfold Bf V3
 rw [h]
theorem T8 {M K K2:Ax} {B:List Uop} (h:Bq K B M) (h2:Bq K2 B M) (hg:Do K) (hg2:Do K2) (hp:B.Pairwise (fun u v=>u.seq<v.seq)):K=K2:=by
 have e1:=Rh (A:=[]) h hg (by simpa using hp)
 have e2:=Rh (A:=[]) h2 hg2 (by simpa using hp)
 exact e1.symm.trans e2
structure Fy (C:Core) (L R:List Uop) (u:Uop):Prop where
 ops:C.ops=L++u::R
 st:u.state=1
 cause:u.cause=0
 is:IsP u.ins=true
 ok:T0 C L u R
 self:0<u.dest→u.a≠u.dest
 dest:0≤u.dest∧u.dest<96
 a:0≤u.a∧u.a<96
 ahead:∀ v∈L,(0≤v.a)∧(0<u.dest→v.a≠u.dest)
 val:0≤(Ac C L u).value∧(Ac C L u).value≤4294967295
 nx:0≤(Ac C L u).next∧(Ac C L u).next≤4294967295
 store:A0 u.ins=true→u.dest=0
theorem Akm {C:Core} (h:Inv C) {L R:List Uop} {u:Uop} (ho:C.ops=L++u::R) (h1:u.state=1):Fy C L R u:=by
 obtain⟨N,hgN,_,hcN,_⟩:=h.names
 have hO:=h.ops L u R ho
 have hap:=h.apart
 have hreg:=fun L' v R' (e:C.ops=L'++v::R')=>Kd (by rw [←e];exact hcN) hgN (h.ops L' v R' e)
 rw [ho] at hcN hap
 have hcz:u.cause=0:=by
  rcases Decidable.em (u.cause=0) with hc | hc
  ·exact hc
  ·have:=(hO.fault hc).1;omega
 have his:=Inv.insOk hO hcz
 have hi:=Ho his
 obtain⟨K,_,hK,hNk,_⟩:=Ga hcN hgN rfl
 obtain⟨_,_,hap3⟩:=List.pairwise_append.1 hap
 have hwf:=Qm h (L:=L) (u:=u) (by omega) hO.pc
 refine⟨ho,h1,hcz,his,hO,fun hd e=>?_,(hreg L u R ho).2.2,(hreg L u R ho).1,fun v hv=>⟨?_,(hap3 v hv u (by simp)).a⟩,hwf.value,hwf.next,fun hs=>Ac1 hNk hs⟩
 ·have hfr:u.dest∈K.free:=by rw [(hNk.dst hd).2.2.1];simp
  obtain⟨m1,_⟩:=hNk.src_mem hK (fun _=>⟨by omega,by omega⟩) hcz
  exact hK.disjoint m1 (e▸hfr)
 ·obtain⟨P,Q,e⟩:=List.append_of_mem hv
  exact(hreg P v (Q++u::R) (by rw [ho,e];simp)).1.1
theorem Fy.same {C:Core} {L R:List Uop} {u:Uop} (d:Fy C L R u) (v:Int) {p:Int} (hp:0≤p) (hne:0<u.dest→p≠u.dest):(Eu C u v).getD p.toNat 0=C.word p∧(Iv C u).getD p.toNat false=C.has p:=by
 unfold Eu Iv
 split
 ·rename_i hd
  exact⟨Ab6 v d.dest.1 hp (hne hd),Y0 true d.dest.1 hp (hne hd)⟩
 ·exact⟨rfl,rfl⟩
theorem Fy.acc_ahead {C:Core} {L R:List Uop} {u:Uop} (d:Fy C L R u) (x:Int):∀ v∈L,Bf (Eu C u x) v=Bf C.words v:=fun v hv=>
 Sn (d.same x (d.ahead v hv).1 (d.ahead v hv).2).1
theorem Fy.acc_self {C:Core} {L R:List Uop} {u:Uop} (d:Fy C L R u) (x:Int) {u':Uop} (h2:u'={ u with state:=2,commit:=Ac C L u,next:=u'.next }) (hk:A4 u'=false):Bf (Eu C u x) u'=Cf C u (Ac C L u):=by
 have e':∀ {α:Type} (f:Uop→α),f u'=f { u with state:=2,commit:=Ac C L u,next:=u'.next }:=fun f=>congrArg f h2
 have i1:u'.ins=u.ins:=e' Uop.ins
 have i3:u'.a=u.a:=e' Uop.a
 have i6:u'.seq=u.seq:=e' Uop.seq
 have i9:u'.state=2:=e' Uop.state
 have i10:u'.commit=Ac C L u:=e' Uop.commit
 unfold Bf Cf
 rw [hk,i1,i9,i10,i6,i3]
 have hw:V3 (Eu C u x) u.a=C.word u.a:=(d.same x d.a.1 d.self).1
 rw [hw,if_neg (by simp)]
 by_cases hl:Bp u.ins=true∧(Ac C L u).state=0
 ·rw [if_pos ⟨hl.1,rfl,hl.2⟩,if_pos hl]
 ·rw [if_neg (fun hh=>hl ⟨hh.1,hh.2.2⟩),if_neg hl]
theorem Fy.back {C:Core} (h:Inv C) {L R:List Uop} {u:Uop} (d:Fy C L R u) {u':Uop} (h2:u'={ u with state:=2,commit:=Ac C L u,next:=u'.next }) (hk:A4 u'=false) (pc:Int) :
  ∃ M,(∀ N,Bq N (L++u::[]++R) C.names→Do N→Bq N (L++u::[]) M) ∧
   F5 (B9 C L R u (Ac C L u) u' (Cf C u (Ac C L u))) (u.seq+1) pc =
    { C with ops:=L++u'::[],slots:=(L++u'::[]).map B5,access:=((L++u'::[]).filter Be).map (Bf (Eu C u (Ac C L u).value)),names:=M,words:=Eu C u (Ac C L u).value,there:=Iv C u,pc:=pc,still:=false,backs:=C.backs+1 }:=by
 obtain⟨N0,hgN,_,hcN,_⟩:=h.names
 have hsq:=h.seqs
 rw [d.ops] at hcN hsq
 have e':∀ {α:Type} (f:Uop→α),f u'=f { u with state:=2,commit:=Ac C L u,next:=u'.next }:=fun f=>congrArg f h2
 have i6:u'.seq=u.seq:=e' Uop.seq
 obtain⟨K,K',hK,hNk,hc1,hK',hc2⟩:=Ga hcN hgN rfl
 have hgK':Do K':=by rw [hK'];exact hK.next hNk
 have hpR:R.Pairwise (fun u v=>u.seq<v.seq):=(List.pairwise_cons.1 (List.pairwise_append.1 hsq).2.1).2
 have hsq':(L++[u']++R).Pairwise (fun u v=>u.seq<v.seq):=by
  rw [List.append_assoc,List.singleton_append]
  rw [List.pairwise_append,List.pairwise_cons] at hsq ⊢
  obtain⟨p1,⟨p2,p3⟩,p4⟩:=hsq
  refine⟨p1,⟨fun v hv=>by rw [i6];exact p2 v hv,p3⟩,fun a ha b hb=>?_⟩
  rcases List.mem_cons.1 hb with rfl | hb
  ·rw [i6];exact p4 a ha u (by simp)
  ·exact p4 a ha b (by simp [hb])
 refine⟨K',fun N hN hg=>?_,?_⟩
 ·rw [List.append_assoc] at hN
  have hN':Bq N (L++u::R) C.names:=hN
  obtain⟨K2,_,hK2,hNk2,hd1,hK2',hd2⟩:=Ga hN' hg rfl
  have hgK2':Do (Dk K2 u):=hK2.next hNk2
  rw [hK2'] at hd2
  have:=T8 hc2 hd2 hgK' hgK2' hpR
  rw [this]
  exact hd1.snoc hNk2
 ·have hb:=Aed (c:=B9 C L R u (Ac C L u) u' (Cf C u (Ac C L u))) (A:=L++[u']) (B:=R) (K:=K') (g:=gD C u (Cf C u (Ac C L u))) (s:=u.seq+1) pc (by simp [B9]) (by simp [B9]) hsq'
   (fun v hv=>?_) (fun v hv=>?_) (Ut C u _) (by simp [B9]) hc2 hgK'
  ·rw [hb]
   have hlist:((L++[u']).filter Be).map (gD C u (Cf C u (Ac C L u)))=((L++[u']).filter Be).map (Bf (Eu C u (Ac C L u).value)):=by
    refine List.map_congr_left fun v hv=>?_
    rcases List.mem_append.1 (List.mem_filter.1 hv).1 with hv | hv
    ·unfold gD
     rw [if_neg ((Gs hsq).1 v hv),d.acc_ahead _ v hv]
    ·obtain rfl:=List.mem_singleton.1 hv
     rw [d.acc_self _ h2 hk]
     unfold gD
     rw [if_pos i6,i6,←Ql C u (Ac C L u)]
   rw [hlist]
   rfl
  ·rcases List.mem_append.1 hv with hv | hv
   ·have:=(D1 hsq).1 v hv;omega
   ·obtain rfl:=List.mem_singleton.1 hv;omega
  ·have:=(D1 hsq).2 v hv;omega
structure Kept (C C':Core) (L R:List Uop) (u:Uop):Prop where
 inv:Inv C'
 ops:∃ u' X Y,R=X++Y∧C'.ops=L++u'::X∧u'.state=2∧u'.seq=u.seq
 hart:C'.hart=C.hart
 mem:C'.mem=C.mem
 commits:C'.commits=C.commits
 cfg:C'.wide=C.wide∧C'.window=C.window∧C'.phys=C.phys
 cycles:C'.cycles=C.cycles
 taken:C'.taken=C.taken
 backs:C.backs≤C'.backs∧C'.backs≤C.backs+1
 seq:C'.seq=C.seq
theorem Fy.words {C:Core} {L R:List Uop} {u:Uop} (h:Inv C) (d:Fy C L R u):((Eu C u (Ac C L u).value).length=96∧∀ x∈Eu C u (Ac C L u).value,0≤x∧x≤4294967295)∧(Iv C u).length=96:=by
 unfold Eu Iv
 split
 ·refine⟨⟨by simp [h.words.1],fun x hx=>?_⟩,by simp [h.there]⟩
  rcases List.mem_or_eq_of_mem_set hx with hx | rfl
  ·exact h.words.2 x hx
  ·exact d.val
 ·exact⟨h.words,h.there⟩
theorem Fy.got {C:Core} {L R:List Uop} {u:Uop} (h:Inv C) (d:Fy C L R u):0<u.dest→(Iv C u).getD u.dest.toNat false=true∧(Eu C u (Ac C L u).value).getD u.dest.toNat 0=(Ac C L u).value:=by
 intro hd
 unfold Eu Iv
 rw [if_pos hd,if_pos hd]
 exact⟨Uy true d.dest.1 (by rw [h.there];exact d.dest.2),Ag2 _ d.dest.1 (by rw [h.words.1];exact d.dest.2)⟩
theorem Abx {u:Uop} (hc:u.cause=0) (h1:u.state=1):Cv u=false:=by unfold Cv;rw [hc,h1];rfl
theorem Fy.chain {C:Core} {L R:List Uop} {u:Uop} (h:Inv C) (d:Fy C L R u):Eg C.hart.pc L u.pc∧∀ x∈L,Cv x=false:=by
 have:=h.pcs
 rw [d.ops] at this
 exact this.cut
theorem W6 {C:Core} (h:Inv C) {L R:List Uop} {u u':Uop} (d:Fy C L R u) (h2:u'={ u with state:=2,commit:=Ac C L u,next:=u'.next }) (hk:A4 u'=false) (pc:Int) (still:Bool) (hpcr:0≤pc∧pc≤4294967295)
  (hq:Cv u'=false→u'.next=pc) (hnr:0≤u'.next∧u'.next≤4294967295) (hnx:Cv u'=false→u'.next=(Ac C L u).next) (hns:(A0 u.ins || Ba u.ins)=true→u'.next=u32 (u.pc+4)) (hlast:Er u'=true→still=true) :
  Kept C { F5 (B9 C L R u (Ac C L u) u' (Cf C u (Ac C L u))) (u.seq+1) pc with still:=still } L R u:=by
 obtain⟨M,hM,hb⟩:=d.back h h2 hk pc
 obtain⟨hw,ht⟩:=d.words h
 have e':∀ {α:Type} (f:Uop→α),f u'=f { u with state:=2,commit:=Ac C L u,next:=u'.next }:=fun f=>congrArg f h2
 rw [hb]
 have hI:=h.done (X:=[]) (Y:=R) d.ops d.st h2 (Eu C u (Ac C L u).value) (Iv C u) hw ht (fun p hp hne=>d.same _ hp hne) (d.got h) (fun hx=>absurd rfl hx) M hM
  (fun X1 v X2 e=>absurd e.symm (by simp)) (fun X1 v X2 e=>absurd e.symm (by simp)) pc (C.backs+1) still
  (by
   obtain⟨p1,p2⟩:=d.chain h
   refine Eg.snoc ?_ p2 pc hq
   rw [show u'.pc=u.pc from e' Uop.pc]
   exact p1)
  hpcr hnr hnx hns (fun hl=>⟨rfl,hlast hl⟩) (fun _ hx=>absurd rfl hx)
 exact⟨hI,⟨u',[],R,rfl,rfl,e' Uop.state,e' Uop.seq⟩,rfl,rfl,rfl,⟨rfl,rfl,rfl⟩,rfl,rfl,⟨by show C.backs≤C.backs+1;omega,Int.le_refl _⟩,rfl⟩
theorem Ags {C:Core} (h:Inv C) {L R:List Uop} {u:Uop} (d:Fy C L R u) (hst:A0 u.ins=false) (h0:(Ac C L u).state=0) (hmiss:O7 C L u=false) :
  Kept C (B9 C L R u (Ac C L u) (uD u (Ac C L u)) (Cf C u (Ac C L u))) L R u:=by
 obtain⟨hw,ht⟩:=d.words h
 unfold O7 at hmiss
 simp only [Bool.or_eq_false_iff,Bool.and_eq_false_iff,decide_eq_false_iff_not,Decidable.not_not] at hmiss
 obtain⟨m1,m2⟩:=hmiss
 have hk:A4 (uD u (Ac C L u))=false:=by unfold A4 uD;simp only [hst];rfl
 have hk0:A4 u=false:=by unfold A4;rw [hst];rfl
 have hsq:=h.seqs
 rw [d.ops] at hsq
 have hstop:Cv (uD u (Ac C L u))=false:=by unfold Cv uD;simp only [d.cause,h0];rfl
 have hold:R≠[]→0<u.dest→C.has u.dest=true→C.word u.dest=(Ac C L u).value:=by
  intro _ hd hh
  have hg:=d.ok.d1 hd (by rw [d.st];omega) hh
  rw [hg] at m1
  simpa using m1
 have hwX:∀ v∈R,Bf (Eu C u (Ac C L u).value) v=Bf C.words v:=by
  intro v hv
  by_cases hl:Bp v.ins=true∧v.state=2∧v.commit.state=0
  ·obtain⟨X1,X2,e⟩:=List.append_of_mem hv
   have hOv:=h.ops (L++u::X1) v X2 (by rw [d.ops,e];simp)
   have hcv:v.cause=0:=by
    rcases Decidable.em (v.cause=0) with hc | hc
    ·exact hc
    ·obtain⟨_,e1,_⟩:=hOv.fault hc
     have:=hl.2.2
     rw [e1] at this
     cases this
   obtain⟨s1,_⟩:=hOv.src hcv (by omega)
   obtain⟨N,hgN,_,hcN,_⟩:=h.names
   have hr:=(Kd (by rw [d.ops,e] at hcN;rw [List.append_assoc];exact hcN) hgN hOv).1
   apply Sn
   by_cases hpd:0<u.dest∧v.a=u.dest
   ·obtain⟨hd',e2⟩:=hpd
    rw [e2] at s1 ⊢
    rw [(d.got h hd').2]
    exact(hold (by rw [e];simp) hd' s1).symm
   ·exact(d.same _ hr.1 fun hd' hpe=>hpd ⟨hd',hpe⟩).1
  ·unfold Bf
   rw [if_neg hl,if_neg hl]
 have hlist:((L++uD u (Ac C L u)::R).filter Be).map (gD C u (Cf C u (Ac C L u)))=((L++uD u (Ac C L u)::R).filter Be).map (Bf (Eu C u (Ac C L u).value)):=by
  refine List.map_congr_left fun v hv=>?_
  rcases List.mem_append.1 (List.mem_filter.1 hv).1 with hv | hv
  ·unfold gD
   rw [if_neg ((Gs hsq).1 v hv),d.acc_ahead _ v hv]
  ·rcases List.mem_cons.1 hv with rfl | hv
   ·rw [d.acc_self _ rfl hk]
    unfold gD
    rw [if_pos (show(uD u (Ac C L u)).seq=u.seq from rfl)]
    show { Cf C u (Ac C L u) with seq:=u.seq }=_
    rw [←Ql C u (Ac C L u)]
   ·unfold gD
    rw [if_neg ((Gs hsq).2 v hv),hwX v hv]
 have hkn:∀ X1,known (L++uD u (Ac C L u)::X1)=known (L++u::X1):=fun X1=>Xt hk0 hk
 have hI:=h.done (X:=R) (Y:=[]) (by rw [List.append_nil];exact d.ops) d.st (u':=uD u (Ac C L u)) rfl (Eu C u (Ac C L u).value) (Iv C u) hw ht (fun p hp hne=>d.same _ hp hne) (d.got h) hold C.names
  (fun N hN _=>by rw [List.append_nil] at hN;exact hN) (fun X1 v X2 _=>by rw [hkn]) (fun X1 v X2 _ _ _=>by rw [hkn]) C.pc C.backs C.still
  (by
   have:=h.pcs
   rw [d.ops] at this
   exact Eg.put (u:=u) (u':=uD u (Ac C L u)) rfl rfl (hstop.trans (Abx d.cause d.st).symm) this)
  h.pc d.ok.next (fun _=>m2.symm) (d.ok.nextS d.cause)
  (fun hl=>by
   have:Er u=true:=by
    unfold Er at hl ⊢
    rw [hstop,Bool.or_false] at hl
    rw [show Ba u.ins=true from hl]
    rfl
   exact d.ok.last this) (fun _ _ hh=>hh)
 have hcore:B9 C L R u (Ac C L u) (uD u (Ac C L u)) (Cf C u (Ac C L u))={ C with ops:=L++uD u (Ac C L u)::R,slots:=(L++uD u (Ac C L u)::R).map B5,access:=((L++uD u (Ac C L u)::R).filter Be).map (Bf (Eu C u (Ac C L u).value)),names:=C.names,words:=Eu C u (Ac C L u).value,there:=Iv C u,pc:=C.pc,still:=C.still,backs:=C.backs }:=by
  unfold B9
  rw [hlist]
 rw [hcore]
 exact⟨hI,⟨uD u (Ac C L u),R,[],by simp,rfl,rfl,rfl⟩,rfl,rfl,rfl,⟨rfl,rfl,rfl⟩,rfl,rfl,⟨Int.le_refl _,by show C.backs≤C.backs+1;omega⟩,rfl⟩
end Go.Proofs.YtapgojgcmlnbgaaGreatDoor
