/- Parts of a proof. -/
import Derived.Test.YtapgojgcmlnbgaaGreatDoorTZ
import Derived.Test.YtapgojgcmlnbgaaGreatDoorT19
import Derived.Test.YtapgojgcmlnbgaaGreatDoorT23
set_option linter.unusedSimpArgs false
set_option linter.unusedVariables false
set_option maxRecDepth 100000
set_option maxHeartbeats 16000000
namespace Go.Proofs.YtapgojgcmlnbgaaGreatDoor
open Go Go.RowKit
theorem T6:Tryz.prog.built 34 [(2, .agg #[.int .i64 8, .int .i64 64, .int .i64 2])]=some (Bs Ki (.slice none 0 0) (.slice none 0 0)):=by kernel_rfl
theorem U2:Rm 6 34 Nf Ng:=fun _ g p vM vC s w V hB hp hP hl=>by
 obtain⟨k,ws,h⟩:=N4 32 s
 exact Af9 runs g p vM vC s k ws w V hB hp hP hl h
theorem Wi {B:Nat} (s:List UInt8) (w:World) (V:Ig B w) (hB:B≤w.heap.size) (hl:s.length≤2000000) :
  Calls Tryz.prog 3 #[sV s] w fun e w'=>e = .returned (.bool true)∧Below w.heap.size w w':=by
 obtain⟨D,z,hDz⟩:=Sg 10 s
 obtain⟨X,hX⟩:∃ X,S8 s=X:=⟨_,rfl⟩
 have CP:=qA (fun W (hW:Below w.heap.size w W)=>Q2 s W (V.ext (hW.mono hB)) (qD hB hW.size) hl)
 rw [hX] at CP
 unfold S8 N1 at hX
 rw [Sc hDz] at hX
 have CS:Hid (Calls Tryz.prog 5 #[sV s, .int .u8 10] w (Jo s 10 w)):=qA (U3 s 10 w (by omega))
 have hlong:=Hv 10 s
 have hpart:=Ds 10 s
 rw [hDz] at hlong hpart
 have hlen:(D++[z]).length=D.length+1:=by simp
 rw [hlen] at hlong
 have HDZ:=qA (qL hDz hlen)
 have HS:=qA (fun x (hx:x∈D++[z])=>qD (hpart x hx) hl)
 have HX:=qA hX
 clear hX hpart hDz hlen
 unfold Jo at CS
 have d1:((D.length+1:Nat):Int) - 1=(D.length:Int):=by omega
 go_enter Tryz.func3,Tryz.ntmps3
 go_upto_region 2 with(go_at_call 5;(with_reducible refine CS.out.mono ?_);rintro e w2 ⟨v,rfl,hown,hb1⟩;rw [HDZ.out.1,HDZ.out.2] at hown;obtain⟨AW,cW,rfl⟩:=Al hown)
 try go_simp
 obtain⟨gW,cW',_,hv,_,_,hcap1,hcap2,_⟩:=hown.2.resolve_left (fun h=>by cases h.2)
 injection hv with hA _ hc
 subst hA hc
 have hgW:=(hown.lt gW rfl).2
 have hcell:∀ (i:Nat) (x:List UInt8),(D++[z])[i]? = some x→w2.cell? ⟨gW,i,none⟩=some (sV x):=fun i x hi=>by
  have:=World.ownsRow.cells hown (g:=gW) rfl i (sV x) (by rw [List.getElem?_map,hi];rfl)
  rwa [Addr.add_lit,Nat.zero_add] at this
 have c0:w2.cell? ⟨gW,D.length,none⟩=some (sV z):=hcell D.length z (by simp)
 have HBK:=qA hcell
 have hcap3:(cW:Int)≤9223372036854775807:=by unfold maxLen at hcap2;omega
 clear hown hcell CS HDZ hcap2
 by_cases hz:z=[]
 ·have e0:(z==[])=true:=by simp [hz]
  rw [if_pos hz] at HX
  clear hz
  go_upto_region 4 with(fail)
  go_upto_region 5 with(first
   |(refine Am rfl 26 _ rfl [(0, .int .i64 8),(1, .int .i64 64),(2, .int .i64 2)] rfl _ L4 ?_)
   |(refine Am rfl 34 _ rfl [(2, .agg #[.int .i64 8, .int .i64 64, .int .i64 2])] rfl _ T6 ?_))
  try go_simp
  refine A1 fun W4 hq=>?_
  have hB4:Blk W4 w2.heap.size 34 (Bs Ki (.slice none 0 0) (.slice none 0 0)):=by
   rw [hq]
   exact Blk.new w2 34 (Bs Ki (.slice none 0 0) (.slice none 0 0))
  have hb4:Below w2.heap.size w2 W4:=by rw [hq];exact(qB _ _).alloc (qC _) _
  clear hq
  obtain⟨K,hK⟩:∃ K,K=(D).take 40:=⟨_,rfl⟩
  have hmL:K.length=min 40 (D.length):=by rw [hK,List.length_take]<;>simp
  have hm40:K.length≤40:=by omega
  have hmn:K.length≤D.length:=by omega
  have HEND:=qA (by omega:¬ K.length<D.length∨K.length=40)
  have HK:=qA (fun(k:Nat) (x:List UInt8) (h:K[k]? = some x)=>(by rw [hK] at h;have:=Mv (E:=[z]) h;first | exact this | (rw [List.append_nil] at this;exact this):(D++[z])[k]? = some x))
  rw [←hK] at HX
  have HP4:Hid (Ej 34 W4 w2.heap.size Ki (.slice none 0 0) (.slice none 0 0)):=qA ⟨hB4,qT _ _ _ _,qT _ _ _ _⟩
  have HB4:=qA hb4
  clear hB4 hb4 hK hmL c0 e0 d1
  go_wp2_with(fail)
  go_loopw [5,6] (fun v5 v6 wr=>∃ (k:Nat) (out:List UInt8) (p:Plr) (vM vC:Value),v5=sV out∧v6 = .int .i64 k∧k≤K.length∧out.length≤k*21002001∧Below w2.heap.size w2 wr∧Hid (Ej 34 wr w2.heap.size p vM vC∧Fi p∧out++F0 Nf Ng Et Fh p (K.drop k)=X)) (fun _ v _=>K.length - (intOf v).toNat)
  case atStart=>exact⟨0,[],Ki,_,_,rfl,rfl,Nat.zero_le _,Nat.zero_le _,HB4.out,qA ⟨HP4.out,Q3,HX.out⟩⟩
  case round=>
   clear HP4 HB4 HX
   obtain⟨k,out,p,vM,vC,rfl,rfl,hk,hol,hb,HR⟩:=hrel
   have hbz:=hb.size
   by_cases hlt:k<K.length
   ·obtain⟨x,hx⟩:∃ x,K[k]? = some x:=⟨K[k],by simp [hlt]⟩
    have hDx:=HK.out k x hx
    have hck:wr.cell? ⟨gW,k,none⟩=some (sV x):=(hb.cell (p:=⟨gW,k,none⟩) hgW).trans (HBK.out k x hDx)
    have hxl:=HS.out x (List.mem_of_getElem? hDx)
    have hd:K.drop k=x::K.drop (k+1):=by rw [qM hlt];congr 1;exact qK ((qI hlt).symm.trans hx)
    have hq:=Y6 p x HR.out.2.1 hxl
    have CL:=U2 B w2.heap.size p vM vC x wr (V.ext ((hb1.trans (hb.mono hb1.size)).mono hB)) (by have:=hb1.size;omega) HR.out.2.1 HR.out.1 hxl
    have hs:=HR.out.2.2
    rw [hd,I7] at hs
    generalize Gf Nf Ng Et Fh p x=Y at CL hq hs
    obtain⟨p2,ans⟩:=Y
    unfold El at CL
    dsimp only at CL hq hs
    obtain⟨hq1,hq2⟩:=hq
    have HQ:=qA (qL hq1 hs)
    have CLH:=qA CL
    have hlen1:out.length+ans.length≤9223372036854775807:=by omega
    have hlen2:out.length+ans.length+1≤9223372036854775807:=by omega
    have hcat:=F9
    have hcat2:∀ a:List UInt8,Value.string (⟨a.toArray⟩++⟨#[10]⟩)=sV (a++[10]):=fun a=>F9 a [10]
    have t0:decide ((k:Int)<(D.length:Int))=true:=qF (by omega)
    have t1:decide ((k:Int)<40)=true:=qF (by omega)
    clear CL hq1 hs hd hx hDx
    go_wp2_with(go_at_call 6;(with_reducible refine CLH.out.mono ?_);rintro e w5 ⟨hb5,rfl,vM5,vC5,hP5⟩)
    go_roundw
    case rel=>exact⟨k+1,out++ans++[10],p2,vM5,vC5,by simp,by go_num,by omega,by simp;omega,hb.trans (hb5.mono (by omega)),qA ⟨hP5,HQ.out.1,by rw [←HQ.out.2];simp⟩⟩
    case measure=>simp [intOf];omega
   ·obtain rfl:k=K.length:=by omega
    have hs:=HR.out.2.2
    rw [List.drop_length] at hs
    have hs:out=X:=by rw [←hs];simp [F0]
    subst hs
    have hb9:=hb1.trans (hb.mono hb1.size)
    have CPH:=qA (CP.out wr hb9)
    clear HR
    rcases HEND.out with he | he
    ·have t0:decide ((K.length:Int)<(D.length:Int))=false:=qG (by omega)
     go_wp2_with(go_at_call 7;(with_reducible refine CPH.out.mono ?_);rintro e w5 ⟨rfl,hb5⟩)
     go_ret
     exact⟨rfl,hb9.trans (hb5.mono hb9.size)⟩
    ·have t1:decide ((K.length:Int)<40)=false:=qG (by omega)
     clear he
     by_cases hkn:K.length<D.length
     ·have t0:decide ((K.length:Int)<(D.length:Int))=true:=qF (by omega)
      go_wp2_with(go_at_call 7;(with_reducible refine CPH.out.mono ?_);rintro e w5 ⟨rfl,hb5⟩)
      go_ret
      exact⟨rfl,hb9.trans (hb5.mono hb9.size)⟩
     ·have t0:decide ((K.length:Int)<(D.length:Int))=false:=qG (by omega)
      go_wp2_with(go_at_call 7;(with_reducible refine CPH.out.mono ?_);rintro e w5 ⟨rfl,hb5⟩)
      go_ret
      exact⟨rfl,hb9.trans (hb5.mono hb9.size)⟩
 ·have e0:(z==[])=false:=by simp [hz]
  rw [if_neg hz] at HX
  clear hz
  go_upto_region 4 with(fail)
  go_upto_region 5 with(first
   |(refine Am rfl 26 _ rfl [(0, .int .i64 8),(1, .int .i64 64),(2, .int .i64 2)] rfl _ L4 ?_)
   |(refine Am rfl 34 _ rfl [(2, .agg #[.int .i64 8, .int .i64 64, .int .i64 2])] rfl _ T6 ?_))
  try go_simp
  refine A1 fun W4 hq=>?_
  have hB4:Blk W4 w2.heap.size 34 (Bs Ki (.slice none 0 0) (.slice none 0 0)):=by
   rw [hq]
   exact Blk.new w2 34 (Bs Ki (.slice none 0 0) (.slice none 0 0))
  have hb4:Below w2.heap.size w2 W4:=by rw [hq];exact(qB _ _).alloc (qC _) _
  clear hq
  obtain⟨K,hK⟩:∃ K,K=(D++[z]).take 40:=⟨_,rfl⟩
  have hmL:K.length=min 40 (D.length+1):=by rw [hK,List.length_take]<;>simp
  have hm40:K.length≤40:=by omega
  have hmn:K.length≤D.length+1:=by omega
  have HEND:=qA (by omega:¬ K.length<D.length+1∨K.length=40)
  have HK:=qA (fun(k:Nat) (x:List UInt8) (h:K[k]? = some x)=>(by rw [hK] at h;have:=Mv (E:=[]) h;first | exact this | (rw [List.append_nil] at this;exact this):(D++[z])[k]? = some x))
  rw [←hK] at HX
  have HP4:Hid (Ej 34 W4 w2.heap.size Ki (.slice none 0 0) (.slice none 0 0)):=qA ⟨hB4,qT _ _ _ _,qT _ _ _ _⟩
  have HB4:=qA hb4
  clear hB4 hb4 hK hmL c0 e0 d1
  go_wp2_with(fail)
  go_loopw [5,6] (fun v5 v6 wr=>∃ (k:Nat) (out:List UInt8) (p:Plr) (vM vC:Value),v5=sV out∧v6 = .int .i64 k∧k≤K.length∧out.length≤k*21002001∧Below w2.heap.size w2 wr∧Hid (Ej 34 wr w2.heap.size p vM vC∧Fi p∧out++F0 Nf Ng Et Fh p (K.drop k)=X)) (fun _ v _=>K.length - (intOf v).toNat)
  case atStart=>exact⟨0,[],Ki,_,_,rfl,rfl,Nat.zero_le _,Nat.zero_le _,HB4.out,qA ⟨HP4.out,Q3,HX.out⟩⟩
  case round=>
   clear HP4 HB4 HX
   obtain⟨k,out,p,vM,vC,rfl,rfl,hk,hol,hb,HR⟩:=hrel
   have hbz:=hb.size
   by_cases hlt:k<K.length
   ·obtain⟨x,hx⟩:∃ x,K[k]? = some x:=⟨K[k],by simp [hlt]⟩
    have hDx:=HK.out k x hx
    have hck:wr.cell? ⟨gW,k,none⟩=some (sV x):=(hb.cell (p:=⟨gW,k,none⟩) hgW).trans (HBK.out k x hDx)
    have hxl:=HS.out x (List.mem_of_getElem? hDx)
    have hd:K.drop k=x::K.drop (k+1):=by rw [qM hlt];congr 1;exact qK ((qI hlt).symm.trans hx)
    have hq:=Y6 p x HR.out.2.1 hxl
    have CL:=U2 B w2.heap.size p vM vC x wr (V.ext ((hb1.trans (hb.mono hb1.size)).mono hB)) (by have:=hb1.size;omega) HR.out.2.1 HR.out.1 hxl
    have hs:=HR.out.2.2
    rw [hd,I7] at hs
    generalize Gf Nf Ng Et Fh p x=Y at CL hq hs
    obtain⟨p2,ans⟩:=Y
    unfold El at CL
    dsimp only at CL hq hs
    obtain⟨hq1,hq2⟩:=hq
    have HQ:=qA (qL hq1 hs)
    have CLH:=qA CL
    have hlen1:out.length+ans.length≤9223372036854775807:=by omega
    have hlen2:out.length+ans.length+1≤9223372036854775807:=by omega
    have hcat:=F9
    have hcat2:∀ a:List UInt8,Value.string (⟨a.toArray⟩++⟨#[10]⟩)=sV (a++[10]):=fun a=>F9 a [10]
    have t0:decide ((k:Int)<(D.length:Int)+1)=true:=qF (by omega)
    have t1:decide ((k:Int)<40)=true:=qF (by omega)
    clear CL hq1 hs hd hx hDx
    go_wp2_with(go_at_call 6;(with_reducible refine CLH.out.mono ?_);rintro e w5 ⟨hb5,rfl,vM5,vC5,hP5⟩)
    go_roundw
    case rel=>exact⟨k+1,out++ans++[10],p2,vM5,vC5,by simp,by go_num,by omega,by simp;omega,hb.trans (hb5.mono (by omega)),qA ⟨hP5,HQ.out.1,by rw [←HQ.out.2];simp⟩⟩
    case measure=>simp [intOf];omega
   ·obtain rfl:k=K.length:=by omega
    have hs:=HR.out.2.2
    rw [List.drop_length] at hs
    have hs:out=X:=by rw [←hs];simp [F0]
    subst hs
    have hb9:=hb1.trans (hb.mono hb1.size)
    have CPH:=qA (CP.out wr hb9)
    clear HR
    rcases HEND.out with he | he
    ·have t0:decide ((K.length:Int)<(D.length:Int)+1)=false:=qG (by omega)
     go_wp2_with(go_at_call 7;(with_reducible refine CPH.out.mono ?_);rintro e w5 ⟨rfl,hb5⟩)
     go_ret
     exact⟨rfl,hb9.trans (hb5.mono hb9.size)⟩
    ·have t1:decide ((K.length:Int)<40)=false:=qG (by omega)
     clear he
     by_cases hkn:K.length<D.length+1
     ·have t0:decide ((K.length:Int)<(D.length:Int)+1)=true:=qF (by omega)
      go_wp2_with(go_at_call 7;(with_reducible refine CPH.out.mono ?_);rintro e w5 ⟨rfl,hb5⟩)
      go_ret
      exact⟨rfl,hb9.trans (hb5.mono hb9.size)⟩
     ·have t0:decide ((K.length:Int)<(D.length:Int)+1)=false:=qG (by omega)
      go_wp2_with(go_at_call 7;(with_reducible refine CPH.out.mono ?_);rintro e w5 ⟨rfl,hb5⟩)
      go_ret
      exact⟨rfl,hb9.trans (hb5.mono hb9.size)⟩
end Go.Proofs.YtapgojgcmlnbgaaGreatDoor
