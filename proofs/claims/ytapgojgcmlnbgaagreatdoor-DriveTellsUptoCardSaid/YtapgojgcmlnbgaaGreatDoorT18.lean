/- Parts of a proof. -/
import Derived.Test.YtapgojgcmlnbgaaGreatDoorTZ
import Derived.Test.YtapgojgcmlnbgaaGreatDoorT15
import Derived.Test.YtapgojgcmlnbgaaGreatDoorT16
import Derived.Test.YtapgojgcmlnbgaaGreatDoorT17
import Derived.Test.YtapgojgcmlnbgaaGreatDoorT02
import Derived.Test.YtapgojgcmlnbgaaGreatDoorT09
import Derived.Test.YtapgojgcmlnbgaaGreatDoorT12
import Derived.Test.YtapgojgcmlnbgaaGreatDoorT14
import Derived.Test.YtapgojgcmlnbgaaGreatDoorT00
import Derived.Test.YtapgojgcmlnbgaaGreatDoorProg
import Derived.WalkLawsBesides
import Derived.WalkSpells
import Derived.Lib.Hide
import Derived.Test.YtapgojgcmlnbgaaGreatDoorT08
import Derived.Deep.RegionHeld
import Derived.Deep.RegionHeld3
import Derived.Test.YtapgojgcmlnbgaaGreatDoorT06
import Derived.Test.YtapgojgcmlnbgaaGreatDoorT03
set_option linter.unusedSimpArgs false
set_option linter.unusedVariables false
set_option maxRecDepth 100000
set_option maxHeartbeats 16000000
namespace Go.Proofs.YtapgojgcmlnbgaaGreatDoor
open Go Go.RowKit
section
variable {B:Nat} {w:World} {g p:Nat} {C:Core} {L:Lay} {ps:List Nat} {cs:Array Value}
theorem Xh (h:Af B w g C L ps cs) (hI:Inv C) (hq:C.seq≤4611686018427387904) (ht:0≤C.taken∧C.taken≤4611686018427387904) :
  Calls Tryz.prog 40 #[.pointer (some ⟨g,0,none⟩)] w (Rk B w g (Bv C)):=by
 by_cases hn:C.still=true∨C.names.free=[]
 ·exact Ahk h hn
 have hst:C.still=false:=by
  rcases e:C.still with _ | _
  ·rfl
  ·exact absurd (Or.inl e) hn
 have hfr:C.names.free≠[]:=fun e=>hn (Or.inr e)
 cases hp:I8 C.slots C.window C.seq with
 |none=>exact Acx h hI.fine hst hfr hp
 |some sl=>
  obtain⟨⟨i,c⟩,hsn⟩:∃ f,Je C=f:=⟨_,rfl⟩
  by_cases hc:c=0
  ·subst hc
   rcases hgv:Bg i with _ | _
   ·exact Aan h hI hst hfr hp hq ht hsn hgv
   ·exact Acy h hI hst hfr hp hq ht hsn hgv
  ·exact Afu h hI hst hfr hp hq ht hsn hc
end
section
variable {B:Nat} {w:World} {g p:Nat} {C:Core} {L:Lay} {ps:List Nat} {cs:Array Value}
theorem Yp (h:Af B w g C L ps cs) (hI:Inv C) {k:Nat} (hk:k<C.ops.length) (h1:(C.op k).state=1) (hp:ps[k]? = some p) (hq:C.seq≤4611686018427387904) (hb1:0≤C.backs) (hb2:C.backs<4611686018427387904) :
  Calls Tryz.prog 38 #[.pointer (some ⟨g,0,none⟩), .pointer (some ⟨p,0,none⟩)] w (Ro B w g (B6 C k)):=by
 obtain⟨e1,e2⟩:=Zi hk
 rw [Am3 hk] at h1
 have hp':ps[(C.ops.take k).length]? = some p:=by rw [e2];exact hp
 rcases hl:Bp (C.ops[k]).ins with _ | _
 ·have:=Wb h hI e1 h1 hl hp' hq hb1 hb2
  rw [e2] at this
  exact this
 ·have:=Wc h hI e1 h1 hl hp' hq hb1 hb2
  rw [e2] at this
  exact this
theorem Afm (h:Af B w g C L ps cs) (hG:Good C) {N:Int} (hB:Bd C N) (hN:N≤900000) (hs:∀ x∈C.script,x≤9223372036854775807) :
  Calls Tryz.prog 22 #[.pointer (some ⟨g,0,none⟩)] w (Ro B w g (Cd C)):=by
 obtain⟨now,hnow⟩:∃ now,C.cycles=now:=⟨_,rfl⟩
 have hbc:=hB.cycles
 have k40:w.cell? ⟨g,40,none⟩=some (.int .i64 now):=by
  have:=h.cell h.cells.cycles
  rw [hnow] at this
  exact this
 have f40:=h.blk.frozen 40
 have zg:=h.lt
 rw [hnow] at hbc
 obtain⟨C0,hC0⟩:∃ C0,C0=({ C with cycles:=now+1 }:Core):=⟨_,rfl⟩
 have hG0:Good C0:=by
  have:=Sj hG
  rw [hnow] at this
  rw [hC0]
  exact this
 have hB0:Bd C0 (N+1):=by
  rw [hC0]
  have hh:=hB.mono (M:=N+1) (by omega)
  exact⟨hh.seq,hh.taken,hh.backs,hh.coms,by show 0≤now+1∧now+1≤N+1;omega⟩
 have hs0:∀ x∈C0.script,x≤9223372036854775807:=by rw [hC0];exact hs
 have h0:=h.set 40 (.int .i64 (now+1)) (h.cells.set_cycles (now+1)) h.rows
 have HJ0:Hid (Af B (w.setCell ⟨g,40,none⟩ (.int .i64 (now+1))) g C0 L ps (cs.setIfInBounds 40 (.int .i64 (now+1)))∧Ah B w (w.setCell ⟨g,40,none⟩ (.int .i64 (now+1)))):=qA ⟨by rw [hC0];exact h0,h.turned (grownBy_setCell w ⟨g,40,none⟩ (.int .i64 (now+1)))⟩
 obtain⟨Y,hY⟩:∃ Y,Cd C=Y:=⟨_,rfl⟩
 have hYd:(Bw C0).hart.state≠0→Y=Bw C0:=fun hh=>by
  rw [←hY]
  unfold Cd
  dsimp only
  rw [hnow,←hC0,if_pos hh]
 have hYe:(Bw C0).hart.state=0→Y=fetchAll (beginAll (finishAll (Bw C0).ops.length 0 now (Bw C0)).ops.length 0 0 now (finishAll (Bw C0).ops.length 0 now (Bw C0))).wide.toNat (beginAll (finishAll (Bw C0).ops.length 0 now (Bw C0)).ops.length 0 0 now (finishAll (Bw C0).ops.length 0 now (Bw C0))):=fun hh=>by
  rw [←hY]
  unfold Cd
  dsimp only
  rw [hnow,←hC0,if_neg (fun hx=>hx hh)]
 obtain⟨kk,_,_,hgd,_,_⟩:=Pk hG0
 have hB1:Bd (Bw C0) (N+5):=(hB0.commit (by have:=hG0.inv.cfg;omega)).mono (by omega)
 have hs1:∀ x∈(Bw C0).script,x≤9223372036854775807:=by rw [Nl];exact hs0
 have hhl:(Bw C0).hart.regs.length=32:=Xn _ _ hG0.inv.hart.len
 have CM:=qA (fun W cs' (hh:Af B W g C0 L ps cs')=>Acl hh hG0 (by have:=hB0.coms;omega))
 rw [hY]
 generalize Bw C0=C1 at *
 have HYD:=qA hYd
 have HYE:=qA hYe
 have HGD:=qA hgd
 have HHL:=qA hhl
 have HB1:=qA hB1
 have HS1:=qA hs1
 clear h hG hB hs hG0 hB0 hs0 h0 hY hYd hYe hgd hB1 hs1 hhl hC0 hnow
 go_enter Tryz.func22,Tryz.ntmps22
 go_upto_region 2 with(fail)
 go_simp
 clear k40 f40 zg
 generalize w.setCell ⟨g,40,none⟩ (.int .i64 (now+1))=w0 at *
 go_upto_region 3 with(go_at_call 37;(with_reducible refine(CM.out _ _ HJ0.out.1).mono ?_);rintro e w1 ⟨rfl,ht1,L1,ps1,cs1,h1⟩;have HJ1:=qA (qL h1 (HJ0.out.2.trans ht1));clear h1 ht1)
 go_simp
 clear CM HJ0
 have q37:w1.cell? ⟨g,37,none⟩=some (.int .i64 C1.hart.state):=HJ1.out.1.hstate HHL.out
 have z1:=HJ1.out.1.lt
 by_cases qs:C1.hart.state=0
 rotate_left
 ·have e3:(C1.hart.state != 0)=true:=by simpa using qs
  have HX:Hid (Y=C1):=qA (HYD.out qs)
  clear qs HYD HYE HGD
  go_wp2_with(fail)
  refine bodyPost_ret (results_none rfl _ _ _) rfl ?_
  exact⟨rfl,HJ1.out.2,_,_,_,by rw [HX.out];exact HJ1.out.1⟩
 have e3:(C1.hart.state != 0)=false:=by simpa using qs
 have hG1:Good C1:=by
  rcases HGD.out with hh | hh
  ·exact absurd qs hh
  ·exact hh
 obtain⟨S,hS⟩:∃ S,C1.script=S:=⟨_,rfl⟩
 have HSS:Hid (∀ x∈S,x≤9223372036854775807):=qA (by rw [←hS];exact HS1.out)
 have hYE:=HYE.out qs
 obtain⟨C2,hC2⟩:∃ C2,finishAll C1.ops.length 0 now C1=C2:=⟨_,rfl⟩
 rw [hC2] at hYE
 have HYE2:=qA hYE
 have HL1:Hid (Lp1 C1 C2 0 C1.ops.length now (N+5) S):=qA ⟨hG1,hC2,by omega,HB1.out.mono (by omega),fun x hx=>by rw [←hS];exact hx⟩
 clear qs HYD HYE HGD hG1 hS hYE hC2 HB1 HS1 HHL
 go_upto_region 5 with(fail)
 clear q37 z1 e3
 go_loopw [3,4] (fun v3 v4 wr=>∃ (k r:Nat) (X:Core) (LX:Lay) (px:List Nat) (cx:Array Value),v3 = .int .i64 k∧k≤32∧Hid (Af B wr g X LX px cx∧Ah B w wr)∧Hid (Lp1 X C2 k r now (N+5) S)) (fun v _ _=>33 - (intOf v).toNat)
 case atStart=>exact⟨0,_,_,_,_,_,rfl,by omega,HJ1,HL1⟩
 case round=>
  clear HJ1 HL1
  obtain⟨k,r,X,LX,px,cx,rfl,hk32,HR,HL⟩:=hrel
  have hpl:=HR.out.1.rows.uops.len
  have hol:=HL.out.good.inv.lens.1
  obtain⟨A,n,hvo,hno1,hno2,hno3⟩:=Fc HR.out.1.rows.ptrs
  have c335:wr.cell? ⟨g,335,none⟩=some (.slice A px.length n):=by rw [←hvo];exact HR.out.1.ops
  have zg:=HR.out.1.lt
  obtain⟨m,hm⟩:∃ m,px.length=m:=⟨_,rfl⟩
  have HMP:=qA hm
  have HMO:=qA (show X.ops.length=m by rw [←hpl];exact hm)
  have hm32:m≤32:=by omega
  rw [hm] at c335 hno1
  have HVO:=qA hvo
  clear hpl hol hvo hno3 hm
  by_cases hlt:k<m
  ·have hkx:k<X.ops.length:=by rw [HMO.out];exact hlt
   have hkp:k<px.length:=by rw [HMP.out];exact hlt
   have hrow:=HR.out.1.rows.ptrs
   rw [HVO.out] at hrow
   obtain⟨bP,oP,rfl,zP,cP⟩:=G2 hrow hkp
   have hpk:px[k]? = some px[k]:=qI hkp
   have hu:=(HR.out.1.uop_at hpk).1
   have HPK:=qA hpk
   obtain⟨q,hq⟩:∃ q,px[k]=q:=⟨_,rfl⟩
   rw [hq] at cP hu HPK
   have c1:wr.cell? ⟨q,1,none⟩=some (.int .i64 (X.op k).state):=hu.cell 1
   have c2:wr.cell? ⟨q,2,none⟩=some (.int .i64 (X.op k).ready):=hu.cell 2
   have zq:=hu.lt
   have HKX:=qA hkx
   clear hkx hkp hrow hpk hu hq
   by_cases hy:(X.op k).state=1∧(X.op k).ready≤now
   ·obtain⟨r',hl2⟩:=HL.out.step HKX.out hy
    have HL2:=qA hl2
    have CC:=qA (Yp HR.out.1 HL.out.good.inv HKX.out hy.1 HPK.out (by have:=HL.out.bd.seq;omega) HL.out.bd.backs.1 (by have:=HL.out.bd.backs;omega))
    have e1:((X.op k).state==1)=true:=by simpa using hy.1
    have e2:decide ((X.op k).ready≤now)=true:=qF hy.2
    clear hy hl2
    go_wp2_with(go_at_call 38;(with_reducible refine CC.out.mono ?_);rintro e w2 ⟨rfl,ht2,L2,ps2,cs2,h2⟩;have HJ2:=qA (qL h2 (HR.out.2.trans ht2));clear h2 ht2)
    go_roundw
    case rel=>exact⟨k+1,r',_,_,_,_,by go_num,by omega,HJ2,HL2⟩
    case measure=>simp [intOf];omega
   ·obtain⟨r',hl2⟩:=HL.out.skip HKX.out hy
    have HL2:=qA hl2
    have hy2:(X.op k).state≠1∨((X.op k).state=1∧¬ (X.op k).ready≤now):=by
     by_cases h1:(X.op k).state=1
     ·exact Or.inr ⟨h1,fun h2=>hy ⟨h1,h2⟩⟩
     ·exact Or.inl h1
    clear hy hl2
    rcases hy2 with hy | ⟨hy1,hy2⟩
    ·have e1:((X.op k).state==1)=false:=by simpa using hy
     clear hy
     go_wp2_with(fail)
     go_roundw
     case rel=>exact⟨k+1,r',_,_,_,_,by go_num,by omega,HR,HL2⟩
     case measure=>simp [intOf];omega
    ·have e1:((X.op k).state==1)=true:=by simpa using hy1
     have e2:decide ((X.op k).ready≤now)=false:=qG hy2
     clear hy1 hy2
     go_wp2_with(fail)
     go_roundw
     case rel=>exact⟨k+1,r',_,_,_,_,by go_num,by omega,HR,HL2⟩
     case measure=>simp [intOf];omega
  ·have HX:Hid (C2=X):=qA (HL.out.stop (by rw [HMO.out];omega))
   have e1:decide (k<m)=false:=qG hlt
   obtain⟨C3,hC3⟩:∃ C3,beginAll C2.ops.length 0 0 now C2=C3:=⟨_,rfl⟩
   have HYE3:Hid (Y=fetchAll C3.wide.toNat C3):=qA (by rw [←hC3];exact HYE2.out)
   have HL2:Hid (Lp2 X C3 0 X.ops.length 0 now (N+70) S):=qA ⟨HL.out.good,by rw [←hC3,HX.out],by omega,HL.out.bd.mono (by omega),HL.out.sub⟩
   clear hC3 HYE2 HX HL HMP HMO HVO hno1 hno2 hm32 hlt hk32
   go_upto_region 12 with(fail)
   clear c335 zg e1
   go_loopw [5,6] (fun v5 v6 wx=>∃ (k r s:Nat) (X:Core) (LX:Lay) (px:List Nat) (cx:Array Value),v6 = .int .i64 k∧v5 = .int .i64 s∧s≤k∧k≤32∧Hid (Af B wx g X LX px cx∧Ah B w wx)∧Hid (Lp2 X C3 k r s now (N+70) S)) (fun _ v _=>33 - (intOf v).toNat)
   case atStart=>exact⟨0,_,0,_,_,_,_,rfl,rfl,by omega,by omega,HR,HL2⟩
   case round=>
    clear HR HL2
    obtain⟨k,r,s,X,LX,px,cx,rfl,rfl,hsk,hk32,HR,HL⟩:=hrel
    have hpl:=HR.out.1.rows.uops.len
    have hol:=HL.out.good.inv.lens.1
    obtain⟨A,n,hvo,hno1,hno2,hno3⟩:=Fc HR.out.1.rows.ptrs
    have c335:wr.cell? ⟨g,335,none⟩=some (.slice A px.length n):=by rw [←hvo];exact HR.out.1.ops
    have zg:=HR.out.1.lt
    obtain⟨m,hm⟩:∃ m,px.length=m:=⟨_,rfl⟩
    have HMP:=qA hm
    have HMO:=qA (show X.ops.length=m by rw [←hpl];exact hm)
    have hm32:m≤32:=by omega
    rw [hm] at c335 hno1
    have HVO:=qA hvo
    have q2:wr.cell? ⟨g,2,none⟩=some (.int .i64 X.wide):=HR.out.1.cell HR.out.1.cells.wide
    clear hpl hol hvo hno3 hm
    by_cases hlt:k<m
    ·have e0:decide (k<m)=true:=qF hlt
     by_cases hsw:(s:Int)<X.wide
     ·have e2:decide ((s:Int)<X.wide)=true:=qF hsw
      have hkx:k<X.ops.length:=by rw [HMO.out];exact hlt
      have hkp:k<px.length:=by rw [HMP.out];exact hlt
      have h0p:0<px.length:=by omega
      have hrow:=HR.out.1.rows.ptrs
      rw [HVO.out] at hrow
      obtain⟨b0,o0,e00,z0,c00⟩:=G2 hrow h0p
      obtain⟨bP,oP,rfl,zP,cP⟩:=G2 hrow hkp
      injection e00 with e00
      injection e00 with e01 e02 e03
      subst e01 e02
      clear e03
      rw [Nat.add_zero] at c00
      have hpk:px[k]? = some px[k]:=qI hkp
      have hp0:px[0]? = some px[0]:=qI h0p
      have hu0:=(HR.out.1.uop_at hp0).1
      have HPK:=qA hpk
      obtain⟨q,hq⟩:∃ q,px[k]=q:=⟨_,rfl⟩
      obtain⟨q0,hq0⟩:∃ q0,px[0]=q0:=⟨_,rfl⟩
      rw [hq] at cP HPK
      rw [hq0] at c00 hu0
      have d0:wr.cell? ⟨q0,0,none⟩=some (.int .i64 (X.op 0).seq):=hu0.cell 0
      have zq0:=hu0.lt
      obtain⟨r',hl2⟩:=HL.out.step hkx hsw
      have HL2:=qA hl2
      have hnb:=HL.out.bd.cycles
      have CB:=qA (fun W (hb:Below wr.heap.size wr W)=>Ae2 (HR.out.1.ext hb) HL.out.good.inv HPK.out now (X.op 0).seq (by omega) (by omega) (fun x hx=>HSS.out x (HL.out.sub x hx)))
      have hm0:0<m:=by omega
      clear hkx hkp h0p hrow hpk hp0 hu0 hq hq0 hl2 hnb hsw
      go_upto_region 14 with(fail)
      go_simp
      refine Ad 110447 151696 262143 [0,1,2,3,4,5,6,7,8,9,10,11,12,13,14,15,16,17,18] (by kernel_rfl) (by kernel_rfl) (by kernel_rfl) rfl ?_
      refine rR (fun wq hwq=>i2 (hwq.at_ zg c335) (i2 (hwq.at_ zP cP) (i2 (hwq.at_ zP c00) (hwq.at_ zq0 d0)))) ?_
      refine oS (fun w2 hw2 K1 hK1=>?_)
      have hb2:Below wr.heap.size wr w2:=by rw [hw2];exact(qB _ _).drew
      clear hw2
      generalize hbb:(Cb X k now (X.op 0).seq).1=bb at *
      go_wp2_with(go_at_call 39;(with_reducible refine(CB.out w2 hb2).mono ?_);rintro e w3 ⟨rfl,ht3,L3,cs3,h3⟩;have HJ3:=qA (qL h3 ((HR.out.2.trans (Ah.below (B:=B) hb2)).trans ht3));clear h3 ht3)
      refine hK1 _ _ (fun _=>True) trivial ?_
      simp only [Act.put,sA,sS,sZ]
      clear hK1 K1 CB
      refine Aj ?_
      rintro w4 hw4
      rw [←hw4] at HJ3
      clear hw4 hb2 c335 cP c00 d0 q2 zg zP z0 zq0
      rcases bb with _ | _
      ·rw [if_neg (by decide)] at HL2
       go_wp2_with(fail)
       go_roundw
       case rel=>exact⟨k+1,r',s,_,_,_,_,by go_num,rfl,by omega,by omega,HJ3,HL2⟩
       case measure=>simp [intOf];omega
      ·rw [if_pos rfl] at HL2
       go_wp2_with(fail)
       go_roundw
       case rel=>exact⟨k+1,r',s+1,_,_,_,_,by go_num,by go_num,by omega,by omega,HJ3,qA (by have:=HL2.out;simpa using this)⟩
       case measure=>simp [intOf];omega
     ·have e2:decide ((s:Int)<X.wide)=false:=qG hsw
      have HSW:=qA (show X.wide≤(s:Int) by omega)
      clear hsw
      have HX3:Hid (C3=X):=qA (HL.out.stop (fun hh=>by have:=HSW.out;omega))
      have hG3:=HL.out.good
      have hcf:=hG3.inv.cfg.2
      obtain⟨wn,hwn⟩:=qH (show 0≤X.wide by omega)
      have HWN:=qA hwn
      have hwn4:wn≤4:=by omega
      have HL3:Hid (Lp3 X Y wn (N+80) S):=qA ⟨hG3,by
       have h1:=HYE3.out
       rw [HX3.out,hwn,Int.toNat_natCast] at h1
       exact h1.symm,HL.out.bd.mono (by omega),HL.out.sub⟩
      clear hG3 hcf hwn HL HX3 HYE3
      go_upto_region 17 with(fail)
      clear c335 zg
      go_loopw [7] (fun v7 wx=>∃ (k r:Nat) (X:Core) (LX:Lay) (px:List Nat) (cx:Array Value),v7 = .int .i64 k∧k+r=wn∧Hid (X.wide=wn)∧Hid (Af B wx g X LX px cx∧Ah B w wx)∧Hid (Lp3 X Y r (N+80) S)) (fun v _=>6 - (intOf v).toNat)
      case atStart=>exact⟨0,wn,_,_,_,_,rfl,by omega,HWN,HR,HL3⟩
      case round=>
       clear HR HL3 HWN
       obtain⟨k,r,X,LX,px,cx,rfl,hkr,HW,HR,HL⟩:=hrel
       have q2:wr.cell? ⟨g,2,none⟩=some (.int .i64 (wn:Int)):=by
        have h1:=HR.out.1.cell HR.out.1.cells.wide
        rw [HW.out] at h1
        exact h1
       have zg:=HR.out.1.lt
       by_cases hlt:k<wn
       ·obtain⟨r2,rfl⟩:∃ r2,r=r2+1:=⟨r - 1,by omega⟩
        have e1:decide (k<wn)=true:=qF hlt
        have hbd:=HL.out.bd
        have hb1:=hbd.seq
        have hb2:=hbd.taken
        have CF:=qA (Xh HR.out.1 HL.out.good.inv (by omega) ⟨by omega,by omega⟩)
        have HWF:Hid ((Bv X).2.wide=wn):=qA ((J2 HL.out.good 0).mid.wide.trans HW.out)
        clear hbd hb1 hb2
        rcases hfc:(Bv X).1 with _ | _
        ·have HX:=qA (HL.out.last hfc)
         have HFC:=qA hfc
         clear hfc
         go_wp2_with(go_at_call 40;(with_reducible refine CF.out.mono ?_);intro e w2 hpost;obtain⟨he,ht2,L2,ps2,cs2,h2⟩:=hpost;rw [HFC.out] at he;subst he;have HJ2:=qA (qL h2 (HR.out.2.trans ht2));clear h2 ht2)
         refine bodyPost_end (results_none rfl _ _ _) rfl ?_
         exact⟨rfl,HJ2.out.2,_,_,_,by rw [HX.out];exact HJ2.out.1⟩
        ·have HL2:=qA (HL.out.step hfc)
         have HFC:=qA hfc
         clear hfc
         go_wp2_with(go_at_call 40;(with_reducible refine CF.out.mono ?_);intro e w2 hpost;obtain⟨he,ht2,L2,ps2,cs2,h2⟩:=hpost;rw [HFC.out] at he;subst he;have HJ2:=qA (qL h2 (HR.out.2.trans ht2));clear h2 ht2)
         go_roundw
         case rel=>exact⟨k+1,r2,_,_,_,_,by go_num,by omega,HWF,HJ2,HL2⟩
         case measure=>simp [intOf];omega
       ·have e1:decide (k<wn)=false:=qG hlt
        obtain rfl:r=0:=by omega
        have HX:Hid (Y=X):=qA HL.out.goes.symm
        clear HL
        go_wp2_with(fail)
        refine bodyPost_end (results_none rfl _ _ _) rfl ?_
        exact⟨rfl,HR.out.2,_,_,_,by rw [HX.out];exact HR.out.1⟩
    ·have e0:decide (k<m)=false:=qG hlt
     have HX3:Hid (C3=X):=qA (HL.out.stop (fun hh=>by have:=HMO.out;omega))
     have hG3:=HL.out.good
     have hcf:=hG3.inv.cfg.2
     obtain⟨wn,hwn⟩:=qH (show 0≤X.wide by omega)
     have HWN:=qA hwn
     have hwn4:wn≤4:=by omega
     have HL3:Hid (Lp3 X Y wn (N+80) S):=qA ⟨hG3,by
      have h1:=HYE3.out
      rw [HX3.out,hwn,Int.toNat_natCast] at h1
      exact h1.symm,HL.out.bd.mono (by omega),HL.out.sub⟩
     clear hG3 hcf hwn HL HX3 HYE3
     go_upto_region 17 with(fail)
     clear c335 zg
     go_loopw [7] (fun v7 wx=>∃ (k r:Nat) (X:Core) (LX:Lay) (px:List Nat) (cx:Array Value),v7 = .int .i64 k∧k+r=wn∧Hid (X.wide=wn)∧Hid (Af B wx g X LX px cx∧Ah B w wx)∧Hid (Lp3 X Y r (N+80) S)) (fun v _=>6 - (intOf v).toNat)
     case atStart=>exact⟨0,wn,_,_,_,_,rfl,by omega,HWN,HR,HL3⟩
     case round=>
      clear HR HL3 HWN
      obtain⟨k,r,X,LX,px,cx,rfl,hkr,HW,HR,HL⟩:=hrel
      have q2:wr.cell? ⟨g,2,none⟩=some (.int .i64 (wn:Int)):=by
       have h1:=HR.out.1.cell HR.out.1.cells.wide
       rw [HW.out] at h1
       exact h1
      have zg:=HR.out.1.lt
      by_cases hlt:k<wn
      ·obtain⟨r2,rfl⟩:∃ r2,r=r2+1:=⟨r - 1,by omega⟩
       have e1:decide (k<wn)=true:=qF hlt
       have hbd:=HL.out.bd
       have hb1:=hbd.seq
       have hb2:=hbd.taken
       have CF:=qA (Xh HR.out.1 HL.out.good.inv (by omega) ⟨by omega,by omega⟩)
       have HWF:Hid ((Bv X).2.wide=wn):=qA ((J2 HL.out.good 0).mid.wide.trans HW.out)
       clear hbd hb1 hb2
       rcases hfc:(Bv X).1 with _ | _
       ·have HX:=qA (HL.out.last hfc)
        have HFC:=qA hfc
        clear hfc
        go_wp2_with(go_at_call 40;(with_reducible refine CF.out.mono ?_);intro e w2 hpost;obtain⟨he,ht2,L2,ps2,cs2,h2⟩:=hpost;rw [HFC.out] at he;subst he;have HJ2:=qA (qL h2 (HR.out.2.trans ht2));clear h2 ht2)
        refine bodyPost_end (results_none rfl _ _ _) rfl ?_
        exact⟨rfl,HJ2.out.2,_,_,_,by rw [HX.out];exact HJ2.out.1⟩
       ·have HL2:=qA (HL.out.step hfc)
        have HFC:=qA hfc
        clear hfc
        go_wp2_with(go_at_call 40;(with_reducible refine CF.out.mono ?_);intro e w2 hpost;obtain⟨he,ht2,L2,ps2,cs2,h2⟩:=hpost;rw [HFC.out] at he;subst he;have HJ2:=qA (qL h2 (HR.out.2.trans ht2));clear h2 ht2)
        go_roundw
        case rel=>exact⟨k+1,r2,_,_,_,_,by go_num,by omega,HWF,HJ2,HL2⟩
        case measure=>simp [intOf];omega
      ·have e1:decide (k<wn)=false:=qG hlt
       obtain rfl:r=0:=by omega
       have HX:Hid (Y=X):=qA HL.out.goes.symm
       clear HL
       go_wp2_with(fail)
       refine bodyPost_end (results_none rfl _ _ _) rfl ?_
       exact⟨rfl,HR.out.2,_,_,_,by rw [HX.out];exact HR.out.1⟩
end
end Go.Proofs.YtapgojgcmlnbgaaGreatDoor
namespace Go.Proofs.YtapgojgcmlnbgaaGreatDoor
open Go.RowKit
theorem Ov:(Tryz.prog.info? 5).map (fun i=>(i.zero,i.size,i.bytes))=some (some (.int .u8 0),1,1):=by kernel_rfl
theorem Ni (A:Option Addr) (n cap:Nat) (cs:List Value) (w:World) (hl:n*1≤140737488355328) (hlen:cs.length=n*1) (h1:∀ u∈cs,u.oneCell'=true)
  (hc:∀ ad,A=some ad→∀ j u,cs[j]? = some u→w.cell? (ad.add j)=some u) (hnil:A=none→n=0) :
  Calls Tryz.prog 19 #[.slice A n cap] w fun e w'=>∃ v,e = .returned v∧w'.ownsRow w.heap.size 5 1 v n cs∧Below w.heap.size w w':=by
 rcases A with _ | ad
 ·obtain rfl:=hnil rfl
  obtain rfl:cs=[]:=qN (by simpa using hlen)
  have hn:=Lib.run_eql_slice_nil (P:=Tryz.prog) w 31 5 none 0 cap 0 0 Tryz.underlying31
  go_enter Tryz.func19,Tryz.ntmps19
  go_wp2
  go_ret
  exact⟨_,rfl,qT _ _ _ _,qB _ _⟩
 ·have hn:=Lib.run_eql_slice_nil (P:=Tryz.prog) w 31 5 (some ad) n cap 0 0 Tryz.underlying31
  obtain⟨i0,hi,hz0,hz1,hz2⟩:=info_parts Ov
  have Hc:=qA (hc ad rfl)
  clear hc hnil
  have hown0:=World.ownsRow_lit (base:=w.heap.size) (e:=5) (size:=1) w #[] 0 (qC _) (by unfold maxLen;omega) rfl
  go_enter Tryz.func19,Tryz.ntmps19
  go_wp2_with(at_builtin;refine wpList_append_own _ rfl (.tmp 5) (.tmp 6) 31 rfl w.heap.size 5 i0 _ 1 1 Tryz.underlying31 hi hz0 hz1 hz2 rfl (by decide) _ 0 [] rfl hown0 ad n cap cs rfl hlen (fun j u hu=>(World.cell?_alloc_lt _ _ _ (World.block_lt_of_cell? _ _ (Hc.out j u hu))).trans (Hc.out j u hu)) h1 (by unfold maxLen;omega) (by omega) (by simp) ?_;intro v1 w1 hown1 hg1 hat1)
  go_ret
  refine⟨v1,rfl,by simpa using hown1,((qB _ _).alloc (qC _) _).grown hg1 (by simp) (fun k hk=>?_)⟩
  cases hk
  exact qC _
end Go.Proofs.YtapgojgcmlnbgaaGreatDoor
namespace Go.Proofs.YtapgojgcmlnbgaaGreatDoor
open Go Go.RowKit
def Ai4 (w:World) (Y:Core) (e:Ending) (w':World):Prop:=
 Below w.heap.size w w'∧∃ vc vm,e = .returned (.tuple #[.agg (Cq vc Y.hart vm Y.cycles Y.taken Y.backs), .int .i64 0])∧w'.ownsRow w.heap.size 65 11 vc Y.commits.length (Ec Y.commits)∧w'.ownsRow w.heap.size 5 1 vm Y.mem.length (Y.mem.map (.int .u8))
theorem Aic {w w':World} {base:Nat} {e:TypeId} {size:Nat} {v:Value} {n:Nat} {xs:List Value} (ho:w.ownsRow base e size v n xs) {g:Nat} (k:w.grownBy w' (some g)) (hg:g<base):w'.ownsRow base e size v n xs:=
 ⟨ho.1,ho.2.imp id fun⟨j,cap,cur,e,l,hh,r⟩=>⟨j,cap,cur,e,l,by
  have hj:j<w.heap.size:=by
   rcases Nat.lt_or_ge j w.heap.size with h' | h'
   ·exact h'
   ·rw [Array.getElem?_eq_none h'] at hh;cases hh
  rw [←hh]
  exact k.block j hj (fun e=>by injection e;omega),r⟩⟩
theorem Acn {B:Nat} {w:World} {g:Nat} (hg:B≤g) (a b c pc:Int) {A:Option Addr} {cap:Nat} {sc:List Int} (h1:sc.length≤cap) (h2:cap≤9223372036854775807) (h3:Ar w B .i64 A sc) (h4:A=none→sc=[]∧cap=0) :
  Cp B w g (Ajj (.slice A sc.length cap)) [] (O1 a b c sc pc).commits (O1 a b c sc pc).mem (O1 a b c sc pc).slots (O1 a b c sc pc).access (O1 a b c sc pc).ops (O1 a b c sc pc).names (O1 a b c sc pc).script:=by
 have hz:Kj w Ax.zero none 0:=⟨by decide,by decide,rfl,by decide,by decide,fun h=>absurd rfl h,fun _=>⟨rfl,rfl⟩,by decide⟩
 exact⟨hg,qT _ _ _ _,qT _ _ _ _,qT _ _ _ _,qT _ _ _ _,Or.inl ⟨rfl,rfl⟩,⟨rfl,fun i u p h _=>(by cases h),List.nodup_nil⟩,hz,fun h=>absurd rfl h,⟨A,cap,rfl,h1,h2,h3,h4⟩⟩
theorem Ju (A:Option Addr) (n c:Nat) (H:Aq) (A2:Option Addr) (n2 c2:Nat) (cy tk bk:Int):(Cq (.slice A n c) H (.slice A2 n2 c2) cy tk bk).all (·.oneCell')=true:=by
 have h1:=Fp H
 rw [←Array.all_toList] at h1
 unfold Cq
 rw [List.all_toArray,List.all_cons,List.all_append,h1]
 rfl
theorem Sr:(Tryz.prog.info? 49).map (·.size)=some 40:=by kernel_rfl
theorem Aj5 (a b c:Int) (h:Aq) (A:Option Addr) (cap:Nat) (m:List Int) (A2:Option Addr) (cap2:Nat) (sc:List Int) (cycles:Int) (w:World) (ask:Ad8 a b c h m) (hA:Ar w w.heap.size .u8 A m) (hnil:A=none→m=[])
  (hS:Ar w w.heap.size .i64 A2 sc) (hSn:A2=none→sc=[]∧cap2=0) (hS1:sc.length≤cap2) (hS2:cap2≤9223372036854775807) (hS3:sc.length≤3000) (hSb:∀ x∈sc,x≤9223372036854775807) (hc0:0≤cycles) (hc1:cycles≤6000) :
  Calls Tryz.prog 13 #[.agg #[.int .i64 a, .int .i64 b, .int .i64 c], .agg h.cells, .slice A m.length cap, .slice A2 sc.length cap2, .int .i64 cycles] w (Ai4 w (Jm a b c h m sc cycles.toNat)):=by
 obtain⟨N,rfl⟩:=qH hc0
 rw [Int.toNat_natCast]
 have hh:=ask.hart.len
 have hroom:=ask.room
 have hpc0:=ask.hart.pc0
 have hpc1:=ask.hart.pc1
 have CC:=qA (fun W=>Kq a b c W)
 have CM:=qA (fun W=>Qs h W hh)
 rw [ask.may] at CM
 have hmc:(decide (1≤a)&&decide (a≤32)&&decide (33≤b)&&decide (b≤96)&&decide (1≤c)&&decide (c≤4))=true:=by
  rw [qF ask.window.1,qF ask.window.2,qF ask.phys.1,qF ask.phys.2,qF ask.wide.1,qF ask.wide.2];rfl
 rw [hmc] at CC
 clear hmc
 have f1:decide ((4096:Int)<(m.length:Int))=false:=qG (by omega)
 have f2:decide ((3000:Int)<(sc.length:Int))=false:=qG (by omega)
 have f3:decide ((N:Int)<0)=false:=qG (by omega)
 have f4:decide ((6000:Int)<(N:Int))=false:=qG (by omega)
 have CL:=qA (fun W (hW:Ar W W.heap.size .u8 A m)=>Ni A m.length cap (m.map (.int .u8)) W (by omega) (by simp) (ints_oneCell _ _) hW.cells (fun e=>by rw [hnil e];rfl))
 obtain⟨Y,hY⟩:∃ Y,Jm a b c h m sc N=Y:=⟨_,rfl⟩
 rw [hY]
 have HY:=qA hY
 have ASK:=qA ask
 have HA:=qA hA
 have HSC:=qA (qL hS (qL hSn (qL hS1 hS2)))
 have HSB:=qA hSb
 clear hY ask hA hS hSn hS1 hS2 hSb hc0 hnil
 go_enter Tryz.func13,Tryz.ntmps13
 go_upto_region 1 with(fail)
 go_simp
 refine A1 fun wa hq=>?_
 have hC:Blk wa w.heap.size 26 #[.int .i64 a, .int .i64 b, .int .i64 c]:=by rw [hq];exact((Blk.new w _ _).alloc _).alloc _
 have hH:Blk wa (w.heap.size+1) 30 h.cells:=by rw [hq];exact(Blk.newAt (w.alloc _) 30 _ (by simp)).alloc _
 have hR:Blk wa (w.heap.size+2) 49 J7:=by rw [hq];exact Blk.newAt ((w.alloc _).alloc _) 49 _ (by simp)
 have hbl:Below w.heap.size w wa:=by rw [hq];exact(((qB _ _).alloc (qC _) _).alloc (by simp) _).alloc (by simp;omega) _
 clear hq
 go_upto_region 8 with(first
  |(refine Ab rfl 26 _ rfl w.heap.size rfl 26 _ _ hC Tryz.underlying26 rfl Z9 ?_)
  |(go_at_call 10;(with_reducible refine(CC.out _).mono ?_);rintro e w1 ⟨rfl,hb1⟩;replace hbl:=hbl.trans (hb1.mono hbl.size);replace hR:=hR.ext hb1;replace hH:=hH.ext hb1;replace hC:=hC.ext hb1;clear hb1)
  |(refine Pe rfl fun K hK=>?_;refine E3 30 _ rfl (w.heap.size+1) rfl 30 _ _ hH Tryz.underlying30 rfl (Ca hh) ?_;refine hK _ _ ?_;clear hK K)
  |(go_at_call 18;(with_reducible refine(CM.out _).mono ?_);rintro e w2 ⟨rfl,hb2⟩;replace hbl:=hbl.trans (hb2.mono hbl.size);replace hR:=hR.ext hb2;replace hH:=hH.ext hb2;replace hC:=hC.ext hb2;clear hb2;have c32:=(hH.cell 32).trans (Aq.cells_pc hh).1;have zH:=hH.lt)
  |(refine Am rfl 86 _ rfl [(0, .agg #[.int .i64 a, .int .i64 b, .int .i64 c]),(2, .slice A2 sc.length cap2),(11, .int .u32 h.pc)] rfl _ (Z5 a b c A2 sc.length cap2 h.pc) ?_))
 go_simp
 refine A1 fun wz hq=>?_
 have e0:(((((Tryz.zeroCells86.setIfInBounds 0 (.int .i64 a)).setIfInBounds 1 (.int .i64 b)).setIfInBounds 2 (.int .i64 c)).setIfInBounds 43 (.slice A2 sc.length cap2)).setIfInBounds 338 (.int .u32 h.pc))=K4 a b c (.slice A2 sc.length cap2) h.pc:=by kernel_rfl
 rw [e0] at hq
 have hG0:Blk wz w2.heap.size 86 (K4 a b c (.slice A2 sc.length cap2) h.pc):=by rw [hq];exact Blk.new w2 _ _
 have hbz:Below w2.heap.size w2 wz:=by rw [hq];exact(qB _ _).alloc (qC _) _
 have zR:=hR.lt
 replace hC:=hC.ext hbz
 replace hH:=hH.ext hbz
 replace hR:=hR.ext hbz
 replace hbl:=hbl.trans (hbz.mono hbl.size)
 obtain⟨g,hg⟩:∃ g,g=w2.heap.size:=⟨_,rfl⟩
 rw [←hg] at hG0 zR ⊢
 have HI0:Hid (Af w.heap.size wz g (O1 a b c sc h.pc) (Ajj (.slice A2 sc.length cap2)) [] (K4 a b c (.slice A2 sc.length cap2) h.pc)):=qA ⟨hbl.size,hG0,Yq a b c _ sc h.pc,Acn (by omega) a b c h.pc HSC.out.2.2.1 HSC.out.2.2.2 (HSC.out.1.below hbl) HSC.out.2.1⟩
 have zg:=hG0.lt
 clear e0 hq hbz hg hG0 c32 f1 f2 f3 f4 CC CM HSC zH
 have HZ:=qA (qL hC (qL hH (qL hR hbl)))
 have hA0:=HA.out.below hbl
 have HA0:=qA (hA0.mono hbl.size)
 clear hC hR hbl hA0 HA
 refine Ad 3819 4 3823 [0,1,2,3,4,5,6,7,8,9,10,11,12] (by kernel_rfl) (by kernel_rfl) (by kernel_rfl) rfl ?_
 repeat'(first
  |refine rZ ?_
  |(refine' oR _ (by decide) (by decide) (by decide) (fun wq hwq K hK=>?_) ?_ ?_;rotate_left 1;(· first | ((refine E3 30 _ rfl (w.heap.size+1) rfl 30 _ _ (hH.ext hwq) Tryz.underlying30 rfl (Ca hh) ?_;exact hK)) | (go_wp2_with(fail);all_goals exact hK));rfl)
  |fail)
 refine oB (fun w3 hw3 K1 hK1=>?_)
 have hb3:Below wz.heap.size wz w3:=by rw [hw3];exact(qB _ _).drew
 clear hw3
 have hA3:=(HA0.out.below hb3).mono hb3.size
 go_wp2_with(go_at_call 19;(with_reducible refine(CL.out _ hA3).mono ?_);rintro e w4 ⟨v,rfl,hM,hb4⟩;obtain⟨A3,cap3,rfl⟩:=Al hM)
 replace hb4:=hb3.trans (hb4.mono hb3.size)
 have z34:=hb3.size
 replace hM:=qA (Lp hM z34)
 refine hK1 _ _ hb4 ?_
 simp only [Act.put,sA,sS,sZ]
 clear hK1 K1 hb3 hA3 z34 CL HA0
 refine rO ?_
 refine oS (fun w5 hw5 K1 hK1=>?_)
 rw [←hw5] at hb4 hM
 clear hw5
 have h5:=HI0.out.ext hb4
 obtain⟨s1,s2,s3⟩:=N3 (off:=4) (n:=35) h5.cells.size (by decide) (Aq.cells_size hh)
 have S123:=qA (qL s1 (qL s2 s3))
 clear s1 s2 s3
 refine Ch 30 _ _ rfl g 4 h.cells rfl rfl 86 _ h5.blk (Ca hh) (by rw [Aq.cells_size hh,h5.cells.size];decide) (Fp h) ?_
 intro w6 hB6 hg6
 refine hK1 undef _ (fun _=>True) trivial ?_
 simp only [Act.put,sA,sS,sZ]
 clear hK1 K1
 have h6:=qA (Af.mk (qD h5.low hg6.size) hB6 (h5.cells.part_hart h S123.out.1 S123.out.2.1 S123.out.2.2) (h5.rows.core h5.low h5.blk hg6))
 have HJ6:=qA (qL ((Ah.below (B:=w.heap.size) hb4).trans (h5.turned hg6)) (Lp (Aic hM.out hg6 zg) HI0.out.low))
 clear h5 S123 hB6 hg6 hb4 hM HI0
 refine rO ?_
 refine oS (fun w7 hw7 K1 hK1=>?_)
 rw [←hw7] at h6 HJ6
 clear hw7
 have k39:=h6.out.cell h6.out.cells.mem
 have f39:=h6.out.blk.frozen 39
 have z7:=h6.out.lt
 have hrows:=h6.out.rows
 have s7:=h6.out.set 39 (.slice A3 m.length cap3) (h6.out.cells.set_mem (.slice A3 m.length cap3) m) ⟨hrows.base,hrows.commits,HJ6.out.2,hrows.slots,hrows.access,hrows.ptrs,hrows.uops,hrows.names,fun hne=>absurd rfl hne,hrows.script⟩
 have HJ7:=qA (qL s7 (HJ6.out.1.trans (h6.out.turned (grownBy_setCell w7 ⟨g,39,none⟩ (.slice A3 m.length cap3)))))
 clear s7 hrows h6 HJ6
 go_wp2_with(fail)
 refine hK1 undef _ (fun _=>True) trivial ?_
 simp only [Act.put,sA,sS,sZ]
 clear hK1 K1 k39 f39 z7
 refine Aj ?_
 rintro w8 hw8
 rw [←hw8] at HJ7
 clear hw8
 have CN:=qA (fun W=>Ajt b W (by have:=ASK.out.phys.1;omega) (by have:=ASK.out.phys.2;omega))
 rw [if_pos ASK.out.phys] at CN
 have hC8:=HJ7.out.2.blk HZ.out.1 (by decide)
 have c1:w8.cell? ⟨w.heap.size,1,none⟩=some (.int .i64 b):=hC8.cell 1
 have zc:=hC8.lt
 have zg8:=HJ7.out.1.lt
 clear hC8 zg
 generalize hL7:({ Ajj (.slice A2 sc.length cap2) with mem := .slice A3 m.length cap3 }:Lay)=L7 at *
 clear hL7
 go_upto_region 10 with(first
  |(go_at_call 21;(with_reducible refine(CN.out _).mono ?_);rintro e w9 ⟨v9,rfl,hb9,A9,c9,rfl,hm9,hf9⟩;have i9:=D6 (phys:=(Ny b).phys) (A:=A9) (n:=(Ny b).free.length) (cap:=c9) hm9.len;have o9:=Ez (Ny b).phys (Ny b).regs A9 (Ny b).free.length c9;have z9:=B3 (Ny b).phys (Ny b).regs A9 (Ny b).free.length c9 hm9.len;have HN9:=qA (fun(wy:World) (hB:Blk wy g 86 _) (hg:w9.grownBy wy (some g))=>qL (HJ7.out.1.setnames hb9 hm9 hf9 hB hg) (HJ7.out.2.trans ((Ah.below (B:=w.heap.size) hb9).trans ((HJ7.out.1.ext hb9).turned hg))));have HB9:=(HJ7.out.1.ext hb9).blk;have HS9:=HJ7.out.1.cells.size;generalize Ag (Ny b).phys (Ny b).regs A9 (Ny b).free.length c9=T9 at *;clear hm9 hf9 hb9)
  |(refine B7 rfl 79 _ _ rfl g 108 T9 rfl rfl 86 _ HB9 i9 (by rw [z9,HS9];decide) o9 ?_;intro w10 hB10 hg10))
 go_simp
 have hj10:=HN9.out w10 hB10 hg10
 obtain⟨C8,hC8⟩:∃ C8,C8=({ O1 a b c sc h.pc with hart:=h,mem:=m,names:=Ny b }:Core):=⟨_,rfl⟩
 obtain⟨LA,ca,h10⟩:∃ LA ca,Af w.heap.size w10 g { C8 with words:=Jf h.regs 0,there:=J9 0 } LA [] ca:=by
  rw [hC8]
  exact⟨_,_,hj10.1⟩
 have HJA:=qA (qL h10 hj10.2)
 have HCE:Hid ({ C8 with words:=Jf h.regs 32,there:=J9 32 }=Kp a b c h m sc):=qA (by
  rw [hC8,Ad2 hh,Ady]
  rfl)
 clear HN9 hB10 hg10 hj10 h10 hC8 HB9 HS9 i9 o9 z9 HJ7 CN c1 zc zg8
 go_upto_region 11 with(fail)
 go_loopw [13,68] (fun v13 v68 wr=>∃ (k:Nat) (LX:Lay) (cx:Array Value),v68 = .int .i64 k∧k≤32∧Hid (Af w.heap.size wr g { C8 with words:=Jf h.regs k,there:=J9 k } LX [] cx∧Ah w.heap.size wz wr)) (fun _ v _=>33 - (intOf v).toNat)
 case atStart=>exact⟨0,_,_,rfl,by omega,HJA⟩
 case round=>
  clear HJA
  obtain⟨k,LX,cx,rfl,hk,HR⟩:=hrel
  by_cases hlt:k<32
  ·have e1:decide (k<32)=true:=qF hlt
   go_upto_region 13 with(fail)
   go_simp
   have hHr:=HR.out.2.blk HZ.out.2.1 (by decide)
   have cR:wr.cell? ⟨w.heap.size+1,k,none⟩=some (.int .u32 (h.regs.getD k 0)):=(hHr.cell k).trans (Aq.cells_reg (by rw [hh];exact hlt))
   have zR1:=hHr.lt
   obtain⟨rv,hrv⟩:∃ rv,h.regs.getD k 0=rv:=⟨_,rfl⟩
   rw [hrv] at cR
   have RV:=qA hrv
   clear hHr hrv
   refine Ad 30591 128 30719 [0,1,2,3,4,5,6,7,8,9,10,12,13,11,14,15] (by kernel_rfl) (by kernel_rfl) (by kernel_rfl) rfl ?_
   refine rR (fun wq hwq=>hwq.at_ zR1 cR) ?_
   refine oS (fun w11 hw11 K1 hK1=>?_)
   have hb11:Below wr.heap.size wr w11:=by rw [hw11];exact(qB _ _).drew
   clear hw11
   have h11:=HR.out.1.ext hb11
   have k142:w11.cell? ⟨g,142+k,none⟩=some (.int .u32 ((Jf h.regs k).getD k 0)):=h11.cell (h11.cells.words k (by omega))
   have f142:=h11.blk.frozen (142+k)
   have z11:=h11.lt
   have s11:=h11.set (142+k) (.int .u32 rv) (h11.cells.set_word k (by omega) (Ad3 hh hk) rv) h11.rows
   have HJ11:=qA (qL s11 ((HR.out.2.trans (Ah.below (B:=w.heap.size) hb11)).trans (h11.turned (grownBy_setCell w11 ⟨g,142+k,none⟩ (.int .u32 rv)))))
   clear h11 s11 hb11 HR cR zR1
   go_wp2_with(fail)
   refine hK1 undef _ (fun _=>True) trivial ?_
   simp only [Act.put,sA,sS,sZ]
   clear hK1 K1 k142 f142 z11
   refine rO ?_
   refine oS (fun w12 hw12 K1 hK1=>?_)
   rw [←hw12] at HJ11
   clear hw12
   have h12:=HJ11.out.1
   have k238:w12.cell? ⟨g,238+k,none⟩=some (.bool ((J9 k).getD k false)):=h12.cell (h12.cells.there k (by omega))
   have f238:=h12.blk.frozen (238+k)
   have z12:=h12.lt
   have s12:=h12.set (238+k) (.bool true) (h12.cells.set_there k (by omega) (Adz (by omega)) true) h12.rows
   have HJ12:=qA (qL s12 (HJ11.out.2.trans (h12.turned (grownBy_setCell w12 ⟨g,238+k,none⟩ (.bool true)))))
   clear h12 s12 HJ11
   go_wp2_with(fail)
   refine hK1 undef _ (fun _=>True) trivial ?_
   simp only [Act.put,sA,sS,sZ]
   clear hK1 K1 k238 f238 z12
   refine Aj ?_
   rintro w13 hw13
   rw [←hw13] at HJ12
   clear hw13
   obtain⟨LB,cb,h13⟩:∃ LB cb,Af w.heap.size w13 g { C8 with words:=Jf h.regs (k+1),there:=J9 (k+1) } LB [] cb:=by
    rw [←Ad4 hh hlt,←Ad0 (show k<96 by omega),show h.regs.getD k 0=rv from RV.out]
    exact⟨_,_,HJ12.out.1⟩
   have HJ13:=qA (qL h13 HJ12.out.2)
   clear h13 HJ12
   go_wp2_with(fail)
   go_roundw
   case rel=>exact⟨k+1,_,_,by go_num,by omega,HJ13⟩
   case measure=>simp [intOf];omega
  ·have e1:decide (k<32)=false:=qG hlt
   obtain rfl:k=32:=by omega
   have HRE:Hid (Af w.heap.size wr g (Kp a b c h m sc) LX [] cx∧Ah w.heap.size wz wr):=qA ⟨by rw [←HCE.out];exact HR.out.1,HR.out.2⟩
   clear HR HCE
   go_upto_region 15 with(fail)
   have HR0:=HRE
   clear HRE
   have HL0:Hid (Lp4 (Kp a b c h m sc) Y N (100*((N:Int) - (N:Int))) sc):=qA (by
    refine⟨?_,HY.out,⟨⟨Int.le_refl _,by show(0:Int)≤_;omega⟩,⟨Int.le_refl _,by show(0:Int)≤_;omega⟩,⟨Int.le_refl _,by show(0:Int)≤_;omega⟩,by show((0:Nat):Int)≤_;omega,⟨Int.le_refl _,by show(0:Int)≤_;omega⟩⟩,fun x hx=>hx,hh⟩
    by_cases hs:h.state=0
    ·exact Or.inr ⟨_,O0 ASK.out hs sc⟩
    ·exact Or.inl hs)
   clear HY
   go_loopw [101] (fun _ wx=>∃ (r:Nat) (X:Core) (LX:Lay) (px:List Nat) (cx:Array Value),r≤N∧Hid (X.cycles+r=(N:Int))∧Hid (Af w.heap.size wx g X LX px cx∧Ah w.heap.size wz wx)∧Hid (Lp4 X Y r (100*((N:Int) - (r:Int))) sc)) (fun _ wx=>N - (intOf ((wx.cell? ⟨g,40,none⟩).getD undef)).toNat)
   case atStart=>exact⟨N,Kp a b c h m sc,_,_,_,qC _,qA (by show(0:Int)+N=N;omega),HR0,HL0⟩
   case round=>
    clear HR0 HL0
    obtain⟨r,X,LX,px,cx,hr,HCY,HR,HL⟩:=hrel
    have HHX:=qA HL.out.hart
    have k40:=HR.out.1.cell HR.out.1.cells.cycles
    have k37:=HR.out.1.hstate HHX.out
    have zg:=HR.out.1.lt
    obtain⟨cy,hcy⟩:∃ cy,X.cycles=cy:=⟨_,rfl⟩
    obtain⟨st,hst⟩:∃ st,X.hart.state=st:=⟨_,rfl⟩
    rw [hcy] at k40
    rw [hst] at k37
    have hcr:cy+r=(N:Int):=by rw [←hcy];exact HCY.out
    by_cases hgo:0<r∧st=0
    ·obtain⟨r2,rfl⟩:∃ r2,r=r2+1:=⟨r - 1,by omega⟩
     obtain⟨hgd,hnx,hcyc⟩:=HL.out.step (by rw [hst];exact hgo.2)
     have CF:=qA (Afm HR.out.1 hgd HL.out.bd (by omega) (fun x hx=>HSB.out x (HL.out.sub x hx)))
     have HNX:Hid (Lp4 (Cd X) Y r2 (100*((N:Int) - (r2:Int))) sc):=qA (by
      rw [show(100:Int)*((N:Int) - (r2:Int))=100*((N:Int) - ((r2+1:Nat):Int))+100 by omega]
      exact hnx)
     have HNC:Hid ((Cd X).cycles+r2=(N:Int)):=qA (by rw [hcyc,hcy];omega)
     have t1:decide (cy<(N:Int))=true:=qF (by omega)
     have t2:(st==0)=true:=by rw [hgo.2];rfl
     have HCYC:=qA hcyc
     have HK40:=qA k40
     have HCW:=qA hcy
     have hcy0:0≤cy:=by rw [←hcy];exact HL.out.bd.cycles.1
     have hcyN:cy<N:=by omega
     have hr2:r2≤N:=by omega
     clear hgd hnx hcyc hcy hst hgo hcr HCY HL
     go_wp2_with(go_at_call 22;(with_reducible refine CF.out.mono ?_);rintro e w14 ⟨rfl,ht14,L14,ps14,cs14,h14⟩;have HJ14:=qA (qL h14 (HR.out.2.trans ht14));clear h14 ht14)
     go_roundw
     case rel=>exact⟨_,_,_,_,_,_,_,_,_,_,_,_,_,_,_,_,_,_,⟨r2,Cd X,_,_,_,hr2,HNC,HJ14,HNX⟩,rfl⟩
     case measure=>
      rw [HK40.out,show w14.cell? ⟨g,40,none⟩=some (.int .i64 (Cd X).cycles) from HJ14.out.1.cell HJ14.out.1.cells.cycles,HCYC.out,HCW.out]
      simp only [Option.getD_some,intOf]
      omega
    ·have HXE:Hid (Y=X):=qA (HL.out.stop (by
      rcases Nat.eq_zero_or_pos r with h0 | h0
      ·exact Or.inl h0
      ·right
       rw [hst]
       exact fun hs=>hgo ⟨h0,hs⟩))
     clear hcy HL HCY
     rcases Nat.eq_zero_or_pos r with h0 | h0
     ·have t1:decide (cy<(N:Int))=false:=qG (by omega)
      clear hst hgo hcr
      have HLX:=qA (HR.out.1.cells.shownX HHX.out)
      obtain⟨AC,cC,hac⟩:=Al HR.out.1.rows.commits
      obtain⟨AM,cM,ham⟩:=Al HR.out.1.rows.mem
      have HSZ:=qA (It LX.commits HHX.out LX.mem X.cycles X.taken X.backs)
      have HON:=qA (Ju AC X.commits.length cC X.hart AM X.mem.length cM X.cycles X.taken X.backs)
      rw [←hac,←ham] at HON
      have HBS:=qA (HR.out.2.blk HZ.out.2.2.1 (by decide))
      have HGC:=HR.out.1.blk
      have HGS:=HR.out.1.cells.size
      have HXT:Hid (Cq LX.commits X.hart LX.mem X.cycles X.taken X.backs=Cq LX.commits X.hart LX.mem X.cycles X.taken X.backs):=qA rfl
      clear hac ham
      obtain⟨T,hT⟩:∃ T,T=Cq LX.commits X.hart LX.mem X.cycles X.taken X.backs:=⟨_,rfl⟩
      rw [←hT] at HLX HSZ HON
      have HT:=qA hT
      clear hT HXT
      go_wp2_with(first
       |(refine Ai rfl 49 _ rfl g 3 rfl 86 cx 40 _ HGC Tryz.underlying49 rfl Sr (by rw [HGS];decide) ?_;rw [HLX.out])
       |(refine Ae rfl 49 _ _ rfl (w.heap.size+1+1) T rfl rfl 49 _ HBS.out (Gk HSZ.out) (by rw [HSZ.out];rfl) HON.out ?_;intro w16 hB16 hg16))
      refine bodyPost_ret (Ea rfl rfl rfl (Px HSZ.out hB16)) rfl ?_
      rw [HXE.out]
      refine⟨below_grown (HR.out.2.toBelow HZ.out.2.2.2 HZ.out.2.2.2.size) hg16 (qD HZ.out.2.2.2.size HR.out.2.size) (by omega),LX.commits,LX.mem,?_,HR.out.1.rows.commits.kept hg16 (Br HR.out.1.rows.commits HBS.out (by decide)),HR.out.1.rows.mem.kept hg16 (Br HR.out.1.rows.mem HBS.out (by decide))⟩
      rw [HT.out]
      rfl
     ·have t1:decide (cy<(N:Int))=true:=qF (by omega)
      have t2:(st==0)=false:=by
       have:st≠0:=fun hs=>hgo ⟨h0,hs⟩
       simpa using this
      clear hst hgo hcr
      have HLX:=qA (HR.out.1.cells.shownX HHX.out)
      obtain⟨AC,cC,hac⟩:=Al HR.out.1.rows.commits
      obtain⟨AM,cM,ham⟩:=Al HR.out.1.rows.mem
      have HSZ:=qA (It LX.commits HHX.out LX.mem X.cycles X.taken X.backs)
      have HON:=qA (Ju AC X.commits.length cC X.hart AM X.mem.length cM X.cycles X.taken X.backs)
      rw [←hac,←ham] at HON
      have HBS:=qA (HR.out.2.blk HZ.out.2.2.1 (by decide))
      have HGC:=HR.out.1.blk
      have HGS:=HR.out.1.cells.size
      have HXT:Hid (Cq LX.commits X.hart LX.mem X.cycles X.taken X.backs=Cq LX.commits X.hart LX.mem X.cycles X.taken X.backs):=qA rfl
      clear hac ham
      obtain⟨T,hT⟩:∃ T,T=Cq LX.commits X.hart LX.mem X.cycles X.taken X.backs:=⟨_,rfl⟩
      rw [←hT] at HLX HSZ HON
      have HT:=qA hT
      clear hT HXT
      go_wp2_with(first
       |(refine Ai rfl 49 _ rfl g 3 rfl 86 cx 40 _ HGC Tryz.underlying49 rfl Sr (by rw [HGS];decide) ?_;rw [HLX.out])
       |(refine Ae rfl 49 _ _ rfl (w.heap.size+1+1) T rfl rfl 49 _ HBS.out (Gk HSZ.out) (by rw [HSZ.out];rfl) HON.out ?_;intro w16 hB16 hg16))
      refine bodyPost_ret (Ea rfl rfl rfl (Px HSZ.out hB16)) rfl ?_
      rw [HXE.out]
      refine⟨below_grown (HR.out.2.toBelow HZ.out.2.2.2 HZ.out.2.2.2.size) hg16 (qD HZ.out.2.2.2.size HR.out.2.size) (by omega),LX.commits,LX.mem,?_,HR.out.1.rows.commits.kept hg16 (Br HR.out.1.rows.commits HBS.out (by decide)),HR.out.1.rows.mem.kept hg16 (Br HR.out.1.rows.mem HBS.out (by decide))⟩
      rw [HT.out]
      rfl
end Go.Proofs.YtapgojgcmlnbgaaGreatDoor
namespace Go.Proofs.YtapgojgcmlnbgaaGreatDoor
open Go
section
variable {P:Program} {l:List Oper} {Q:Exit→Act→World→Prop} {S:World→Prop} {fuel:Nat} {listed:Array Bool} {a:Act} {w:World} {oi oj:Oper} {v:Value}
theorem tT (i:Nat) (ho:Gx l i=some oi) (h:wpAnyH P .any l.toArray Q S fuel (listed.setIfInBounds i true) (a.put oi.dst v) w) (hg:oi.guard=none:=by rfl) (hs:Region.noSelect l.toArray=true:=by kernel_rfl) (hf:Region.free .any l.toArray listed i=true:=by kernel_rfl) (hr:(Region.ready .any l.toArray listed).contains i=true:=by kernel_rfl)
  (hQ:∀ c a w,Q (.panic c) (a.put oi.dst v) w→Q (.panic c) a w:=by exact fun _ _ _ h=>h) (hy:∀ w,S w→(execOp a.eval oi).run P w = .ok (.value v) w:=by intro wq hwq;go_simp;(try with_reducible rfl)) (hS:S w:=by assumption):wpAnyH P .any l.toArray Q S (fuel+1) listed a w:=
 wpAnyH_take (by rw [Iq] at ho;simpa using ho) hs hf hr hQ (Or.inl ⟨by simp [Region.wanted,hg],hy⟩) hS h
theorem Ahw (i:Nat) (ho:Gx l i=some oi) (hg:oi.guard=none)
  (h:∀ K':Act→World→Prop,Shut (∀ a w,S w→(S w→wpAnyH P .any l.toArray Q S fuel (listed.setIfInBounds i true) a w)→K' a w)→oi.wp P a w K' Q) {rs:List Nat} (hs:AllReadyH P .any l.toArray Q S fuel listed a w rs):AllReadyH P .any l.toArray Q S fuel listed a w (i::rs):=
 AllReadyH.cons (by rw [Iq] at ho;simpa using ho) (fun K hK=>by rw [if_pos (by simp [Region.wanted,hg])];exact h K hK) hs
theorem k1 (i:Nat) (hr:Region.ready .any l.toArray listed=[i]) (ho:Gx l i=some oi) (hg:oi.guard=none)
  (h:∀ K':Act→World→Prop,Shut (∀ a w,S w→(S w→wpAnyH P .any l.toArray Q S fuel (listed.setIfInBounds i true) a w)→K' a w)→oi.wp P a w K' Q):wpAnyH P .any l.toArray Q S (fuel+1) listed a w:=
 wpAnyH_ready hr (by simp) (Ahw i ho hg h AllReadyH.nil)
theorem k2 (i j:Nat) (hr:Region.ready .any l.toArray listed=[i,j]) (ho:Gx l i=some oi) (hg:oi.guard=none) (ho2:Gx l j=some oj) (hg2:oj.guard=none)
  (h:∀ K':Act→World→Prop,Shut (∀ a w,S w→(S w→wpAnyH P .any l.toArray Q S fuel (listed.setIfInBounds i true) a w)→K' a w)→oi.wp P a w K' Q)
  (h2:∀ K':Act→World→Prop,Shut (∀ a w,S w→(S w→wpAnyH P .any l.toArray Q S fuel (listed.setIfInBounds j true) a w)→K' a w)→oj.wp P a w K' Q):wpAnyH P .any l.toArray Q S (fuel+1) listed a w:=
 wpAnyH_ready hr (by simp) (Ahw i ho hg h (Ahw j ho2 hg2 h2 AllReadyH.nil))
theorem kB {id:Nat} (hm:P.follows .mixedOrders=true) (hS:S w.drew) (h:S w.drew→wpAnyH P .any l.toArray (NoPanic Q) S l.length (Array.replicate l.length false) a w.drew):(Code.region id l.toArray true).wp P Q a w:=
 wp_region_noPanic (wp_region_held_drew hm hS (by simpa using h))
theorem kE (hr:Region.ready .any l.toArray listed=[]) (h:Q .normal a w):wpAnyH P .any l.toArray (NoPanic Q) S fuel listed a w:=wpAnyH_done hr (NoPanic.normal h) _
theorem Jt {o:Oper} {u:Value} (ty:TypeId) (x:Operand) (ho:o.op = .load ty x) {ad:Addr} (hx:a.eval x = .pointer (some ad)) (h:(loadVar ty ad).run P w = .ok u w):(execOp a.eval o).run P w = .ok (.value u) w:=by
 unfold execOp
 simp only [ho,hx,Instr.loadAt,Instr.sureAddr,Sem.run_bind,Sem.run_pure,Result.andThen_ok,h]
end
end Go.Proofs.YtapgojgcmlnbgaaGreatDoor
namespace Go.Proofs.YtapgojgcmlnbgaaGreatDoor
open Go Go.RowKit
theorem Abe {w:World} {base base':Nat} {e:TypeId} {size:Nat} {v:Value} {n:Nat} {xs:List Value} (h:w.ownsRow base e size v n xs) (hb:base'≤base):w.ownsRow base' e size v n xs:=
 ⟨h.1,h.2.imp id fun⟨g,cap,cur,e,l,r⟩=>⟨g,cap,cur,e,qD hb l,r⟩⟩
theorem Ux:(Tryz.prog.info? 30).map (·.size)=some 35:=by kernel_rfl
theorem Q5 {t:TypeId} {w:World} {g:Nat} {p:Plr} {vM vC:Value} (hl:p.hart.regs.length=32) (h:Blk w g t (Bs p vM vC)):(loadVar 30 ⟨g,0,none⟩).run Tryz.prog w = .ok (.agg p.hart.cells) w:=by
 have:=Ey (P:=Tryz.prog) w g 0 t 30 _ 35 _ h Tryz.underlying30 rfl Ux (by rw [Q8 hl];decide)
 rwa [Amg hl] at this
theorem Amk:(Tryz.prog.info? 26).map (·.size)=some 3:=by kernel_rfl
theorem X8 {t:TypeId} {w:World} {g:Nat} {p:Plr} {vM vC:Value} (hl:p.hart.regs.length=32) (h:Blk w g t (Bs p vM vC)):(loadVar 26 ⟨g,36,none⟩).run Tryz.prog w = .ok (.agg #[.int .i64 p.window, .int .i64 p.phys, .int .i64 p.wide]) w:=by
 have:=Ey (P:=Tryz.prog) w g 36 t 26 _ 3 _ h Tryz.underlying26 rfl Amk (by rw [Q8 hl];decide)
 rwa [Aj1 hl] at this
theorem Ah1 {M R:Plr→Int→List Com×Aq×Int} (H:Aha M R) {B:Nat} (g:Nat) (p:Plr) (vM vC:Value) (s:List UInt8) (w:World) (V:Ig B w) (hB:B≤g) (hp:Fi p) (hP:Ej 59 w g p vM vC) (hl:s.length≤2000000) :
  Calls Tryz.prog 16 #[.pointer (some ⟨g,0,none⟩),sV s] w (El 59 w g (Gf M R Et Fh p s)):=by
 obtain⟨k0,ws,hws⟩:=N4 32 s
 rcases hn:D2 ws with _ | L
 ·rw [Pr _ _ _ _ hws hn]
  exact Ajk g p vM vC s k0 ws w V hB hP hl hws hn
 ·rw [Ps _ _ _ _ hws hn]
  obtain⟨X,hX⟩:∃ X,Dm M R Et Fh p k0 L=X:=⟨_,rfl⟩
  rw [hX]
  have HXS:=qA hX.symm
  clear hX
  obtain⟨Post,hPost⟩:∃ P,P=El 59 w g X:=⟨_,rfl⟩
  rw [←hPost]
  have HPO:=qA hPost
  have zg:=hP.box.lt
  have CS:=Sf 32 s w V (by omega)
  have hlw:=Hv 32 s
  rw [hws] at CS hlw
  have hs:∀ x∈ws,x.length≤4294967296:=fun x hx=>by have:=Ds 32 s x (by rw [hws];exact qP _ hx);omega
  simp only [List.length_cons] at hlw
  have hnl:=Mo hn
  have hnw:=Mp hn
  have hll:L.length≤2000001:=by omega
  have CN:=qA (fun A n cap hA hAA=>Xz (k0:=k0) (ws:=ws) (t:=9) V (by omega) (by omega) hs (fun A cap hst=>Ajw A ws cap L _ (V.ext ((qB B w).alloc (by omega) _)) (by simp;omega) (by omega) hs hst hn) A n cap hA hAA)
  have CSH:=qA CS
  have HPP:=qA hP
  have HNW:=qA hnw
  have hb1:Below w.heap.size w (w.alloc (.cells ((k0::ws).map sV).toArray 9)):=(qB _ _).alloc (qC _) _
  have hbk:=Blk.new w 9 ((k0::ws).map sV).toArray
  have HB1:=qA (qL hb1 hbk)
  clear CS hPost hP hs hn hws hb1 hbk hnl hlw hnw
  go_enter Tryz.func16,Tryz.ntmps16
  rcases ws with _ | ⟨y,ws⟩
  all_goals
   go_upto_region 6 with(first
    |(go_at_call 15;(with_reducible refine CSH.out.mono ?_);rintro e w2 ⟨rfl,rfl⟩)
    |(go_at_call 27;(refine(CN.out _ _ _ rfl (by first | exact Or.inl rfl | exact Or.inr rfl | exact Or.inr trivial)).mono ?_);rintro e wr ⟨A',cap',rfl,hown,hb3⟩))
   try go_simp
   have hb9:=HB1.out.1.trans (hb3.mono HB1.out.1.size)
   have c0:wr.cell? ⟨w.heap.size,0,none⟩=some (sV k0):=(HB1.out.2.ext hb3).cell 0
   have HROW:=qA (Abe hown (base':=g+1) (by simp;omega))
   have HPr:=qA (HPP.out.ext hb9)
   have HB9:=qA (hb9.mono (qS zg))
   have z9:=hb9.size
   clear hown hb3 hb9 CN CSH HPP HB1
  all_goals
   rcases U1 k0 L with rfl | ⟨rfl,x,rfl⟩ | ⟨rfl,a,b,rfl⟩ | ⟨rfl,a,b,c,rfl⟩ | rfl | ⟨rfl,x,rfl⟩ | ⟨rfl,x,rfl⟩ | ⟨rfl,x,rfl⟩ | hk
   ·as_aux_lemma=>
    have hX:=HXS.out.trans (V2 p L)
    have CW:Hid (∀ (v:Value) (_:wr.ownsRow (g+1) 27 1 v L.length (L.map (.int .u32))),Calls Tryz.prog 28 #[.pointer (some ⟨g,0,none⟩),v] wr (El 59 wr g X)):=qA (fun v ho=>(Ag3 g p vM vC v L wr (V.ext (HB9.out.mono hB)) hB hp HPr.out (by omega) HNW.out ho).mono (by
     rintro e w4 ⟨hb4,⟨q1,rfl,q3⟩ | ⟨q1,rfl,v9,q3⟩⟩
     ·rw [hX,if_pos q1];exact⟨hb4,rfl,_,_,q3⟩
     ·rw [hX,if_neg q1];exact⟨hb4,rfl,_,_,q3⟩))
    unfold El at CW
    clear hX HXS
    go_wp2_with(go_at_call 28;(refine(CW.out _ HROW.out).mono ?_);rintro e w4 ⟨hb4,rfl,q3⟩)
    rw [HPO.out]
    exact⟨HB9.out.trans hb4,rfl,q3⟩
   ·as_aux_lemma=>
    have hh:=hp.hart.len
    obtain⟨kb,o,rfl,hkB,hcell⟩:=(Ar.own HROW.out) (by simp)
    have cx:wr.cell? ⟨kb,o,none⟩=some (.int .u32 x):=hcell 0 x rfl
    have c32:wr.cell? ⟨g,32,none⟩=some (.int .u32 p.hart.pc):=((HPr.out.box.cell 32).trans (Q4 hh _ _ (by omega))).trans (Aq.cells_pc hh).1
    have f32:=HPr.out.box.frozen 32
    clear hcell
    go_wp2_with(fail)
    rw [HPO.out,HXS.out,Ais]
    have hx8:=HPr.out.box.set 32 (.int .u32 x)
    rw [Q7 hh _ _ (by omega) _ (Aio hh x)] at hx8
    exact⟨HB9.out.setCell (p:=⟨g,32,none⟩) (qC g) _,rfl,_,_,hx8,ownsRow_setCell_below HPr.out.mem (a:=⟨g,32,none⟩) (Nat.lt_succ_self g) _,ownsRow_setCell_below HPr.out.cho (a:=⟨g,32,none⟩) (Nat.lt_succ_self g) _⟩
   ·as_aux_lemma=>
    have hh:=hp.hart.len
    have hrow:=HROW.out
    obtain⟨kb,o,rfl,hkB,hcell⟩:=(Ar.own hrow) (by simp)
    have cx:wr.cell? ⟨kb,o,none⟩=some (.int .u32 a):=hcell 0 a rfl
    have cy:wr.cell? ⟨kb,o+1,none⟩=some (.int .u32 b):=hcell 1 b rfl
    by_cases hab:1≤a∧a≤31
    ·obtain⟨ha,ha2⟩:=hab
     obtain⟨r,rfl⟩:=qH (show 0≤a by omega)
     have hgk:g<kb:=by
      rcases hrow.2 with⟨h,_⟩ | ⟨g2,c2,cur2,h,h3,_⟩
      ·cases h
      ·injection h with h;injection h with h;injection h with h;omega
     have HE:=qA (fun o=>(by intro e;injection e with e;omega:(⟨g,r,none⟩:Addr)≠⟨kb,o,none⟩))
     have cr:wr.cell? ⟨g,r,none⟩=some (.int .u32 (p.hart.regs.getD r 0)):=((HPr.out.box.cell r).trans (Q4 hh _ _ (by omega))).trans (Aq.cells_reg (by omega))
     have fr:=HPr.out.box.frozen r
     have t1:decide (1≤(r:Int))=true:=qF ha
     have t2:decide ((r:Int)≤31)=true:=qF ha2
     have hr32:(r:Int)<32:=by omega
     have hrn:((r:Int)).toNat=r:=by simp
     have HXX:=qA (HXS.out.trans (Adu p r b ⟨ha,ha2⟩))
     clear hcell hrow z9 HXS
     go_upto_region 12 with(fail)
     try go_simp
     go_region_held3 (fun w'=>w'.cell? ⟨kb,o,none⟩=some (.int .u32 r)∧w'.cell? ⟨kb,o+1,none⟩=some (.int .u32 b))
      (first
       |exact⟨cx,cy⟩
       |exact⟨(World.cell?_setCell_other _ _ _ _ (HE.out o)).trans cx,(World.cell?_setCell_other _ _ _ _ (HE.out (o+1))).trans cy⟩)
      ((first | fail))
     clear cx cy cr fr
     go_wp2_with(fail)
     rw [HPO.out,HXX.out]
     have hx8:=HPr.out.box.set r (.int .u32 b)
     rw [Q7 hh _ _ (by omega) _ (Akf (by omega) b)] at hx8
     have hfin:Ej 59 (wr.setCell ⟨g,r,none⟩ (.int .u32 b)).drew g { p with hart:={ p.hart with regs:=p.hart.regs.set ((r:Int)).toNat b } } vM vC:=by
      rw [hrn]
      exact⟨hx8,ownsRow_setCell_below HPr.out.mem (a:=⟨g,r,none⟩) (Nat.lt_succ_self g) _,ownsRow_setCell_below HPr.out.cho (a:=⟨g,r,none⟩) (Nat.lt_succ_self g) _⟩
     exact⟨(HB9.out.setCell (p:=⟨g,r,none⟩) (qC g) _).drew,rfl,_,_,hfin⟩
    ·have HX9:=qA (HXS.out.trans (V1 p a b hab))
     have HAB:=qA hab
     clear hcell hrow hab HXS cy
     by_cases h1:1≤a
     ·have t1:decide (1≤a)=true:=qF h1
      have t2:decide (a≤31)=false:=qG (fun h=>HAB.out ⟨h1,h⟩)
      clear h1
      clear z9 zg hll
      go_wp2_with(fail)
      rw [HPO.out,HX9.out]
      exact⟨HB9.out,rfl,_,_,HPr.out⟩
     ·have t1:decide (1≤a)=false:=qG h1
      clear h1
      clear z9 zg hll
      go_wp2_with(fail)
      rw [HPO.out,HX9.out]
      exact⟨HB9.out,rfl,_,_,HPr.out⟩
   ·as_aux_lemma=>
    have hX:=HXS.out.trans (Zj p a b c)
    have CW:Hid (∀ (v:Value) (_:wr.ownsRow (g+1) 27 1 v 3 ([a,b,c].map (.int .u32))),Calls Tryz.prog 29 #[.pointer (some ⟨g,0,none⟩),v] wr (El 59 wr g X)):=qA (fun v ho=>(Agp g p vM vC v a b c wr hp HPr.out (HNW.out a (by simp)) (HNW.out b (by simp)) (HNW.out c (by simp)) ho).mono (by
     rintro e w4 ⟨hb4,⟨q1,rfl,q3⟩ | ⟨q1,rfl,q3⟩⟩
     ·rw [hX,q1];exact⟨hb4,rfl,_,_,q3⟩
     ·rw [hX,q1];exact⟨hb4,rfl,_,_,q3⟩))
    unfold El at CW
    clear hX HXS
    go_wp2_with(go_at_call 29;(refine(CW.out _ HROW.out).mono ?_);rintro e w4 ⟨hb4,rfl,q3⟩)
    rw [HPO.out]
    exact⟨HB9.out.trans hb4,rfl,q3⟩
   ·as_aux_lemma=>
    have HXX:=qA (HXS.out.trans (Si p L))
    have CW:=qA (fun(v:Value) (ho:wr.ownsRow (g+1) 27 1 v L.length (L.map (.int .u32)))=>Ack g p vM vC v L wr (V.ext (HB9.out.mono hB)) hB hp HPr.out (by omega) HNW.out ho)
    clear HXS
    go_wp2_with(go_at_call 30;(refine(CW.out _ HROW.out).mono ?_);rintro e w4 ⟨hb4,rfl,v9,q3⟩)
    rw [HPO.out,HXX.out]
    exact⟨HB9.out.trans hb4,rfl,_,_,q3⟩
   ·as_aux_lemma=>
    have hh:=hp.hart.len
    obtain⟨AM,cM,rfl⟩:=Al HPr.out.mem
    obtain⟨kb,o,rfl,hkB,hcell⟩:=(Ar.own HROW.out) (by simp)
    have cx:wr.cell? ⟨kb,o,none⟩=some (.int .u32 x):=hcell 0 x rfl
    have hx:=HNW.out x (by simp)
    have HT:=qA (H.tellM hp x)
    have HM:=qA (H.callM hp x)
    have hX9:=HXS.out.trans (V0 p x)
    generalize M p x=Y at HT HM hX9
    have HX9:=qA hX9
    have HC35:=qA ((HPr.out.box.cell 35).trans (D7 hh _ _ 0):wr.cell? ⟨g,35,none⟩=some (.slice AM p.mem.length cM))
    have zg3:=HPr.out.box.lt
    have CM:=qA (fun W (hW:Below wr.heap.size wr W)=>HM.out hx.1 hx.2 AM cM W (Du HPr.out.mem hW))
    have exw:IntKind.i64.wrap x=x:=IntWalk.i64_in x (by omega)
    clear hcell HXS hX9
    go_upto_region 19 with(fail)
    try go_simp
    refine kB (S:=fun w'=>Below wr.heap.size wr w') (by kernel_rfl) (qB _ _).drew (fun hHeld=>?_)
    refine tT 0 rfl ?_
    simp only [Act.put,sA,sS,sZ]
    refine tT 1 rfl ?_
    simp only [Act.put,sA,sS,sZ]
    refine tT 2 rfl ?_
    simp only [Act.put,sA,sS,sZ]
    refine tT 3 rfl ?_ (hy:=fun wq hwq=>Jt 30 _ rfl rfl (Q5 hh (HPr.out.box.ext hwq)))
    simp only [Act.put,sA,sS,sZ]
    refine tT 4 rfl ?_
    simp only [Act.put,sA,sS,sZ]
    refine tT 5 rfl ?_
    simp only [Act.put,sA,sS,sZ]
    refine tT 6 rfl ?_
    simp only [Act.put,sA,sS,sZ]
    refine tT 7 rfl ?_ (hy:=fun wq hwq=>by have c9:=hwq.at_ zg3 HC35.out;go_simp;(try with_reducible rfl))
    simp only [Act.put,sA,sS,sZ]
    refine tT 8 rfl ?_
    simp only [Act.put,sA,sS,sZ]
    refine tT 9 rfl ?_
    simp only [Act.put,sA,sS,sZ]
    refine tT 10 rfl ?_ (hy:=fun wq hwq=>by have c9:=hwq.at_ hkB cx;go_simp;(try with_reducible rfl))
    simp only [Act.put,sA,sS,sZ]
    refine tT 11 rfl ?_
    simp only [Act.put,sA,sS,sZ]
    generalize wr.drew=wd at hHeld ⊢
    refine k2 12 18 (by kernel_rfl) rfl rfl rfl rfl (fun K hK=>?_) (fun K hK=>?_)
    ·go_wp2_with(go_at_call 11;(refine(CM.out _ hHeld).mono ?_);rintro e w5 ⟨hb5,AL,cL,A2,n2,c2,rfl,hown⟩)
     refine hK.out _ _ (hHeld.trans (hb5.mono hHeld.size)) (fun hHeld=>?_)
     clear hK K
     refine tT 13 rfl ?_
     simp only [Act.put,sA,sS,sZ]
     refine tT 14 rfl ?_
     simp only [Act.put,sA,sS,sZ]
     refine tT 15 rfl ?_
     simp only [Act.put,sA,sS,sZ]
     refine tT 16 rfl ?_
     simp only [Act.put,sA,sS,sZ]
     refine tT 17 rfl ?_
     simp only [Act.put,sA,sS,sZ]
     refine k1 18 (by kernel_rfl) rfl rfl (fun K hK=>?_)
     go_wp2_with(fail)
     refine R6 fun w6 hq=>?_
     have hBH:Blk w6 w5.heap.size 30 Eq.cells:=by rw [hq];exact Blk.new w5 _ _
     have hb6:Below w5.heap.size w5 w6:=by rw [hq];exact(qB _ _).alloc (qC _) _
     have hne:(Value.slice AL Y.1.length cL).ownBlock=none∨(Value.slice AL Y.1.length cL).ownBlock≠some w5.heap.size:=Or.inr (fun q=>by have:=(hown.lt _ q).2;omega)
     have hgH:=hHeld.size
     refine hK.out _ _ (hHeld.trans (hb6.mono hHeld.size)) (fun hHeld=>?_)
     replace hown:=Du hown hb6
     clear hq hK K hb5 hb6
     generalize w5.heap.size=gH at *
     refine tT 19 rfl ?_
     simp only [Act.put,sA,sS,sZ]
     refine k1 20 (by kernel_rfl) rfl rfl (fun K hK=>?_)
     refine De 30 _ _ rfl gH Y.2.1.cells rfl rfl 30 _ hBH (Ca HT.out.hart.len) (by rw [Aq.cells_size HT.out.hart.len];rfl) (Fp _) ?_
     intro w8 hX hg8
     have hcm:=Dq.own (hown.kept hg8 hne)
     refine hK.out _ _ (hHeld.grown hg8 hHeld.size (fun k hk=>by cases hk;exact hgH)) (fun hHeld=>?_)
     clear hK K hBH hown hne hg8
     simp only [Act.put,sA,sS,sZ]
     refine tT 21 rfl ?_
     simp only [Act.put,sA,sS,sZ]
     refine tT 22 rfl ?_
     simp only [Act.put,sA,sS,sZ]
     refine kE (by kernel_rfl) ?_
     have hb8:=HB9.out.trans (hHeld.mono (qS zg3))
     have CT:=Ty AL Y cL w8 (V.ext (hb8.mono hB)) (by have:=hb8.size;omega) HT.out hcm
     have CTH:=qA CT
     clear CT c0 cx
     go_wp2_with(first
      |(refine Ab rfl 30 _ rfl gH rfl 30 _ _ hX Tryz.underlying30 rfl (Ca HT.out.hart.len) ?_)
      |(go_at_call 31;(with_reducible refine CTH.out.mono ?_);rintro e w9 ⟨rfl,hb9⟩))
     rw [HPO.out,HX9.out]
     exact⟨hb8.trans (hb9.mono (qD (qS zg3) hHeld.size)),rfl,_,_,HPr.out.ext (hHeld.trans (hb9.mono hHeld.size))⟩
    ·go_wp2_with(fail)
     refine R6 fun w5 hq=>?_
     have hBH:Blk w5 wd.heap.size 30 Eq.cells:=by rw [hq];exact Blk.new wd _ _
     have hb5:Below wd.heap.size wd w5:=by rw [hq];exact(qB _ _).alloc (qC _) _
     have zH:=hBH.lt
     have hgH:=hHeld.size
     refine hK.out _ _ (hHeld.trans (hb5.mono hHeld.size)) (fun hHeld=>?_)
     clear hq hK K hb5
     generalize wd.heap.size=gH at *
     refine k1 12 (by kernel_rfl) rfl rfl (fun K hK=>?_)
     go_wp2_with(go_at_call 11;(refine(CM.out _ hHeld).mono ?_);rintro e w6 ⟨hb6,AL,cL,A2,n2,c2,rfl,hown⟩)
     have hne:(Value.slice AL Y.1.length cL).ownBlock=none∨(Value.slice AL Y.1.length cL).ownBlock≠some gH:=Or.inr (fun q=>by have:=(hown.lt _ q).1;omega)
     refine hK.out _ _ (hHeld.trans (hb6.mono hHeld.size)) (fun hHeld=>?_)
     replace hBH:=hBH.ext hb6
     clear hK K hb6
     refine tT 13 rfl ?_
     simp only [Act.put,sA,sS,sZ]
     refine tT 14 rfl ?_
     simp only [Act.put,sA,sS,sZ]
     refine tT 15 rfl ?_
     simp only [Act.put,sA,sS,sZ]
     refine tT 16 rfl ?_
     simp only [Act.put,sA,sS,sZ]
     refine tT 17 rfl ?_
     simp only [Act.put,sA,sS,sZ]
     refine tT 19 rfl ?_
     simp only [Act.put,sA,sS,sZ]
     refine k1 20 (by kernel_rfl) rfl rfl (fun K hK=>?_)
     refine De 30 _ _ rfl gH Y.2.1.cells rfl rfl 30 _ hBH (Ca HT.out.hart.len) (by rw [Aq.cells_size HT.out.hart.len];rfl) (Fp _) ?_
     intro w8 hX hg8
     have hcm:=Dq.own (hown.kept hg8 hne)
     refine hK.out _ _ (hHeld.grown hg8 hHeld.size (fun k hk=>by cases hk;exact hgH)) (fun hHeld=>?_)
     clear hK K hBH hown hne hg8
     simp only [Act.put,sA,sS,sZ]
     refine tT 21 rfl ?_
     simp only [Act.put,sA,sS,sZ]
     refine tT 22 rfl ?_
     simp only [Act.put,sA,sS,sZ]
     refine kE (by kernel_rfl) ?_
     have hb8:=HB9.out.trans (hHeld.mono (qS zg3))
     have CT:=Ty AL Y cL w8 (V.ext (hb8.mono hB)) (by have:=hb8.size;omega) HT.out hcm
     have CTH:=qA CT
     clear CT c0 cx
     go_wp2_with(first
      |(refine Ab rfl 30 _ rfl gH rfl 30 _ _ hX Tryz.underlying30 rfl (Ca HT.out.hart.len) ?_)
      |(go_at_call 31;(with_reducible refine CTH.out.mono ?_);rintro e w9 ⟨rfl,hb9⟩))
     rw [HPO.out,HX9.out]
     exact⟨hb8.trans (hb9.mono (qD (qS zg3) hHeld.size)),rfl,_,_,HPr.out.ext (hHeld.trans (hb9.mono hHeld.size))⟩
   ·as_aux_lemma=>
    have hh:=hp.hart.len
    obtain⟨AM,cM,rfl⟩:=Al HPr.out.mem
    obtain⟨AC,cC,rfl⟩:=Al HPr.out.cho
    obtain⟨kb,o,rfl,hkB,hcell⟩:=(Ar.own HROW.out) (by simp)
    have cx:wr.cell? ⟨kb,o,none⟩=some (.int .u32 x):=hcell 0 x rfl
    have hx:=HNW.out x (by simp)
    have HT:=qA (H.tellR hp x)
    have HM:=qA (H.callR hp x)
    have hX9:=HXS.out.trans (Adt p x)
    generalize R p x=Y at HT HM hX9
    have HX9:=qA hX9
    have HC35:=qA (qL ((HPr.out.box.cell 35).trans (D7 hh _ _ 0):wr.cell? ⟨g,35,none⟩=some (.slice AM p.mem.length cM)) ((HPr.out.box.cell 39).trans (D7 hh _ _ 4):wr.cell? ⟨g,39,none⟩=some (.slice AC p.choices.length cC)))
    have zg3:=HPr.out.box.lt
    have CM:=qA (fun W (hW:Below wr.heap.size wr W)=>HM.out hx.1 hx.2 AM cM AC cC W (Du HPr.out.mem hW) (Du HPr.out.cho hW))
    have exw:IntKind.i64.wrap x=x:=IntWalk.i64_in x (by omega)
    clear hcell HXS hX9
    go_upto_region 22 with(fail)
    try go_simp
    refine kB (S:=fun w'=>Below wr.heap.size wr w') (by kernel_rfl) (qB _ _).drew (fun hHeld=>?_)
    refine tT 0 rfl ?_
    simp only [Act.put,sA,sS,sZ]
    refine tT 1 rfl ?_
    simp only [Act.put,sA,sS,sZ]
    refine tT 2 rfl ?_
    simp only [Act.put,sA,sS,sZ]
    refine tT 3 rfl ?_ (hy:=fun wq hwq=>Jt 26 _ rfl rfl (X8 hh (HPr.out.box.ext hwq)))
    simp only [Act.put,sA,sS,sZ]
    refine tT 4 rfl ?_
    simp only [Act.put,sA,sS,sZ]
    refine tT 5 rfl ?_
    simp only [Act.put,sA,sS,sZ]
    refine tT 6 rfl ?_
    simp only [Act.put,sA,sS,sZ]
    refine tT 7 rfl ?_ (hy:=fun wq hwq=>Jt 30 _ rfl rfl (Q5 hh (HPr.out.box.ext hwq)))
    simp only [Act.put,sA,sS,sZ]
    refine tT 8 rfl ?_
    simp only [Act.put,sA,sS,sZ]
    refine tT 9 rfl ?_
    simp only [Act.put,sA,sS,sZ]
    refine tT 10 rfl ?_
    simp only [Act.put,sA,sS,sZ]
    refine tT 11 rfl ?_ (hy:=fun wq hwq=>by have c9:=hwq.at_ zg3 HC35.out.1;go_simp;(try with_reducible rfl))
    simp only [Act.put,sA,sS,sZ]
    refine tT 12 rfl ?_
    simp only [Act.put,sA,sS,sZ]
    refine tT 13 rfl ?_
    simp only [Act.put,sA,sS,sZ]
    refine tT 14 rfl ?_
    simp only [Act.put,sA,sS,sZ]
    refine tT 15 rfl ?_ (hy:=fun wq hwq=>by have c9:=hwq.at_ zg3 HC35.out.2;go_simp;(try with_reducible rfl))
    simp only [Act.put,sA,sS,sZ]
    refine tT 16 rfl ?_
    simp only [Act.put,sA,sS,sZ]
    refine tT 17 rfl ?_
    simp only [Act.put,sA,sS,sZ]
    refine tT 18 rfl ?_ (hy:=fun wq hwq=>by have c9:=hwq.at_ hkB cx;go_simp;(try with_reducible rfl))
    simp only [Act.put,sA,sS,sZ]
    refine tT 19 rfl ?_
    simp only [Act.put,sA,sS,sZ]
    generalize wr.drew=wd at hHeld ⊢
    refine k2 20 24 (by kernel_rfl) rfl rfl rfl rfl (fun K hK=>?_) (fun K hK=>?_)
    ·go_wp2_with(go_at_call 13;(refine(CM.out _ hHeld).mono ?_);rintro e w5 ⟨hb5,AL,cL,A2,n2,c2,cy,tk,bk,T,hT,rfl,hown⟩;have HTT:=qA hT;clear hT)
     refine hK.out _ _ (hHeld.trans (hb5.mono hHeld.size)) (fun hHeld=>?_)
     clear hK K
     refine tT 21 rfl ?_
     simp only [Act.put,sA,sS,sZ]
     refine tT 22 rfl ?_
     simp only [Act.put,sA,sS,sZ]
     refine tT 23 rfl ?_
     simp only [Act.put,sA,sS,sZ]
     refine k1 24 (by kernel_rfl) rfl rfl (fun K hK=>?_)
     go_wp2_with(fail)
     refine R6 fun w6 hq=>?_
     have hBH:Blk w6 w5.heap.size 49 J7:=by rw [hq];exact Blk.new w5 _ _
     have hb6:Below w5.heap.size w5 w6:=by rw [hq];exact(qB _ _).alloc (qC _) _
     have hne:(Value.slice AL Y.1.length cL).ownBlock=none∨(Value.slice AL Y.1.length cL).ownBlock≠some w5.heap.size:=Or.inr (fun q=>by have:=(hown.lt _ q).2;omega)
     have hgH:=hHeld.size
     refine hK.out _ _ (hHeld.trans (hb6.mono hHeld.size)) (fun hHeld=>?_)
     replace hown:=Du hown hb6
     clear hq hK K hb5 hb6
     generalize w5.heap.size=gH at *
     have hTz:T.size=40:=by rw [HTT.out];exact It _ HT.out.hart.len _ _ _ _
     have hT1:T.all (·.oneCell')=true:=by rw [HTT.out];exact Ju _ _ _ _ _ _ _ _ _ _
     have hTx:T.extract 1 (1+35)=Y.2.1.cells:=by rw [HTT.out];exact Kz _ HT.out.hart.len _ _ _ _
     have hT0:T[0]? = some (.slice AL Y.1.length cL):=by rw [HTT.out];rfl
     refine k1 25 (by kernel_rfl) rfl rfl (fun K hK=>?_)
     refine De 49 _ _ rfl gH T rfl rfl 49 _ hBH (Gk hTz) (by rw [hTz];rfl) hT1 ?_
     intro w8 hX hg8
     have hcm:=Dq.own (hown.kept hg8 hne)
     refine hK.out _ _ (hHeld.grown hg8 hHeld.size (fun k hk=>by cases hk;exact hgH)) (fun hHeld=>?_)
     clear hK K hBH hown hne hg8
     simp only [Act.put,sA,sS,sZ]
     refine tT 26 rfl ?_
     simp only [Act.put,sA,sS,sZ]
     refine kE (by kernel_rfl) ?_
     have hb8:=HB9.out.trans (hHeld.mono (qS zg3))
     have CTH:=qA (Ty AL Y cL w8 (V.ext (hb8.mono hB)) (by have:=hb8.size;omega) HT.out hcm)
     have cX:=(hX.cell 0).trans hT0
     clear c0 cx hT0 hT1 hcm
     go_wp2_with(first
      |(refine Ai rfl 30 _ rfl gH 1 rfl 49 T 35 _ hX Tryz.underlying30 rfl Ux (by rw [hTz];decide) ?_;rw [hTx])
      |(go_at_call 31;(with_reducible refine CTH.out.mono ?_);rintro e w9 ⟨rfl,hb9⟩))
     rw [HPO.out,HX9.out]
     exact⟨hb8.trans (hb9.mono (qD (qS zg3) hHeld.size)),rfl,_,_,HPr.out.ext (hHeld.trans (hb9.mono hHeld.size))⟩
    ·go_wp2_with(fail)
     refine R6 fun w5 hq=>?_
     have hBH:Blk w5 wd.heap.size 49 J7:=by rw [hq];exact Blk.new wd _ _
     have hb5:Below wd.heap.size wd w5:=by rw [hq];exact(qB _ _).alloc (qC _) _
     have zH:=hBH.lt
     have hgH:=hHeld.size
     refine hK.out _ _ (hHeld.trans (hb5.mono hHeld.size)) (fun hHeld=>?_)
     clear hq hK K hb5
     generalize wd.heap.size=gH at *
     refine k1 20 (by kernel_rfl) rfl rfl (fun K hK=>?_)
     go_wp2_with(go_at_call 13;(refine(CM.out _ hHeld).mono ?_);rintro e w6 ⟨hb6,AL,cL,A2,n2,c2,cy,tk,bk,T,hT,rfl,hown⟩;have HTT:=qA hT;clear hT)
     have hne:(Value.slice AL Y.1.length cL).ownBlock=none∨(Value.slice AL Y.1.length cL).ownBlock≠some gH:=Or.inr (fun q=>by have:=(hown.lt _ q).1;omega)
     refine hK.out _ _ (hHeld.trans (hb6.mono hHeld.size)) (fun hHeld=>?_)
     replace hBH:=hBH.ext hb6
     clear hK K hb6
     refine tT 21 rfl ?_
     simp only [Act.put,sA,sS,sZ]
     refine tT 22 rfl ?_
     simp only [Act.put,sA,sS,sZ]
     refine tT 23 rfl ?_
     simp only [Act.put,sA,sS,sZ]
     have hTz:T.size=40:=by rw [HTT.out];exact It _ HT.out.hart.len _ _ _ _
     have hT1:T.all (·.oneCell')=true:=by rw [HTT.out];exact Ju _ _ _ _ _ _ _ _ _ _
     have hTx:T.extract 1 (1+35)=Y.2.1.cells:=by rw [HTT.out];exact Kz _ HT.out.hart.len _ _ _ _
     have hT0:T[0]? = some (.slice AL Y.1.length cL):=by rw [HTT.out];rfl
     refine k1 25 (by kernel_rfl) rfl rfl (fun K hK=>?_)
     refine De 49 _ _ rfl gH T rfl rfl 49 _ hBH (Gk hTz) (by rw [hTz];rfl) hT1 ?_
     intro w8 hX hg8
     have hcm:=Dq.own (hown.kept hg8 hne)
     refine hK.out _ _ (hHeld.grown hg8 hHeld.size (fun k hk=>by cases hk;exact hgH)) (fun hHeld=>?_)
     clear hK K hBH hown hne hg8
     simp only [Act.put,sA,sS,sZ]
     refine tT 26 rfl ?_
     simp only [Act.put,sA,sS,sZ]
     refine kE (by kernel_rfl) ?_
     have hb8:=HB9.out.trans (hHeld.mono (qS zg3))
     have CTH:=qA (Ty AL Y cL w8 (V.ext (hb8.mono hB)) (by have:=hb8.size;omega) HT.out hcm)
     have cX:=(hX.cell 0).trans hT0
     clear c0 cx hT0 hT1 hcm
     go_wp2_with(first
      |(refine Ai rfl 30 _ rfl gH 1 rfl 49 T 35 _ hX Tryz.underlying30 rfl Ux (by rw [hTz];decide) ?_;rw [hTx])
      |(go_at_call 31;(with_reducible refine CTH.out.mono ?_);rintro e w9 ⟨rfl,hb9⟩))
     rw [HPO.out,HX9.out]
     exact⟨hb8.trans (hb9.mono (qD (qS zg3) hHeld.size)),rfl,_,_,HPr.out.ext (hHeld.trans (hb9.mono hHeld.size))⟩
   ·as_aux_lemma=>
    have HXX:=qA (HXS.out.trans (Zl p x))
    obtain⟨kb,o,rfl,hkB,hcell⟩:=(Ar.own HROW.out) (by simp)
    have cx:wr.cell? ⟨kb,o,none⟩=some (.int .u32 x):=hcell 0 x rfl
    have hx:=HNW.out x (by simp)
    have CW:=qA (Aiz x wr (V.ext (HB9.out.mono hB)) (by omega) hx.1 hx.2)
    clear hcell HXS
    go_wp2_with(go_at_call 32;(with_reducible refine CW.out.mono ?_);rintro e w4 ⟨rfl,hb4⟩)
    rw [HPO.out,HXX.out]
    exact⟨HB9.out.trans (hb4.mono (by omega)),rfl,_,_,HPr.out.ext hb4⟩
   ·have hX9:=HXS.out.trans (Zk p hk)
    have HX9:=qA hX9
    clear hX9 HXS
    rcases hk with⟨h1,h2,h3,h4,h5,h6,h7,h8⟩ | ⟨rfl | rfl | rfl | rfl,hn1⟩ | ⟨rfl,hn2⟩ | ⟨rfl,hn3⟩
    ·as_aux_lemma=>
     have e1:(k0==[119,111,114,100,115])=false:=by simpa [Kf] using h1
     have e2:(k0==[112,99])=false:=by simpa [pcB] using h2
     have e3:(k0==[115,101,116])=false:=by simpa [Sd] using h3
     have e4:(k0==[99,111,114,101])=false:=by simpa [M0] using h4
     have e5:(k0==[99,104,111,111,115,101])=false:=by simpa [H5] using h5
     have e6:(k0==[109,111,100,101,108])=false:=by simpa [Jd] using h6
     have e7:(k0==[114,117,110])=false:=by simpa [Tm] using h7
     have e8:(k0==[119,104,97,116])=false:=by simpa [M7] using h8
     clear h1 h2 h3 h4 h5 h6 h7 h8
     clear z9 zg hll
     go_wp2_with(fail)
     rw [HPO.out,HX9.out]
     exact⟨HB9.out,rfl,_,_,HPr.out⟩
    ·as_aux_lemma=>
     have e1:((L.length:Int)==1)=false:=by simp;omega
     clear z9 zg hll
     go_wp2_with(fail)
     rw [HPO.out,HX9.out]
     exact⟨HB9.out,rfl,_,_,HPr.out⟩
    ·as_aux_lemma=>
     have e1:((L.length:Int)==1)=false:=by simp;omega
     clear z9 zg hll
     go_wp2_with(fail)
     rw [HPO.out,HX9.out]
     exact⟨HB9.out,rfl,_,_,HPr.out⟩
    ·as_aux_lemma=>
     have e1:((L.length:Int)==1)=false:=by simp;omega
     clear z9 zg hll
     go_wp2_with(fail)
     rw [HPO.out,HX9.out]
     exact⟨HB9.out,rfl,_,_,HPr.out⟩
    ·as_aux_lemma=>
     have e1:((L.length:Int)==1)=false:=by simp;omega
     clear z9 zg hll
     go_wp2_with(fail)
     rw [HPO.out,HX9.out]
     exact⟨HB9.out,rfl,_,_,HPr.out⟩
    ·as_aux_lemma=>
     have e1:((L.length:Int)==2)=false:=by simp;omega
     clear z9 zg hll
     go_wp2_with(fail)
     rw [HPO.out,HX9.out]
     exact⟨HB9.out,rfl,_,_,HPr.out⟩
    ·as_aux_lemma=>
     have e1:((L.length:Int)==3)=false:=by simp;omega
     clear z9 zg hll
     go_wp2_with(fail)
     rw [HPO.out,HX9.out]
     exact⟨HB9.out,rfl,_,_,HPr.out⟩
theorem Te (a b c:Int) (h:Aq) (m k:Nat) (cycles:Int) :
  ((a<1∨32<a∨b<33∨96<b∨c<1∨4<c∨Ip h=false∨4096<m)→Ha a b c h m k cycles=2) ∧
  (¬ (a<1∨32<a∨b<33∨96<b∨c<1∨4<c∨Ip h=false∨4096<m)→Ha a b c h m k cycles=if 3000<k then 1 else if cycles<0∨6000<cycles then 3 else 0):=by
 have hm:Ajo a b c=false↔(a<1∨32<a∨b<33∨96<b∨c<1∨4<c):=by
  unfold Ajo
  simp only [Bool.and_eq_false_iff,decide_eq_false_iff_not]
  omega
 unfold Ha
 constructor
 ·intro hh
  rw [if_pos]
  rw [hm]
  rcases hh with h1 | h1 | h1 | h1 | h1 | h1 | h1 | h1<;>simp [h1]
 ·intro hh
  rw [if_neg]
  rw [hm]
  intro h2
  apply hh
  rcases h2 with(h1 | h1 | h1 | h1 | h1 | h1) | h1 | h1<;>simp [h1]
theorem Zy {a b c:Int} {h:Aq} {m:List Int} {k:Nat} {cycles:Int} (hh:h.Wf) (hm:Bytes m) (hw:Ha a b c h m.length k cycles=0):Ad8 a b c h m∧k≤3000∧0≤cycles∧cycles≤6000:=by
 obtain⟨hx2,hxe⟩:=Te a b c h m.length k cycles
 by_cases h2:(a<1∨32<a∨b<33∨96<b∨c<1∨4<c∨Ip h=false∨4096<m.length)
 ·rw [hx2 h2] at hw;cases hw
 ·have he:=hxe h2
  rw [hw] at he
  have hmay:Ip h=true:=by
   rcases e:Ip h with _ | _
   ·exact absurd (by simp [e]) h2
   ·rfl
  have h3:¬ 3000<k:=fun hk=>by rw [if_pos hk] at he;cases he
  rw [if_neg h3] at he
  have h4:¬ (cycles<0∨6000<cycles):=fun hk=>by rw [if_pos hk] at he;cases he
  exact⟨⟨by omega,by omega,by omega,hh,hmay,hm,by omega⟩,by omega,by omega,by omega⟩
end Go.Proofs.YtapgojgcmlnbgaaGreatDoor
namespace Go.Proofs.YtapgojgcmlnbgaaGreatDoor
open Go.RowKit
theorem Ako (h:Aq) (b:Nat) (T:TypeId) (A:Option Addr) (base cap:Nat) (m:List Int) (w:World) (hh:h.Wf) (hH:Blk w b T h.cells) (hl:m.length≤4294967291) (hm:Bytes m)
  (hown:w.ownsRow base 5 1 (.slice A m.length cap) m.length (m.map (.int .u8))) (hne:(Value.slice A m.length cap).ownBlock≠some b) :
  Calls Tryz.prog 20 #[.pointer (some ⟨b,0,none⟩), .slice A m.length cap] w fun e w'=>e = .returned (.agg (K3 h m).cells)∧Blk w' b T (goH h m).cells ∧
   w'.ownsRow base 5 1 (.slice A m.length cap) m.length ((goM h m).map (.int .u8))∧Two (some b) (Value.slice A m.length cap).ownBlock w w':=by
 obtain⟨i,cause,hf⟩:∃ i cause,Dn m h.pc=(i,cause):=⟨_,_,rfl⟩
 have hcom:=Ai8 hf
 have hcwf:=qA (Qf hh hm)
 have hcfit:=qA (Rt h m)
 have hgoH:Ou h.cells 0 (K3 h m)=(goH h m).cells:=W5 h (K3 h m) hh.len hcwf.out.rd.1 hcwf.out.rd.2
 have hgoM:C4 (K3 h m) m=goM h m:=rfl
 have hcz:=Oe (m:=m) (pc:=h.pc)
 rw [hf] at hcz
 dsimp only at hcz
 have CF:=qA (fun W hW=>Of A cap m h.pc W hh.pc0 hh.pc1 (by omega) hm hW)
 rw [hf] at CF
 dsimp only at CF
 have cpc:=(hH.cell 32).trans (Aq.cells_pc hh.len).1
 have HgH:=qA hgoH
 have HgM:=qA hgoM
 have Hcom:=qA hcom
 generalize goH h m=h' at *
 generalize goM h m=m' at *
 generalize K3 h m=cm at *
 clear hgoH hgoM hcom hf
 have zb:=hH.lt
 go_enter Tryz.func20,Tryz.ntmps20
 go_upto_region 1 with(fail)
 go_simp
 refine A1 fun wa hq=>?_
 have hR:Blk wa w.heap.size 65 #[.int .u32 0, .int .u32 0, .int .i64 0, .int .i64 0, .int .i64 0, .int .u32 0, .int .u32 0, .int .i64 0, .int .u32 0, .bool false, .int .u32 0]:=by rw [hq];exact Blk.new w _ _
 have hbl:Below w.heap.size w wa:=by rw [hq];exact(qB _ _).alloc (qC _) _
 clear hq
 have hHa:=hH.ext hbl
 have hM:=Cj hown hbl
 have cpa:=(hbl.cell (p:=⟨b,32,none⟩) zb).trans cpc
 have hA:=Ar.own hM
 go_upto_region 2 with(go_at_call 33;(with_reducible refine(CF.out _ hA).mono ?_);rintro e w2 ⟨rfl,hb2⟩)
 try go_simp
 refine A1 fun wb hq=>?_
 have hI:Blk wb w2.heap.size 53 i.cells:=by rw [hq];exact Blk.new w2 _ _
 have hbb:Below wa.heap.size wa wb:=by rw [hq];exact hb2.alloc hb2.size _
 have hsz2:wa.heap.size≤w2.heap.size:=hb2.size
 generalize w2.heap.size=g5 at *
 clear hq hb2
 replace hbl:=hbl.trans (hbb.mono hbl.size)
 have hRb:=hR.ext hbb
 replace hHa:=hHa.ext hbb
 replace hM:=Cj hM hbb
 have cpb:=(hbl.cell (p:=⟨b,32,none⟩) zb).trans cpc
 have hRl:=hR.lt
 have hg5:w.heap.size<g5:=by omega
 clear hR hA cpa hbb CF
 go_upto_region 3 with(go_at_call 34;(with_reducible refine(Kb ⟨h.pc,0,0,0,0,0,0,0,0,false,0⟩ cause _).mono ?_);rintro e w2 ⟨rfl,hb2⟩)
 try go_simp
 refine A1 fun wc hq=>?_
 have hC:Blk wc w2.heap.size 65 (By h.pc cause).cells:=by rw [hq];exact Blk.new w2 _ _
 have hbb:Below wb.heap.size wb wc:=by rw [hq];exact hb2.alloc hb2.size _
 have hsz3:wb.heap.size≤w2.heap.size:=hb2.size
 have hI2:=hI.ext hbb
 have hR2:=hRb.ext hbb
 have hIl:=hI.lt
 generalize w2.heap.size=g7 at *
 clear hq hb2
 replace hbl:=hbl.trans (hbb.mono hbl.size)
 replace hHa:=hHa.ext hbb
 replace hM:=Cj hM hbb
 have hg7:g5<g7:=by omega
 clear hI hRb cpb hbb hIl hsz3 hsz2 hRl
 by_cases hz:cause=0
 ·subst hz
  obtain⟨hI3,_,_⟩:=hcz rfl
  have hcmd:Cl i h m=cm:=(show cm=Cl i h m from Hcom.out).symm
  obtain⟨_,_,⟨hs0,hs1⟩,ht0,ht1⟩:=Ho hI3
  have CD:=qA (fun W (hW:F8 W b 0 h) hA=>Ui i h b 0 A cap m W hh hs0 hs1 ht0 ht1 hW (by omega) hm hA)
  rw [hcmd] at CD
  have hHt:=F8.of_blk hh.len hHa
  have hA:=Ar.own hM
  clear hcz Hcom hcmd hI3 hs0 hs1 ht0 ht1
  go_upto_region 5 with(first
   |(refine Ab rfl 53 _ rfl g5 rfl 53 _ _ hI2 Tryz.underlying53 rfl Cs ?_)
   |(go_at_call 35;(with_reducible refine(CD.out _ hHt hA).mono ?_);rintro e w3 ⟨rfl,hb3⟩;replace hbl:=hbl.trans (hb3.mono hbl.size);replace hR2:=hR2.ext hb3;replace hC:=hC.ext hb3;replace hHa:=hHa.ext hb3;replace hM:=Cj hM hb3;clear hb3)
   |(refine Ae rfl 65 _ _ rfl g7 cm.cells rfl rfl 65 _ hC Ao rfl (cells_one cm) ?_;intro w5 hB5 hg5';replace hR2:=hR2.grown hg5' (fun e=>by injection e;omega);replace hHa:=hHa.grown hg5' (fun e=>by injection e;omega);replace hM:=hM.kept hg5' (Or.inr (fun e=>by have:=(hown.lt g7 e).2;omega));replace hbl:=below_grown hbl hg5' hbl.size (by omega);replace hC:=hB5;clear hg5' hB5))
  try go_simp
  have hcw:=hcwf.out
  have hcf:=hcfit.out
  have hcr0:=hcw.rd.1
  have hcr1:=hcw.rd.2
  have hcd0:=hcw.data.1
  have hcd1:=hcw.data.2
  have hcm:=hcw.many
  have hfit:cm.many=0∨(0≤cm.at_∧cm.at_+cm.many≤m.length∧cm.at_≤4294967291):=by
   have h1:=hcw.at_
   rcases hcf with h | h
   ·exact Or.inl h
   ·rcases hcm with h' | h' | h' | h'
    ·exact Or.inl h'
    ·exact Or.inr (by omega)
    ·exact Or.inr (by omega)
    ·exact Or.inr (by omega)
  have CA:=qA (Rq cm b 0 T h.cells A base cap m _ hHa (by rw [Aq.cells_size hh.len];omega) hcr0 hcr1 hM hne (by omega) hcm hfit hcd0 hcd1)
  clear hcw hcf hcr0 hcr1 hcd0 hcd1 hcm hfit
  have hR0:=hR2.lt
  have hR7:=hC.lt
  go_upto_region 6 with(first
   |(refine Ab rfl 65 _ rfl g7 rfl 65 _ _ hC Tryz.underlying65 rfl Ao ?_)
   |(go_at_call 36;(with_reducible refine CA.out.mono ?_);rintro e w9 ⟨rfl,w8,hg8,hH8,hM9,hg9⟩;have hTw:=Two.of hg8 hg9;replace hR2:=hTw.blk hR2 (fun e=>by injection e;omega) (fun e=>by have:=(hown.lt w.heap.size e.symm).2;omega);replace hC:=hTw.blk hC (fun e=>by injection e;omega) (fun e=>by have:=(hown.lt g7 e.symm).2;omega)))
  replace hTw:=Two.after hbl (qC _) hTw
  have hH9:=hH8.grown hg9 (fun e=>hne e.symm)
  rw [HgH.out] at hH9
  rw [HgM.out] at hM9
  clear CA hH8 hg8 hg9
  go_wp2_with(first
   |(refine Ab rfl 65 _ rfl g7 rfl 65 _ _ hC Tryz.underlying65 rfl Ao ?_)
   |(refine Ae rfl 65 _ _ rfl w.heap.size cm.cells rfl rfl 65 _ hR2 Ao rfl (cells_one cm) ?_;intro w5 hB5 hg5'))
  exact bodyPost_ret (v := .agg cm.cells) (Bo rfl _ _ w.heap.size 65 _ _ rfl hB5 Tryz.underlying65 rfl Ao) rfl ⟨rfl,hH9.grown hg5' (fun e=>by injection e;omega),hM9.kept hg5' (Or.inr (fun e=>by have:=(hown.lt w.heap.size e).2;omega)),hTw.grown hg5' (fun j hj=>by injection hj;omega)⟩
 ·obtain rfl:cm=By h.pc cause:=by have h:=Hcom.out;rw [if_neg hz] at h;exact h
  have hz':(cause==0)=false:=by simpa using hz
  clear Hcom hcz
  have hRx:=hR2
  go_upto_region 5 with(fail)
  try go_simp
  clear hz hz' hRx
  have hcw:=hcwf.out
  have hcf:=hcfit.out
  have hcr0:=hcw.rd.1
  have hcr1:=hcw.rd.2
  have hcd0:=hcw.data.1
  have hcd1:=hcw.data.2
  have hcm:=hcw.many
  have hfit:(By h.pc cause).many=0∨(0≤(By h.pc cause).at_∧(By h.pc cause).at_+(By h.pc cause).many≤m.length∧(By h.pc cause).at_≤4294967291):=by
   have h1:=hcw.at_
   rcases hcf with h | h
   ·exact Or.inl h
   ·rcases hcm with h' | h' | h' | h'
    ·exact Or.inl h'
    ·exact Or.inr (by omega)
    ·exact Or.inr (by omega)
    ·exact Or.inr (by omega)
  have CA:=qA (Rq (By h.pc cause) b 0 T h.cells A base cap m _ hHa (by rw [Aq.cells_size hh.len];omega) hcr0 hcr1 hM hne (by omega) hcm hfit hcd0 hcd1)
  clear hcw hcf hcr0 hcr1 hcd0 hcd1 hcm hfit
  have hR0:=hR2.lt
  have hR7:=hC.lt
  go_upto_region 6 with(first
   |(refine Ab rfl 65 _ rfl g7 rfl 65 _ _ hC Tryz.underlying65 rfl Ao ?_)
   |(go_at_call 36;(with_reducible refine CA.out.mono ?_);rintro e w9 ⟨rfl,w8,hg8,hH8,hM9,hg9⟩;have hTw:=Two.of hg8 hg9;replace hR2:=hTw.blk hR2 (fun e=>by injection e;omega) (fun e=>by have:=(hown.lt w.heap.size e.symm).2;omega);replace hC:=hTw.blk hC (fun e=>by injection e;omega) (fun e=>by have:=(hown.lt g7 e.symm).2;omega)))
  replace hTw:=Two.after hbl (qC _) hTw
  have hH9:=hH8.grown hg9 (fun e=>hne e.symm)
  rw [HgH.out] at hH9
  rw [HgM.out] at hM9
  clear CA hH8 hg8 hg9
  go_wp2_with(first
   |(refine Ab rfl 65 _ rfl g7 rfl 65 _ _ hC Tryz.underlying65 rfl Ao ?_)
   |(refine Ae rfl 65 _ _ rfl w.heap.size (By h.pc cause).cells rfl rfl 65 _ hR2 Ao rfl (cells_one (By h.pc cause)) ?_;intro w5 hB5 hg5'))
  exact bodyPost_ret (v := .agg (By h.pc cause).cells) (Bo rfl _ _ w.heap.size 65 _ _ rfl hB5 Tryz.underlying65 rfl Ao) rfl ⟨rfl,hH9.grown hg5' (fun e=>by injection e;omega),hM9.kept hg5' (Or.inr (fun e=>by have:=(hown.lt w.heap.size e).2;omega)),hTw.grown hg5' (fun j hj=>by injection hj;omega)⟩
def Hb (h:Aq) (m:List Int) (steps:Int):Int:=if Ip h=false∨4096<m.length then 2 else if steps<0∨2000<steps then 3 else 0
section
variable {P:Program} {fn:Func} {tmps:Array Value} {w:World} {ad:Addr} {v x y z:Value} {p a b c:Tmp} {ty:TypeId}
theorem Gq (h:fn.results=#[.tmp a, .cell p ty, .tmp b, .tmp c]) (hp:tmps.getD p undef = .pointer (some ad)) (ha:tmps.getD a undef=x) (hb:tmps.getD b undef=y) (hc:tmps.getD c undef=z)
  (hl:(loadVar ty ad).run P w = .ok v w):(results fn tmps).run P w = .ok (.tuple #[x,v,y,z]) w:=by
 have hp':tmps[p]?.getD undef = .pointer (some ad):=by simpa using hp
 have ha':tmps[a]?.getD undef=x:=by simpa using ha
 have hb':tmps[b]?.getD undef=y:=by simpa using hb
 have hc':tmps[c]?.getD undef=z:=by simpa using hc
 simp [results,h,hp',ha',hb',hc',asAddr,hl]
end
theorem Aek {w w':World} {base:Nat} {e:TypeId} {size:Nat} {v:Value} {n:Nat} {xs:List Value} (ho:w.ownsRow base e size v n xs) {b:Nat} {mo:Option Nat} (k:Two (some b) mo w w') (hb:b<base) (hm:∀ j,mo=some j→j<base):w'.ownsRow base e size v n xs:=
 ⟨ho.1,ho.2.imp id fun⟨g,cap,cur,e,l,hh,r⟩=>⟨g,cap,cur,e,l,by
  have hg:g<w.heap.size:=by
   rcases Nat.lt_or_ge g w.heap.size with h' | h'
   ·exact h'
   ·rw [Array.getElem?_eq_none h'] at hh;cases hh
  rw [←hh]
  exact k.block g hg (fun e=>by injection e;omega) (fun e=>by have:=hm g e.symm;omega),r⟩⟩
theorem Tu {w w':World} {base:Nat} {e:TypeId} {size:Nat} {v:Value} {n:Nat} {xs:List Value} (ho:w.ownsRow base e size v n xs) {g:Nat} (k:w.grownBy w' (some g)) (hg:g<base):w'.ownsRow base e size v n xs:=
 Aek ho (b:=g) (mo:=none) ⟨k.os,k.tape,k.output,k.size,fun j hj h1 _=>k.block j hj h1⟩ hg (fun j hj=>by cases hj)
def sliceLen:Value→Nat
 |.slice _ n _=>n
 |_=>0
theorem Ak0 (h:Aq) (A:Option Addr) (cap:Nat) (m:List Int) (steps:Int) (w:World) (hh:h.Wf) (hl:m.length≤140737488351232) (s0 : -9223372036854775808≤steps) (s1:steps≤9223372036854775807) (hno:Hb h m steps≠0) :
  Calls Tryz.prog 11 #[.agg h.cells, .slice A m.length cap, .int .i64 steps] w fun e w'=>e = .returned (.tuple #[.slice none 0 0, .agg Eq.cells, .slice none 0 0, .int .i64 (Hb h m steps)])∧Below w.heap.size w w':=by
 have CM:=qA (fun W=>Qs h W hh.len)
 obtain⟨X,hx⟩:∃ X,Hb h m steps=X:=⟨_,rfl⟩
 rw [hx] at hno ⊢
 unfold Hb at hx
 obtain⟨N,hN⟩:∃ N,N=m.length:=⟨_,rfl⟩
 rw [←hN] at hx hl ⊢
 clear hN
 rcases hm:Ip h with _ | _
 ·rw [hm] at CM hx
  obtain rfl:X=2:=by rw [←hx,if_pos (Or.inl rfl)]
  clear hx hno hm
  go_enter Tryz.func11,Tryz.ntmps11
  go_upto_region 1 with(fail)
  go_simp
  refine A1 fun wa hq=>?_
  have hH:Blk wa w.heap.size 30 h.cells:=by rw [hq];exact(Blk.new w _ _).alloc _
  have hR:Blk wa (w.heap.size+1) 30 Eq.cells:=by rw [hq];exact Blk.newAt (w.alloc _) 30 _ (by simp)
  have hbl:Below w.heap.size w wa:=by rw [hq];exact((qB _ _).alloc (qC _) _).alloc (by simp) _
  clear hq
  go_wp2_with(first
   |(refine Ab rfl 30 _ rfl w.heap.size rfl 30 _ _ hH Tryz.underlying30 rfl (Ca hh.len) ?_)
   |(go_at_call 18;(with_reducible refine(CM.out _).mono ?_);rintro e w2 ⟨rfl,hb2⟩;replace hbl:=hbl.trans (hb2.mono hbl.size);replace hR:=hR.ext hb2;clear hb2)
   |(refine Am rfl 30 _ rfl [] rfl _ Ko ?_)
   |(refine Ae rfl 30 _ _ rfl (w.heap.size+1) Eq.cells rfl rfl 30 _ hR (Ca Hi) rfl (Fp Eq) ?_;intro w6 hB6 hg6))
  refine bodyPost_ret (Gq rfl rfl rfl rfl rfl (Jr Hi hB6)) rfl ?_
  exact⟨rfl,below_grown hbl hg6 hbl.size (by omega)⟩
 rw [hm] at CM hx
 by_cases hN:4096<N
 ·obtain rfl:X=2:=by rw [←hx,if_pos (Or.inr hN)]
  have f1:decide ((4096:Int)<(N:Int))=true:=qF (by omega)
  clear hx hno hm
  go_enter Tryz.func11,Tryz.ntmps11
  go_upto_region 1 with(fail)
  go_simp
  refine A1 fun wa hq=>?_
  have hH:Blk wa w.heap.size 30 h.cells:=by rw [hq];exact(Blk.new w _ _).alloc _
  have hR:Blk wa (w.heap.size+1) 30 Eq.cells:=by rw [hq];exact Blk.newAt (w.alloc _) 30 _ (by simp)
  have hbl:Below w.heap.size w wa:=by rw [hq];exact((qB _ _).alloc (qC _) _).alloc (by simp) _
  clear hq
  go_wp2_with(first
   |(refine Ab rfl 30 _ rfl w.heap.size rfl 30 _ _ hH Tryz.underlying30 rfl (Ca hh.len) ?_)
   |(go_at_call 18;(with_reducible refine(CM.out _).mono ?_);rintro e w2 ⟨rfl,hb2⟩;replace hbl:=hbl.trans (hb2.mono hbl.size);replace hR:=hR.ext hb2;clear hb2)
   |(refine Am rfl 30 _ rfl [] rfl _ Ko ?_)
   |(refine Ae rfl 30 _ _ rfl (w.heap.size+1) Eq.cells rfl rfl 30 _ hR (Ca Hi) rfl (Fp Eq) ?_;intro w6 hB6 hg6))
  refine bodyPost_ret (Gq rfl rfl rfl rfl rfl (Jr Hi hB6)) rfl ?_
  exact⟨rfl,below_grown hbl hg6 hbl.size (by omega)⟩
 rw [if_neg (by simp;omega)] at hx
 have f1:decide ((4096:Int)<(N:Int))=false:=qG (by omega)
 by_cases hs:steps<0
 ·obtain rfl:X=3:=by rw [←hx,if_pos (Or.inl hs)]
  have f2:decide (steps<0)=true:=qF hs
  clear hx hno hm hs
  go_enter Tryz.func11,Tryz.ntmps11
  go_upto_region 1 with(fail)
  go_simp
  refine A1 fun wa hq=>?_
  have hH:Blk wa w.heap.size 30 h.cells:=by rw [hq];exact(Blk.new w _ _).alloc _
  have hR:Blk wa (w.heap.size+1) 30 Eq.cells:=by rw [hq];exact Blk.newAt (w.alloc _) 30 _ (by simp)
  have hbl:Below w.heap.size w wa:=by rw [hq];exact((qB _ _).alloc (qC _) _).alloc (by simp) _
  clear hq
  go_wp2_with(first
   |(refine Ab rfl 30 _ rfl w.heap.size rfl 30 _ _ hH Tryz.underlying30 rfl (Ca hh.len) ?_)
   |(go_at_call 18;(with_reducible refine(CM.out _).mono ?_);rintro e w2 ⟨rfl,hb2⟩;replace hbl:=hbl.trans (hb2.mono hbl.size);replace hR:=hR.ext hb2;clear hb2)
   |(refine Am rfl 30 _ rfl [] rfl _ Ko ?_)
   |(refine Ae rfl 30 _ _ rfl (w.heap.size+1) Eq.cells rfl rfl 30 _ hR (Ca Hi) rfl (Fp Eq) ?_;intro w6 hB6 hg6))
  refine bodyPost_ret (Gq rfl rfl rfl rfl rfl (Jr Hi hB6)) rfl ?_
  exact⟨rfl,below_grown hbl hg6 hbl.size (by omega)⟩
 by_cases hs2:2000<steps
 ·obtain rfl:X=3:=by rw [←hx,if_pos (Or.inr hs2)]
  have f2:decide (steps<0)=false:=qG hs
  have f3:decide (2000<steps)=true:=qF hs2
  clear hx hno hm hs hs2
  go_enter Tryz.func11,Tryz.ntmps11
  go_upto_region 1 with(fail)
  go_simp
  refine A1 fun wa hq=>?_
  have hH:Blk wa w.heap.size 30 h.cells:=by rw [hq];exact(Blk.new w _ _).alloc _
  have hR:Blk wa (w.heap.size+1) 30 Eq.cells:=by rw [hq];exact Blk.newAt (w.alloc _) 30 _ (by simp)
  have hbl:Below w.heap.size w wa:=by rw [hq];exact((qB _ _).alloc (qC _) _).alloc (by simp) _
  clear hq
  go_wp2_with(first
   |(refine Ab rfl 30 _ rfl w.heap.size rfl 30 _ _ hH Tryz.underlying30 rfl (Ca hh.len) ?_)
   |(go_at_call 18;(with_reducible refine(CM.out _).mono ?_);rintro e w2 ⟨rfl,hb2⟩;replace hbl:=hbl.trans (hb2.mono hbl.size);replace hR:=hR.ext hb2;clear hb2)
   |(refine Am rfl 30 _ rfl [] rfl _ Ko ?_)
   |(refine Ae rfl 30 _ _ rfl (w.heap.size+1) Eq.cells rfl rfl 30 _ hR (Ca Hi) rfl (Fp Eq) ?_;intro w6 hB6 hg6))
  refine bodyPost_ret (Gq rfl rfl rfl rfl rfl (Jr Hi hB6)) rfl ?_
  exact⟨rfl,below_grown hbl hg6 hbl.size (by omega)⟩
 exact absurd (by rw [←hx,if_neg (by omega)]) hno
theorem Ak1 (h:Aq) (A:Option Addr) (cap:Nat) (m:List Int) (steps:Int) (w:World) (hh:h.Wf) (hl:m.length≤140737488351232) (hm:Bytes m) (hA:Ar w w.heap.size .u8 A m) (hnil:A=none→m=[]) (hno:Hb h m steps=0) :
  Calls Tryz.prog 11 #[.agg h.cells, .slice A m.length cap, .int .i64 steps] w fun e w'=>∃ AL cL A2 c2,e = .returned (.tuple #[.slice AL (Cz steps.toNat h m).1.length cL, .agg (Cz steps.toNat h m).2.1.cells, .slice A2 m.length c2, .int .i64 0])∧Below w.heap.size w w' ∧
   w'.ownsRow w.heap.size 65 11 (.slice AL (Cz steps.toNat h m).1.length cL) (Cz steps.toNat h m).1.length (Ec (Cz steps.toNat h m).1)∧w'.ownsRow w.heap.size 5 1 (.slice A2 m.length c2) m.length ((Cz steps.toNat h m).2.2.map (.int .u8)):=by
 obtain⟨⟨hmay,hlen⟩,hs0,hs1⟩:(Ip h=true∧m.length≤4096)∧0≤steps∧steps≤2000:=by
  unfold Hb at hno
  split at hno
  ·cases hno
  ·rename_i h1
   split at hno
   ·cases hno
   ·exact⟨by cases hh:Ip h<;>simp_all<;>omega,by omega⟩
 obtain⟨N,rfl⟩:=qH hs0
 rw [Int.toNat_natCast]
 have CM:=qA (fun W=>Qs h W hh.len)
 rw [hmay] at CM
 have f1:decide ((4096:Int)<(m.length:Int))=false:=qG (by omega)
 have f2:decide ((2000:Int)<(N:Int))=false:=qG (by omega)
 have CC:=qA (fun W (hW:Ar W W.heap.size .u8 A m)=>Ni A m.length cap (m.map (.int .u8)) W (by omega) (by simp) (ints_oneCell _ _) hW.cells (fun e=>by rw [hnil e];rfl))
 obtain⟨R,hRn⟩:∃ R,Cz N h m=R:=⟨_,rfl⟩
 have hrun:Sm h m∧m.length=m.length∧Cz N h m=([]++(Cz (N - 0) h m).1,(Cz (N - 0) h m).2):=⟨⟨hh,hmay,hm⟩,rfl,by simp⟩
 rw [hRn] at hrun ⊢
 clear hno hRn
 obtain⟨i0,hi,hz0,hz1,hz2⟩:=info_parts Xa
 go_enter Tryz.func11,Tryz.ntmps11
 go_upto_region 1 with(fail)
 go_simp
 refine A1 fun wa hq=>?_
 have hH:Blk wa w.heap.size 30 h.cells:=by rw [hq];exact(Blk.new w _ _).alloc _
 have hR:Blk wa (w.heap.size+1) 30 Eq.cells:=by rw [hq];exact Blk.newAt (w.alloc _) 30 _ (by simp)
 have hbl:Below w.heap.size w wa:=by rw [hq];exact((qB _ _).alloc (qC _) _).alloc (by simp) _
 clear hq
 go_upto_region 5 with(first
  |(refine Ab rfl 30 _ rfl w.heap.size rfl 30 _ _ hH Tryz.underlying30 rfl (Ca hh.len) ?_)
  |(go_at_call 18;(with_reducible refine(CM.out _).mono ?_);rintro e w2 ⟨rfl,hb2⟩;replace hbl:=hbl.trans (hb2.mono hbl.size);replace hR:=hR.ext hb2;replace hH:=hH.ext hb2;clear hb2))
 try go_simp
 clear f1 f2 CM
 have hA3:=(hA.below hbl).mono hbl.size
 have hz2':=hR.lt
 go_upto_region 6 with(go_at_call 19;(with_reducible refine(CC.out _ hA3).mono ?_);rintro e w3 ⟨v,rfl,hM,hb3⟩;obtain⟨A3,cap3,rfl⟩:=Al hM)
 try go_simp
 replace hbl:=hbl.trans (hb3.mono hbl.size)
 replace hH:=hH.ext hb3
 replace hR:=hR.ext hb3
 have hzM:=hb3.size
 have hmb:∀ j,(Value.slice A3 m.length cap3).ownBlock=some j→w2.heap.size≤j∧j<w3.heap.size:=fun j hj=>hM.lt j hj
 obtain⟨B1,hB1⟩:∃ B1,B1=w2.heap.size:=⟨_,rfl⟩
 obtain⟨B2,hB2⟩:∃ B2,B2=w3.heap.size:=⟨_,rfl⟩
 rw [←hB1] at hM hmb hz2' hzM
 rw [←hB2] at hmb hzM
 have hB2':B2≤w3.heap.size:=by omega
 clear hB1 hB2 hA3 hb3 CC
 have HRUN:=qA hrun
 clear hrun
 go_upto_region 7 with(fail)
 go_loopw [11] (fun v wr=>∃ (k:Nat) (AL:Option Addr) (cL:Nat) (ls:List Com) (h':Aq) (m':List Int),v = .slice AL k cL∧k≤N∧Below w.heap.size w wr∧Blk wr w.heap.size 30 h'.cells∧Blk wr (w.heap.size+1) 30 Eq.cells∧wr.ownsRow B1 5 1 (.slice A3 m.length cap3) m.length (m'.map (.int .u8))∧wr.ownsRow B2 65 11 (.slice AL k cL) k (Ec ls)∧B2≤wr.heap.size∧Hid (Sm h' m'∧m'.length=m.length∧R=(ls++(Cz (N - k) h' m').1,(Cz (N - k) h' m').2))) (fun v _=>N+1 - sliceLen v)
 case atStart=>exact⟨0,none,0,[],h,m,rfl,Nat.zero_le _,hbl,hH,hR,hM,qT _ _ _ _,hB2',qA ⟨HRUN.out.1,rfl,HRUN.out.2.2⟩⟩
 case round=>
  clear hbl hH hR hM hB2' HRUN
  obtain⟨k,AL,cL,ls,h',m',rfl,hk,hb,hH,hR,hM,hL,hB2',Hrel⟩:=hrel
  obtain⟨hok,hml,Hr⟩:=Hrel.out
  clear Hrel
  have c33:=(hH.cell 33).trans (Aq.cells_pc hok.hart.len).2.1
  by_cases hlt:k<N
  ·have t1:decide ((k:Int)<(N:Int))=true:=qF (by omega)
   by_cases hst:h'.state=0
   ·have t2:(h'.state==0)=true:=by simpa using hst
    have hnx:=hok.next
    rw [show N - k=(N - (k+1))+1 by omega,Gr hst] at Hr
    have hml2:(goM h' m').length=m.length:=(I0 _ _).trans hml
    have CG:Calls Tryz.prog 20 #[.pointer (some ⟨w.heap.size,0,none⟩), .slice A3 m.length cap3] wr fun e w'=>e = .returned (.agg (K3 h' m').cells)∧Blk w' w.heap.size 30 (goH h' m').cells∧w'.ownsRow B1 5 1 (.slice A3 m.length cap3) m.length ((goM h' m').map (.int .u8))∧Two (some w.heap.size) (Value.slice A3 m.length cap3).ownBlock wr w':=by
     rw [←hml] at hM ⊢
     exact Ako h' w.heap.size 30 A3 B1 cap3 m' wr hok.hart hH (by omega) hok.bytes hM (fun e=>by have:=hM.lt _ e;omega)
    have CG:=qA CG
    generalize K3 h' m'=C at *
    generalize goH h' m'=h9 at *
    generalize goM h' m'=m9 at *
    obtain⟨HR,hHR⟩:∃ HR,HR=Cz (N - (k+1)) h9 m9:=⟨_,rfl⟩
    rw [←hHR] at Hr
    have Hnew:Hid (Sm h9 m9∧m9.length=m.length∧R=((ls++[C])++(Cz (N - (k+1)) h9 m9).1,(Cz (N - (k+1)) h9 m9).2)):=qA ⟨hnx,hml2,by rw [Hr,←hHR];simp⟩
    clear Hr hHR HR hnx hml2 hok hst
    go_upto_region 8 with(fail)
    try go_simp
    clear c33 t1 t2
    go_wp2_with(first
     |(go_at_call 20;(with_reducible refine CG.out.mono ?_);rintro e w7 ⟨rfl,hH7,hM7,hT⟩;have hL7:=Aek hL hT (by omega) (fun j hj=>(hmb j hj).2);have hR7:=hT.blk hR (fun e=>by injection e;omega) (fun e=>by have:=(hmb _ e.symm).1;omega);have hb7:=Two.below hb hT hb.size (fun j hj=>by injection hj;omega) (fun j hj=>by have:=(hmb j hj).1;omega);have hz7:=hT.size)
     |(at_builtin;refine B0 rfl (.tmp 41) (.tmp 44) 43 rfl B2 65 i0 _ 11 64 Tryz.underlying43 hi hz0 hz1 hz2 rfl (by decide) (.slice AL k cL) k (Ec ls) rfl (hL7.alloc _) (some ⟨w7.heap.size,0,none⟩) 1 1 C.cells.toList rfl (Tq C) (fun h=>by cases h) (Js w7 C.cells _) (fun u hu=>Oz [C] u (by rw [Ob];exact hu)) (by unfold maxLen;omega) (by omega) (by simp;omega) ?_;intro v8 w8 hL8 hg8))
    have hzl:∀ j,(Value.slice AL k cL).ownBlock=some j→B2≤j:=fun j hj=>(hL7.lt j hj).1
    have hH8:=(hH7.alloc (.cells C.cells 65)).grown hg8 (fun e=>by have:=hzl _ e.symm;omega)
    have hR8:=(hR7.alloc (.cells C.cells 65)).grown hg8 (fun e=>by have:=hzl _ e.symm;omega)
    have hb8:=(hb7.alloc hb7.size (.cells C.cells 65)).grown hg8 (by have:=hb7.size;simp;omega) (fun j hj=>by have:=hzl j hj;omega)
    have hM8:=(hM7.alloc (.cells C.cells 65)).kept hg8 (by
     rcases hv:(Value.slice A3 m.length cap3).ownBlock with _ | b
     ·exact Or.inl rfl
     ·right;intro e;have:=hzl b e.symm;have:=(hmb b hv).2;omega)
    have hz8:=hg8.size
    simp only [World.size_alloc] at hz8
    rw [←Ob C,←Qg] at hL8
    obtain⟨A8,cap8,rfl⟩:=Al hL8
    go_roundw
    case rel=>exact⟨k+1,A8,cap8,ls++[C],h9,m9,rfl,by omega,hb8,hH8,hR8,hM8,hL8,by omega,Hnew⟩
    case measure=>simp [sliceLen];omega
   ·have t2:(h'.state==0)=false:=by simpa using hst
    have hfin:(ls++(Cz (N - k) h' m').1,(Cz (N - k) h' m').2)=(ls,h',m'):=by rw [Lr hst];simp
    clear hst
    rw [hfin] at Hr
    have HF:=qA Hr
    clear Hr
    have hhl:=hok.hart.len
    go_upto_region 9 with(fail)
    try go_simp
    refine Ad 109 2 111 [0,1,2,3,4,5,6] (by kernel_rfl) (by kernel_rfl) (by kernel_rfl) rfl ?_
    repeat'(first
     |refine rZ ?_
     |(refine' oR _ (by decide) (by decide) (by decide) (fun wq hwq K hK=>?_) ?_ ?_;rotate_left 1;(· first | ((refine E3 30 _ rfl w.heap.size rfl 30 _ _ (hH.ext hwq) Tryz.underlying30 rfl (Ca hhl) ?_;exact hK)) | (go_wp2_with(fail);all_goals exact hK));rfl)
     |fail)
    refine oS (fun w1 hw1 K1 hK1=>?_)
    have hR1:Blk w1 (w.heap.size+1) 30 Eq.cells:=by rw [hw1];exact hR.ext (qB _ _).drew
    have hM1:=Cj hM (w':=w1) (by rw [hw1];exact(qB _ _).drew)
    have hL1:=Cj hL (w':=w1) (by rw [hw1];exact(qB _ _).drew)
    have hb1:Below w.heap.size w w1:=by rw [hw1];exact hb.drew
    clear hw1
    refine Ch 30 _ _ rfl (w.heap.size+1) 0 h'.cells rfl rfl 30 _ hR1 (Ca hhl) (by rw [Aq.cells_size hhl];decide) (Fp h') ?_
    intro w2 hB2 hg2
    rw [Jn _ _ (by rw [Aq.cells_size hhl];rfl)] at hB2
    refine hK1 _ _ (fun _=>True) trivial ?_
    simp only [Act.put,sA,sS,sZ]
    refine rO ?_
    refine Aj ?_
    rintro w3 rfl
    go_wp2
    refine bodyPost_ret (Gq (x := .slice AL k cL) (y := .slice A3 m.length cap3) (z := .int .i64 0) rfl rfl rfl rfl rfl (Jr hhl hB2)) rfl ?_
    have e1:=congrArg (·.1) HF.out
    have e2:=congrArg (·.2.1) HF.out
    have e3:=congrArg (·.2.2) HF.out
    dsimp only at e1 e2 e3
    refine⟨AL,cL,A3,cap3,?_,below_grown hb1 hg2 hb1.size (by omega),?_,?_⟩
    ·rw [e1,e2,←Dq.len hL1]
    ·rw [e1,←Dq.len hL1]
     exact Lp (Tu hL1 hg2 (by omega)) (by omega)
    ·rw [e3]
     exact Lp (Tu hM1 hg2 (by omega)) (by omega)
  ·obtain rfl:k=N:=by omega
   have t1:decide ((k:Int)<(k:Int))=false:=by simp
   have hfin:(ls++(Cz (k - k) h' m').1,(Cz (k - k) h' m').2)=(ls,h',m'):=by rw [Nat.sub_self];simp [Cz]
   rw [hfin] at Hr
   have HF:=qA Hr
   clear Hr
   have hhl:=hok.hart.len
   go_upto_region 9 with(fail)
   try go_simp
   refine Ad 109 2 111 [0,1,2,3,4,5,6] (by kernel_rfl) (by kernel_rfl) (by kernel_rfl) rfl ?_
   repeat'(first
    |refine rZ ?_
    |(refine' oR _ (by decide) (by decide) (by decide) (fun wq hwq K hK=>?_) ?_ ?_;rotate_left 1;(· first | ((refine E3 30 _ rfl w.heap.size rfl 30 _ _ (hH.ext hwq) Tryz.underlying30 rfl (Ca hhl) ?_;exact hK)) | (go_wp2_with(fail);all_goals exact hK));rfl)
    |fail)
   refine oS (fun w1 hw1 K1 hK1=>?_)
   have hR1:Blk w1 (w.heap.size+1) 30 Eq.cells:=by rw [hw1];exact hR.ext (qB _ _).drew
   have hM1:=Cj hM (w':=w1) (by rw [hw1];exact(qB _ _).drew)
   have hL1:=Cj hL (w':=w1) (by rw [hw1];exact(qB _ _).drew)
   have hb1:Below w.heap.size w w1:=by rw [hw1];exact hb.drew
   clear hw1
   refine Ch 30 _ _ rfl (w.heap.size+1) 0 h'.cells rfl rfl 30 _ hR1 (Ca hhl) (by rw [Aq.cells_size hhl];decide) (Fp h') ?_
   intro w2 hB2 hg2
   rw [Jn _ _ (by rw [Aq.cells_size hhl];rfl)] at hB2
   refine hK1 _ _ (fun _=>True) trivial ?_
   simp only [Act.put,sA,sS,sZ]
   refine rO ?_
   refine Aj ?_
   rintro w3 rfl
   go_wp2
   refine bodyPost_ret (Gq (x := .slice AL k cL) (y := .slice A3 m.length cap3) (z := .int .i64 0) rfl rfl rfl rfl rfl (Jr hhl hB2)) rfl ?_
   have e1:=congrArg (·.1) HF.out
   have e2:=congrArg (·.2.1) HF.out
   have e3:=congrArg (·.2.2) HF.out
   dsimp only at e1 e2 e3
   refine⟨AL,cL,A3,cap3,?_,below_grown hb1 hg2 hb1.size (by omega),?_,?_⟩
   ·rw [e1,e2,←Dq.len hL1]
   ·rw [e1,←Dq.len hL1]
    exact Lp (Tu hL1 hg2 (by omega)) (by omega)
   ·rw [e3]
    exact Lp (Tu hM1 hg2 (by omega)) (by omega)
end Go.Proofs.YtapgojgcmlnbgaaGreatDoor
