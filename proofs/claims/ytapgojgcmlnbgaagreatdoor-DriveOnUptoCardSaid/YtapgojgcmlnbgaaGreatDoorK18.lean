/- Parts of a proof. -/
import Derived.Test.YtapgojgcmlnbgaaGreatDoorK15
import Derived.Test.YtapgojgcmlnbgaaGreatDoorK16
import Derived.Test.YtapgojgcmlnbgaaGreatDoorK17
import Derived.Test.YtapgojgcmlnbgaaGreatDoorK02
import Derived.Test.YtapgojgcmlnbgaaGreatDoorK09
import Derived.Test.YtapgojgcmlnbgaaGreatDoorK12
import Derived.Test.YtapgojgcmlnbgaaGreatDoorK14
import Derived.Test.YtapgojgcmlnbgaaGreatDoorK00
import Derived.Test.YtapgojgcmlnbgaaGreatDoorProg
import Derived.WalkLawsBesides
import Derived.WalkSpells
import Derived.Lib.Hide
import Derived.Deep.RegionHeld
import Derived.Deep.RegionHeld3
set_option linter.unusedSimpArgs false
set_option linter.unusedVariables false
set_option maxRecDepth 100000
set_option maxHeartbeats 16000000
namespace Go.Proofs.YtapgojgcmlnbgaaGreatDoor
open Go Go.RowKit
section
variable {B:Nat} {w:World} {g p:Nat} {C:Core} {L:Lay} {ps:List Nat} {cs:Array Value}
theorem V6 (h:Af B w g C L ps cs) (hI:Inv C) (hq:C.seq≤4611686018427387904) (ht:0≤C.taken∧C.taken≤4611686018427387904) :
  Calls Tryz.prog 40 #[.pointer (some ⟨g,0,none⟩)] w (Qs B w g (Bt C)):=by
 by_cases hn:C.still=true∨C.names.free=[]
 ·exact Agk h hn
 have hst:C.still=false:=by
  rcases e:C.still with _ | _
  ·rfl
  ·exact absurd (Or.inl e) hn
 have hfr:C.names.free≠[]:=fun e=>hn (Or.inr e)
 cases hp:I8 C.slots C.window C.seq with
 |none=>exact Abn h hI.fine hst hfr hp
 |some sl=>
  obtain⟨⟨i,c⟩,hsn⟩:∃ f,Jc C=f:=⟨_,rfl⟩
  by_cases hc:c=0
  ·subst hc
   rcases hgv:Bf i with _ | _
   ·exact Y8 h hI hst hfr hp hq ht hsn hgv
   ·exact Abo h hI hst hfr hp hq ht hsn hgv
  ·exact Aet h hI hst hfr hp hq ht hsn hc
end
section
variable {B:Nat} {w:World} {g p:Nat} {C:Core} {L:Lay} {ps:List Nat} {cs:Array Value}
theorem W9 (h:Af B w g C L ps cs) (hI:Inv C) {k:Nat} (hk:k<C.ops.length) (h1:(C.op k).state=1) (hp:ps[k]? = some p) (hq:C.seq≤4611686018427387904) (hb1:0≤C.backs) (hb2:C.backs<4611686018427387904) :
  Calls Tryz.prog 38 #[.pointer (some ⟨g,0,none⟩), .pointer (some ⟨p,0,none⟩)] w (Qv B w g (B3 C k)):=by
 obtain⟨e1,e2⟩:=X7 hk
 rw [Amb hk] at h1
 have hp':ps[(C.ops.take k).length]? = some p:=by rw [e2];exact hp
 rcases hl:Bo (C.ops[k]).ins with _ | _
 ·have:=U4 h hI e1 h1 hl hp' hq hb1 hb2
  rw [e2] at this
  exact this
 ·have:=U5 h hI e1 h1 hl hp' hq hb1 hb2
  rw [e2] at this
  exact this
theorem Aem (h:Af B w g C L ps cs) (hG:Good C) {N:Int} (hB:Bd C N) (hN:N≤900000) (hs:∀ x∈C.script,x≤9223372036854775807) :
  Calls Tryz.prog 22 #[.pointer (some ⟨g,0,none⟩)] w (Qv B w g (Cc C)):=by
 obtain⟨now,hnow⟩:∃ now,C.cycles=now:=⟨_,rfl⟩
 have hbc:=hB.cycles
 have k40:w.cell? ⟨g,40,none⟩=some (.int .i64 now):=by
  have:=h.cell h.cells.cycles
  rw [hnow] at this
  exact this
 have f40:=h.blk.frozen 40
 have zg:=h.lt
 rw [hnow] at hbc
 obtain⟨C0,hC0⟩:∃ C0,C0=({ C with cycles:=now+1 }:Core):=⟨_,rfl⟩
 have hG0:Good C0:=by
  have:=Rj hG
  rw [hnow] at this
  rw [hC0]
  exact this
 have hB0:Bd C0 (N+1):=by
  rw [hC0]
  have hh:=hB.mono (M:=N+1) (by omega)
  exact⟨hh.seq,hh.taken,hh.backs,hh.coms,by show 0≤now+1∧now+1≤N+1;omega⟩
 have hs0:∀ x∈C0.script,x≤9223372036854775807:=by rw [hC0];exact hs
 have h0:=h.set 40 (.int .i64 (now+1)) (h.cells.set_cycles (now+1)) h.rows
 have HJ0:Hid (Af B (w.setCell ⟨g,40,none⟩ (.int .i64 (now+1))) g C0 L ps (cs.setIfInBounds 40 (.int .i64 (now+1)))∧Ah B w (w.setCell ⟨g,40,none⟩ (.int .i64 (now+1)))):=Lib.hid ⟨by rw [hC0];exact h0,h.turned (grownBy_setCell w ⟨g,40,none⟩ (.int .i64 (now+1)))⟩
 obtain⟨Y,hY⟩:∃ Y,Cc C=Y:=⟨_,rfl⟩
 have hYd:(Bu C0).hart.state≠0→Y=Bu C0:=fun hh=>by
  rw [←hY]
  unfold Cc
  dsimp only
  rw [hnow,←hC0,if_pos hh]
 have hYe:(Bu C0).hart.state=0→Y=fetchAll (beginAll (finishAll (Bu C0).ops.length 0 now (Bu C0)).ops.length 0 0 now (finishAll (Bu C0).ops.length 0 now (Bu C0))).wide.toNat (beginAll (finishAll (Bu C0).ops.length 0 now (Bu C0)).ops.length 0 0 now (finishAll (Bu C0).ops.length 0 now (Bu C0))):=fun hh=>by
  rw [←hY]
  unfold Cc
  dsimp only
  rw [hnow,←hC0,if_neg (fun hx=>hx hh)]
 obtain⟨kk,_,_,hgd,_,_⟩:=O6 hG0
 have hB1:Bd (Bu C0) (N+5):=(hB0.commit (by have:=hG0.inv.cfg;omega)).mono (by omega)
 have hs1:∀ x∈(Bu C0).script,x≤9223372036854775807:=by rw [M4];exact hs0
 have hhl:(Bu C0).hart.regs.length=32:=Wc _ _ hG0.inv.hart.len
 have CM:=Lib.hid (fun W cs' (hh:Af B W g C0 L ps cs')=>Abd hh hG0 (by have:=hB0.coms;omega))
 rw [hY]
 generalize Bu C0=C1 at *
 have HYD:=Lib.hid hYd
 have HYE:=Lib.hid hYe
 have HGD:=Lib.hid hgd
 have HHL:=Lib.hid hhl
 have HB1:=Lib.hid hB1
 have HS1:=Lib.hid hs1
 clear h hG hB hs hG0 hB0 hs0 h0 hY hYd hYe hgd hB1 hs1 hhl hC0 hnow
 go_enter Tryz.func22,Tryz.ntmps22
 go_upto_region 2 with(fail)
 go_simp
 clear k40 f40 zg
 generalize w.setCell ⟨g,40,none⟩ (.int .i64 (now+1))=w0 at *
 go_upto_region 3 with(go_at_call 37;(with_reducible refine(CM.out _ _ HJ0.out.1).mono ?_);rintro e w1 ⟨rfl,ht1,L1,ps1,cs1,h1⟩;have HJ1:=Lib.hid (And.intro h1 (HJ0.out.2.trans ht1));clear h1 ht1)
 go_simp
 clear CM HJ0
 have q37:w1.cell? ⟨g,37,none⟩=some (.int .i64 C1.hart.state):=HJ1.out.1.hstate HHL.out
 have z1:=HJ1.out.1.lt
 by_cases qs:C1.hart.state=0
 rotate_left
 ·have e3:(C1.hart.state != 0)=true:=by simpa using qs
  have HX:Hid (Y=C1):=Lib.hid (HYD.out qs)
  clear qs HYD HYE HGD
  go_wp2_with(fail)
  refine bodyPost_ret (results_none rfl _ _ _) rfl ?_
  exact⟨rfl,HJ1.out.2,_,_,_,by rw [HX.out];exact HJ1.out.1⟩
 have e3:(C1.hart.state != 0)=false:=by simpa using qs
 have hG1:Good C1:=by
  rcases HGD.out with hh | hh
  ·exact absurd qs hh
  ·exact hh
 obtain⟨S,hS⟩:∃ S,C1.script=S:=⟨_,rfl⟩
 have HSS:Hid (∀ x∈S,x≤9223372036854775807):=Lib.hid (by rw [←hS];exact HS1.out)
 have hYE:=HYE.out qs
 obtain⟨C2,hC2⟩:∃ C2,finishAll C1.ops.length 0 now C1=C2:=⟨_,rfl⟩
 rw [hC2] at hYE
 have HYE2:=Lib.hid hYE
 have HL1:Hid (Lp1 C1 C2 0 C1.ops.length now (N+5) S):=Lib.hid ⟨hG1,hC2,by omega,HB1.out.mono (by omega),fun x hx=>by rw [←hS];exact hx⟩
 clear qs HYD HYE HGD hG1 hS hYE hC2 HB1 HS1 HHL
 go_upto_region 5 with(fail)
 clear q37 z1 e3
 go_loopw [3,4] (fun v3 v4 wr=>∃ (k r:Nat) (X:Core) (LX:Lay) (px:List Nat) (cx:Array Value),v3 = .int .i64 k∧k≤32∧Hid (Af B wr g X LX px cx∧Ah B w wr)∧Hid (Lp1 X C2 k r now (N+5) S)) (fun v _ _=>33 - (intOf v).toNat)
 case atStart=>exact⟨0,_,_,_,_,_,rfl,by omega,HJ1,HL1⟩
 case round=>
  clear HJ1 HL1
  obtain⟨k,r,X,LX,px,cx,rfl,hk32,HR,HL⟩:=hrel
  have hpl:=HR.out.1.rows.uops.len
  have hol:=HL.out.good.inv.lens.1
  obtain⟨A,n,hvo,hno1,hno2,hno3⟩:=Ff HR.out.1.rows.ptrs
  have c335:wr.cell? ⟨g,335,none⟩=some (.slice A px.length n):=by rw [←hvo];exact HR.out.1.ops
  have zg:=HR.out.1.lt
  obtain⟨m,hm⟩:∃ m,px.length=m:=⟨_,rfl⟩
  have HMP:=Lib.hid hm
  have HMO:=Lib.hid (show X.ops.length=m by rw [←hpl];exact hm)
  have hm32:m≤32:=by omega
  rw [hm] at c335 hno1
  have HVO:=Lib.hid hvo
  clear hpl hol hvo hno3 hm
  by_cases hlt:k<m
  ·have hkx:k<X.ops.length:=by rw [HMO.out];exact hlt
   have hkp:k<px.length:=by rw [HMP.out];exact hlt
   have hrow:=HR.out.1.rows.ptrs
   rw [HVO.out] at hrow
   obtain⟨bP,oP,rfl,zP,cP⟩:=G1 hrow hkp
   have hpk:px[k]? = some px[k]:=List.getElem?_eq_getElem hkp
   have hu:=(HR.out.1.uop_at hpk).1
   have HPK:=Lib.hid hpk
   obtain⟨q,hq⟩:∃ q,px[k]=q:=⟨_,rfl⟩
   rw [hq] at cP hu HPK
   have c1:wr.cell? ⟨q,1,none⟩=some (.int .i64 (X.op k).state):=hu.cell 1
   have c2:wr.cell? ⟨q,2,none⟩=some (.int .i64 (X.op k).ready):=hu.cell 2
   have zq:=hu.lt
   have HKX:=Lib.hid hkx
   clear hkx hkp hrow hpk hu hq
   by_cases hy:(X.op k).state=1∧(X.op k).ready≤now
   ·obtain⟨r',hl2⟩:=HL.out.step HKX.out hy
    have HL2:=Lib.hid hl2
    have CC:=Lib.hid (W9 HR.out.1 HL.out.good.inv HKX.out hy.1 HPK.out (by have:=HL.out.bd.seq;omega) HL.out.bd.backs.1 (by have:=HL.out.bd.backs;omega))
    have e1:((X.op k).state==1)=true:=by simpa using hy.1
    have e2:decide ((X.op k).ready≤now)=true:=decide_eq_true hy.2
    clear hy hl2
    go_wp2_with(go_at_call 38;(with_reducible refine CC.out.mono ?_);rintro e w2 ⟨rfl,ht2,L2,ps2,cs2,h2⟩;have HJ2:=Lib.hid (And.intro h2 (HR.out.2.trans ht2));clear h2 ht2)
    go_roundw
    case rel=>exact⟨k+1,r',_,_,_,_,by go_num,by omega,HJ2,HL2⟩
    case measure=>simp [intOf];omega
   ·obtain⟨r',hl2⟩:=HL.out.skip HKX.out hy
    have HL2:=Lib.hid hl2
    have hy2:(X.op k).state≠1∨((X.op k).state=1∧¬ (X.op k).ready≤now):=by
     by_cases h1:(X.op k).state=1
     ·exact Or.inr ⟨h1,fun h2=>hy ⟨h1,h2⟩⟩
     ·exact Or.inl h1
    clear hy hl2
    rcases hy2 with hy | ⟨hy1,hy2⟩
    ·have e1:((X.op k).state==1)=false:=by simpa using hy
     clear hy
     go_wp2_with(fail)
     go_roundw
     case rel=>exact⟨k+1,r',_,_,_,_,by go_num,by omega,HR,HL2⟩
     case measure=>simp [intOf];omega
    ·have e1:((X.op k).state==1)=true:=by simpa using hy1
     have e2:decide ((X.op k).ready≤now)=false:=decide_eq_false hy2
     clear hy1 hy2
     go_wp2_with(fail)
     go_roundw
     case rel=>exact⟨k+1,r',_,_,_,_,by go_num,by omega,HR,HL2⟩
     case measure=>simp [intOf];omega
  ·have HX:Hid (C2=X):=Lib.hid (HL.out.stop (by rw [HMO.out];omega))
   have e1:decide (k<m)=false:=decide_eq_false hlt
   obtain⟨C3,hC3⟩:∃ C3,beginAll C2.ops.length 0 0 now C2=C3:=⟨_,rfl⟩
   have HYE3:Hid (Y=fetchAll C3.wide.toNat C3):=Lib.hid (by rw [←hC3];exact HYE2.out)
   have HL2:Hid (Lp2 X C3 0 X.ops.length 0 now (N+70) S):=Lib.hid ⟨HL.out.good,by rw [←hC3,HX.out],by omega,HL.out.bd.mono (by omega),HL.out.sub⟩
   clear hC3 HYE2 HX HL HMP HMO HVO hno1 hno2 hm32 hlt hk32
   go_upto_region 12 with(fail)
   clear c335 zg e1
   go_loopw [5,6] (fun v5 v6 wx=>∃ (k r s:Nat) (X:Core) (LX:Lay) (px:List Nat) (cx:Array Value),v6 = .int .i64 k∧v5 = .int .i64 s∧s≤k∧k≤32∧Hid (Af B wx g X LX px cx∧Ah B w wx)∧Hid (Lp2 X C3 k r s now (N+70) S)) (fun _ v _=>33 - (intOf v).toNat)
   case atStart=>exact⟨0,_,0,_,_,_,_,rfl,rfl,by omega,by omega,HR,HL2⟩
   case round=>
    clear HR HL2
    obtain⟨k,r,s,X,LX,px,cx,rfl,rfl,hsk,hk32,HR,HL⟩:=hrel
    have hpl:=HR.out.1.rows.uops.len
    have hol:=HL.out.good.inv.lens.1
    obtain⟨A,n,hvo,hno1,hno2,hno3⟩:=Ff HR.out.1.rows.ptrs
    have c335:wr.cell? ⟨g,335,none⟩=some (.slice A px.length n):=by rw [←hvo];exact HR.out.1.ops
    have zg:=HR.out.1.lt
    obtain⟨m,hm⟩:∃ m,px.length=m:=⟨_,rfl⟩
    have HMP:=Lib.hid hm
    have HMO:=Lib.hid (show X.ops.length=m by rw [←hpl];exact hm)
    have hm32:m≤32:=by omega
    rw [hm] at c335 hno1
    have HVO:=Lib.hid hvo
    have q2:wr.cell? ⟨g,2,none⟩=some (.int .i64 X.wide):=HR.out.1.cell HR.out.1.cells.wide
    clear hpl hol hvo hno3 hm
    by_cases hlt:k<m
    ·have e0:decide (k<m)=true:=decide_eq_true hlt
     by_cases hsw:(s:Int)<X.wide
     ·have e2:decide ((s:Int)<X.wide)=true:=decide_eq_true hsw
      have hkx:k<X.ops.length:=by rw [HMO.out];exact hlt
      have hkp:k<px.length:=by rw [HMP.out];exact hlt
      have h0p:0<px.length:=by omega
      have hrow:=HR.out.1.rows.ptrs
      rw [HVO.out] at hrow
      obtain⟨b0,o0,e00,z0,c00⟩:=G1 hrow h0p
      obtain⟨bP,oP,rfl,zP,cP⟩:=G1 hrow hkp
      injection e00 with e00
      injection e00 with e01 e02 e03
      subst e01 e02
      clear e03
      rw [Nat.add_zero] at c00
      have hpk:px[k]? = some px[k]:=List.getElem?_eq_getElem hkp
      have hp0:px[0]? = some px[0]:=List.getElem?_eq_getElem h0p
      have hu0:=(HR.out.1.uop_at hp0).1
      have HPK:=Lib.hid hpk
      obtain⟨q,hq⟩:∃ q,px[k]=q:=⟨_,rfl⟩
      obtain⟨q0,hq0⟩:∃ q0,px[0]=q0:=⟨_,rfl⟩
      rw [hq] at cP HPK
      rw [hq0] at c00 hu0
      have d0:wr.cell? ⟨q0,0,none⟩=some (.int .i64 (X.op 0).seq):=hu0.cell 0
      have zq0:=hu0.lt
      obtain⟨r',hl2⟩:=HL.out.step hkx hsw
      have HL2:=Lib.hid hl2
      have hnb:=HL.out.bd.cycles
      have CB:=Lib.hid (fun W (hb:Below wr.heap.size wr W)=>Ad2 (HR.out.1.ext hb) HL.out.good.inv HPK.out now (X.op 0).seq (by omega) (by omega) (fun x hx=>HSS.out x (HL.out.sub x hx)))
      have hm0:0<m:=by omega
      clear hkx hkp h0p hrow hpk hp0 hu0 hq hq0 hl2 hnb hsw
      go_upto_region 14 with(fail)
      go_simp
      refine Ad 110447 151696 262143 [0,1,2,3,4,5,6,7,8,9,10,11,12,13,14,15,16,17,18] (by kernel_rfl) (by kernel_rfl) (by kernel_rfl) rfl ?_
      refine rR (fun wq hwq=>i2 (hwq.at_ zg c335) (i2 (hwq.at_ zP cP) (i2 (hwq.at_ zP c00) (hwq.at_ zq0 d0)))) ?_
      refine oS (fun w2 hw2 K1 hK1=>?_)
      have hb2:Below wr.heap.size wr w2:=by rw [hw2];exact(Below.refl _ _).drew
      clear hw2
      generalize hbb:(B7 X k now (X.op 0).seq).1=bb at *
      go_wp2_with(go_at_call 39;(with_reducible refine(CB.out w2 hb2).mono ?_);rintro e w3 ⟨rfl,ht3,L3,cs3,h3⟩;have HJ3:=Lib.hid (And.intro h3 ((HR.out.2.trans (Ah.below (B:=B) hb2)).trans ht3));clear h3 ht3)
      refine hK1 _ _ (fun _=>True) trivial ?_
      simp only [Act.put,sA,sS,sZ]
      clear hK1 K1 CB
      refine Ai ?_
      rintro w4 hw4
      rw [←hw4] at HJ3
      clear hw4 hb2 c335 cP c00 d0 q2 zg zP z0 zq0
      rcases bb with _ | _
      ·rw [if_neg (by decide)] at HL2
       go_wp2_with(fail)
       go_roundw
       case rel=>exact⟨k+1,r',s,_,_,_,_,by go_num,rfl,by omega,by omega,HJ3,HL2⟩
       case measure=>simp [intOf];omega
      ·rw [if_pos rfl] at HL2
       go_wp2_with(fail)
       go_roundw
       case rel=>exact⟨k+1,r',s+1,_,_,_,_,by go_num,by go_num,by omega,by omega,HJ3,Lib.hid (by have:=HL2.out;simpa using this)⟩
       case measure=>simp [intOf];omega
     ·have e2:decide ((s:Int)<X.wide)=false:=decide_eq_false hsw
      have HSW:=Lib.hid (show X.wide≤(s:Int) by omega)
      clear hsw
      have HX3:Hid (C3=X):=Lib.hid (HL.out.stop (fun hh=>by have:=HSW.out;omega))
      have hG3:=HL.out.good
      have hcf:=hG3.inv.cfg.2
      obtain⟨wn,hwn⟩:=Int.eq_ofNat_of_zero_le (show 0≤X.wide by omega)
      have HWN:=Lib.hid hwn
      have hwn4:wn≤4:=by omega
      have HL3:Hid (Lp3 X Y wn (N+80) S):=Lib.hid ⟨hG3,by
       have h1:=HYE3.out
       rw [HX3.out,hwn,Int.toNat_natCast] at h1
       exact h1.symm,HL.out.bd.mono (by omega),HL.out.sub⟩
      clear hG3 hcf hwn HL HX3 HYE3
      go_upto_region 17 with(fail)
      clear c335 zg
      go_loopw [7] (fun v7 wx=>∃ (k r:Nat) (X:Core) (LX:Lay) (px:List Nat) (cx:Array Value),v7 = .int .i64 k∧k+r=wn∧Hid (X.wide=wn)∧Hid (Af B wx g X LX px cx∧Ah B w wx)∧Hid (Lp3 X Y r (N+80) S)) (fun v _=>6 - (intOf v).toNat)
      case atStart=>exact⟨0,wn,_,_,_,_,rfl,by omega,HWN,HR,HL3⟩
      case round=>
       clear HR HL3 HWN
       obtain⟨k,r,X,LX,px,cx,rfl,hkr,HW,HR,HL⟩:=hrel
       have q2:wr.cell? ⟨g,2,none⟩=some (.int .i64 (wn:Int)):=by
        have h1:=HR.out.1.cell HR.out.1.cells.wide
        rw [HW.out] at h1
        exact h1
       have zg:=HR.out.1.lt
       by_cases hlt:k<wn
       ·obtain⟨r2,rfl⟩:∃ r2,r=r2+1:=⟨r - 1,by omega⟩
        have e1:decide (k<wn)=true:=decide_eq_true hlt
        have hbd:=HL.out.bd
        have hb1:=hbd.seq
        have hb2:=hbd.taken
        have CF:=Lib.hid (V6 HR.out.1 HL.out.good.inv (by omega) ⟨by omega,by omega⟩)
        have HWF:Hid ((Bt X).2.wide=wn):=Lib.hid ((Jw HL.out.good 0).mid.wide.trans HW.out)
        clear hbd hb1 hb2
        rcases hfc:(Bt X).1 with _ | _
        ·have HX:=Lib.hid (HL.out.last hfc)
         have HFC:=Lib.hid hfc
         clear hfc
         go_wp2_with(go_at_call 40;(with_reducible refine CF.out.mono ?_);intro e w2 hpost;obtain⟨he,ht2,L2,ps2,cs2,h2⟩:=hpost;rw [HFC.out] at he;subst he;have HJ2:=Lib.hid (And.intro h2 (HR.out.2.trans ht2));clear h2 ht2)
         refine bodyPost_end (results_none rfl _ _ _) rfl ?_
         exact⟨rfl,HJ2.out.2,_,_,_,by rw [HX.out];exact HJ2.out.1⟩
        ·have HL2:=Lib.hid (HL.out.step hfc)
         have HFC:=Lib.hid hfc
         clear hfc
         go_wp2_with(go_at_call 40;(with_reducible refine CF.out.mono ?_);intro e w2 hpost;obtain⟨he,ht2,L2,ps2,cs2,h2⟩:=hpost;rw [HFC.out] at he;subst he;have HJ2:=Lib.hid (And.intro h2 (HR.out.2.trans ht2));clear h2 ht2)
         go_roundw
         case rel=>exact⟨k+1,r2,_,_,_,_,by go_num,by omega,HWF,HJ2,HL2⟩
         case measure=>simp [intOf];omega
       ·have e1:decide (k<wn)=false:=decide_eq_false hlt
        obtain rfl:r=0:=by omega
        have HX:Hid (Y=X):=Lib.hid HL.out.goes.symm
        clear HL
        go_wp2_with(fail)
        refine bodyPost_end (results_none rfl _ _ _) rfl ?_
        exact⟨rfl,HR.out.2,_,_,_,by rw [HX.out];exact HR.out.1⟩
    ·have e0:decide (k<m)=false:=decide_eq_false hlt
     have HX3:Hid (C3=X):=Lib.hid (HL.out.stop (fun hh=>by have:=HMO.out;omega))
     have hG3:=HL.out.good
     have hcf:=hG3.inv.cfg.2
     obtain⟨wn,hwn⟩:=Int.eq_ofNat_of_zero_le (show 0≤X.wide by omega)
     have HWN:=Lib.hid hwn
     have hwn4:wn≤4:=by omega
     have HL3:Hid (Lp3 X Y wn (N+80) S):=Lib.hid ⟨hG3,by
      have h1:=HYE3.out
      rw [HX3.out,hwn,Int.toNat_natCast] at h1
      exact h1.symm,HL.out.bd.mono (by omega),HL.out.sub⟩
     clear hG3 hcf hwn HL HX3 HYE3
     go_upto_region 17 with(fail)
     clear c335 zg
     go_loopw [7] (fun v7 wx=>∃ (k r:Nat) (X:Core) (LX:Lay) (px:List Nat) (cx:Array Value),v7 = .int .i64 k∧k+r=wn∧Hid (X.wide=wn)∧Hid (Af B wx g X LX px cx∧Ah B w wx)∧Hid (Lp3 X Y r (N+80) S)) (fun v _=>6 - (intOf v).toNat)
     case atStart=>exact⟨0,wn,_,_,_,_,rfl,by omega,HWN,HR,HL3⟩
     case round=>
      clear HR HL3 HWN
      obtain⟨k,r,X,LX,px,cx,rfl,hkr,HW,HR,HL⟩:=hrel
      have q2:wr.cell? ⟨g,2,none⟩=some (.int .i64 (wn:Int)):=by
       have h1:=HR.out.1.cell HR.out.1.cells.wide
       rw [HW.out] at h1
       exact h1
      have zg:=HR.out.1.lt
      by_cases hlt:k<wn
      ·obtain⟨r2,rfl⟩:∃ r2,r=r2+1:=⟨r - 1,by omega⟩
       have e1:decide (k<wn)=true:=decide_eq_true hlt
       have hbd:=HL.out.bd
       have hb1:=hbd.seq
       have hb2:=hbd.taken
       have CF:=Lib.hid (V6 HR.out.1 HL.out.good.inv (by omega) ⟨by omega,by omega⟩)
       have HWF:Hid ((Bt X).2.wide=wn):=Lib.hid ((Jw HL.out.good 0).mid.wide.trans HW.out)
       clear hbd hb1 hb2
       rcases hfc:(Bt X).1 with _ | _
       ·have HX:=Lib.hid (HL.out.last hfc)
        have HFC:=Lib.hid hfc
        clear hfc
        go_wp2_with(go_at_call 40;(with_reducible refine CF.out.mono ?_);intro e w2 hpost;obtain⟨he,ht2,L2,ps2,cs2,h2⟩:=hpost;rw [HFC.out] at he;subst he;have HJ2:=Lib.hid (And.intro h2 (HR.out.2.trans ht2));clear h2 ht2)
        refine bodyPost_end (results_none rfl _ _ _) rfl ?_
        exact⟨rfl,HJ2.out.2,_,_,_,by rw [HX.out];exact HJ2.out.1⟩
       ·have HL2:=Lib.hid (HL.out.step hfc)
        have HFC:=Lib.hid hfc
        clear hfc
        go_wp2_with(go_at_call 40;(with_reducible refine CF.out.mono ?_);intro e w2 hpost;obtain⟨he,ht2,L2,ps2,cs2,h2⟩:=hpost;rw [HFC.out] at he;subst he;have HJ2:=Lib.hid (And.intro h2 (HR.out.2.trans ht2));clear h2 ht2)
        go_roundw
        case rel=>exact⟨k+1,r2,_,_,_,_,by go_num,by omega,HWF,HJ2,HL2⟩
        case measure=>simp [intOf];omega
      ·have e1:decide (k<wn)=false:=decide_eq_false hlt
       obtain rfl:r=0:=by omega
       have HX:Hid (Y=X):=Lib.hid HL.out.goes.symm
       clear HL
       go_wp2_with(fail)
       refine bodyPost_end (results_none rfl _ _ _) rfl ?_
       exact⟨rfl,HR.out.2,_,_,_,by rw [HX.out];exact HR.out.1⟩
end
end Go.Proofs.YtapgojgcmlnbgaaGreatDoor
namespace Go.Proofs.YtapgojgcmlnbgaaGreatDoor
open Go.RowKit
theorem Od:(Tryz.prog.info? 5).map (fun i=>(i.zero,i.size,i.bytes))=some (some (.int .u8 0),1,1):=by kernel_rfl
theorem M1 (A:Option Addr) (n cap:Nat) (cs:List Value) (w:World) (hl:n*1≤140737488355328) (hlen:cs.length=n*1) (h1:∀ u∈cs,u.oneCell'=true)
  (hc:∀ ad,A=some ad→∀ j u,cs[j]? = some u→w.cell? (ad.add j)=some u) (hnil:A=none→n=0) :
  Calls Tryz.prog 19 #[.slice A n cap] w fun e w'=>∃ v,e = .returned v∧w'.ownsRow w.heap.size 5 1 v n cs∧Below w.heap.size w w':=by
 rcases A with _ | ad
 ·obtain rfl:=hnil rfl
  obtain rfl:cs=[]:=List.eq_nil_of_length_eq_zero (by simpa using hlen)
  have hn:=Lib.run_eql_slice_nil (P:=Tryz.prog) w 31 5 none 0 cap 0 0 Tryz.underlying31
  go_enter Tryz.func19,Tryz.ntmps19
  go_wp2
  go_ret
  exact⟨_,rfl,World.ownsRow_nil _ _ _ _,Below.refl _ _⟩
 ·have hn:=Lib.run_eql_slice_nil (P:=Tryz.prog) w 31 5 (some ad) n cap 0 0 Tryz.underlying31
  obtain⟨i0,hi,hz0,hz1,hz2⟩:=info_parts Od
  have Hc:=Lib.hid (hc ad rfl)
  clear hc hnil
  have hown0:=World.ownsRow_lit (base:=w.heap.size) (e:=5) (size:=1) w #[] 0 (Nat.le_refl _) (by unfold maxLen;omega) rfl
  go_enter Tryz.func19,Tryz.ntmps19
  go_wp2_with(at_builtin;refine wpList_append_own _ rfl (.tmp 5) (.tmp 6) 31 rfl w.heap.size 5 i0 _ 1 1 Tryz.underlying31 hi hz0 hz1 hz2 rfl (by decide) _ 0 [] rfl hown0 ad n cap cs rfl hlen (fun j u hu=>(World.cell?_alloc_lt _ _ _ (World.block_lt_of_cell? _ _ (Hc.out j u hu))).trans (Hc.out j u hu)) h1 (by unfold maxLen;omega) (by omega) (by simp) ?_;intro v1 w1 hown1 hg1 hat1)
  go_ret
  refine⟨v1,rfl,by simpa using hown1,((Below.refl _ _).alloc (Nat.le_refl _) _).grown hg1 (by simp) (fun k hk=>?_)⟩
  cases hk
  exact Nat.le_refl _
end Go.Proofs.YtapgojgcmlnbgaaGreatDoor
namespace Go.Proofs.YtapgojgcmlnbgaaGreatDoor
open Go Go.RowKit
def Ah8 (w:World) (Y:Core) (e:Ending) (w':World):Prop:=
 Below w.heap.size w w'∧∃ vc vm,e = .returned (.tuple #[.agg (Cr vc Y.hart vm Y.cycles Y.taken Y.backs), .int .i64 0])∧w'.ownsRow w.heap.size 65 11 vc Y.commits.length (Eb Y.commits)∧w'.ownsRow w.heap.size 5 1 vm Y.mem.length (Y.mem.map (.int .u8))
theorem Ahf {w w':World} {base:Nat} {e:TypeId} {size:Nat} {v:Value} {n:Nat} {xs:List Value} (ho:w.ownsRow base e size v n xs) {g:Nat} (k:w.grownBy w' (some g)) (hg:g<base):w'.ownsRow base e size v n xs:=
 ⟨ho.1,ho.2.imp id fun⟨j,cap,cur,e,l,hh,r⟩=>⟨j,cap,cur,e,l,by
  have hj:j<w.heap.size:=by
   rcases Nat.lt_or_ge j w.heap.size with h' | h'
   ·exact h'
   ·rw [Array.getElem?_eq_none h'] at hh;cases hh
  rw [←hh]
  exact k.block j hj (fun e=>by injection e;omega),r⟩⟩
theorem Abf {B:Nat} {w:World} {g:Nat} (hg:B≤g) (a b c pc:Int) {A:Option Addr} {cap:Nat} {sc:List Int} (h1:sc.length≤cap) (h2:cap≤9223372036854775807) (h3:As w B .i64 A sc) (h4:A=none→sc=[]∧cap=0) :
  Cp B w g (Ain (.slice A sc.length cap)) [] (Ol a b c sc pc).commits (Ol a b c sc pc).mem (Ol a b c sc pc).slots (Ol a b c sc pc).access (Ol a b c sc pc).ops (Ol a b c sc pc).names (Ol a b c sc pc).script:=by
 have hz:Kc w Ax.zero none 0:=⟨by decide,by decide,rfl,by decide,by decide,fun h=>absurd rfl h,fun _=>⟨rfl,rfl⟩,by decide⟩
 exact⟨hg,World.ownsRow_nil _ _ _ _,World.ownsRow_nil _ _ _ _,World.ownsRow_nil _ _ _ _,World.ownsRow_nil _ _ _ _,Or.inl ⟨rfl,rfl⟩,⟨rfl,fun i u p h _=>(by cases h),List.nodup_nil⟩,hz,fun h=>absurd rfl h,⟨A,cap,rfl,h1,h2,h3,h4⟩⟩
theorem N8 (A:Option Addr) (n c:Nat) (H:Ap) (A2:Option Addr) (n2 c2:Nat) (cy tk bk:Int):(Cr (.slice A n c) H (.slice A2 n2 c2) cy tk bk).all (·.oneCell')=true:=by
 have h1:=Gx H
 rw [←Array.all_toList] at h1
 unfold Cr
 rw [List.all_toArray,List.all_cons,List.all_append,h1]
 rfl
theorem Rp:(Tryz.prog.info? 49).map (·.size)=some 40:=by kernel_rfl
theorem Ai9 (a b c:Int) (h:Ap) (A:Option Addr) (cap:Nat) (m:List Int) (A2:Option Addr) (cap2:Nat) (sc:List Int) (cycles:Int) (w:World) (ask:Ac4 a b c h m) (hA:As w w.heap.size .u8 A m) (hnil:A=none→m=[])
  (hS:As w w.heap.size .i64 A2 sc) (hSn:A2=none→sc=[]∧cap2=0) (hS1:sc.length≤cap2) (hS2:cap2≤9223372036854775807) (hS3:sc.length≤3000) (hSb:∀ x∈sc,x≤9223372036854775807) (hc0:0≤cycles) (hc1:cycles≤6000) :
  Calls Tryz.prog 13 #[.agg #[.int .i64 a, .int .i64 b, .int .i64 c], .agg h.cells, .slice A m.length cap, .slice A2 sc.length cap2, .int .i64 cycles] w (Ah8 w (Jj a b c h m sc cycles.toNat)):=by
 obtain⟨N,rfl⟩:=Int.eq_ofNat_of_zero_le hc0
 rw [Int.toNat_natCast]
 have hh:=ask.hart.len
 have hroom:=ask.room
 have hpc0:=ask.hart.pc0
 have hpc1:=ask.hart.pc1
 have CC:=Lib.hid (fun W=>M7 a b c W)
 have CM:=Lib.hid (fun W=>Qa h W hh)
 rw [ask.may] at CM
 have hmc:(decide (1≤a)&&decide (a≤32)&&decide (33≤b)&&decide (b≤96)&&decide (1≤c)&&decide (c≤4))=true:=by
  rw [decide_eq_true ask.window.1,decide_eq_true ask.window.2,decide_eq_true ask.phys.1,decide_eq_true ask.phys.2,decide_eq_true ask.wide.1,decide_eq_true ask.wide.2];rfl
 rw [hmc] at CC
 clear hmc
 have f1:decide ((4096:Int)<(m.length:Int))=false:=decide_eq_false (by omega)
 have f2:decide ((3000:Int)<(sc.length:Int))=false:=decide_eq_false (by omega)
 have f3:decide ((N:Int)<0)=false:=decide_eq_false (by omega)
 have f4:decide ((6000:Int)<(N:Int))=false:=decide_eq_false (by omega)
 have CL:=Lib.hid (fun W (hW:As W W.heap.size .u8 A m)=>M1 A m.length cap (m.map (.int .u8)) W (by omega) (by simp) (ints_oneCell _ _) hW.cells (fun e=>by rw [hnil e];rfl))
 obtain⟨Y,hY⟩:∃ Y,Jj a b c h m sc N=Y:=⟨_,rfl⟩
 rw [hY]
 have HY:=Lib.hid hY
 have ASK:=Lib.hid ask
 have HA:=Lib.hid hA
 have HSC:=Lib.hid (And.intro hS (And.intro hSn (And.intro hS1 hS2)))
 have HSB:=Lib.hid hSb
 clear hY ask hA hS hSn hS1 hS2 hSb hc0 hnil
 go_enter Tryz.func13,Tryz.ntmps13
 go_upto_region 1 with(fail)
 go_simp
 refine A4 fun wa hq=>?_
 have hC:Blk wa w.heap.size 26 #[.int .i64 a, .int .i64 b, .int .i64 c]:=by rw [hq];exact((Blk.new w _ _).alloc _).alloc _
 have hH:Blk wa (w.heap.size+1) 30 h.cells:=by rw [hq];exact(Blk.newAt (w.alloc _) 30 _ (by simp)).alloc _
 have hR:Blk wa (w.heap.size+2) 49 Mg:=by rw [hq];exact Blk.newAt ((w.alloc _).alloc _) 49 _ (by simp)
 have hbl:Below w.heap.size w wa:=by rw [hq];exact(((Below.refl _ _).alloc (Nat.le_refl _) _).alloc (by simp) _).alloc (by simp;omega) _
 clear hq
 go_upto_region 8 with(first
  |(refine Ac rfl 26 _ rfl w.heap.size rfl 26 _ _ hC Tryz.underlying26 rfl Yu ?_)
  |(go_at_call 10;(with_reducible refine(CC.out _).mono ?_);rintro e w1 ⟨rfl,hb1⟩;replace hbl:=hbl.trans (hb1.mono hbl.size);replace hR:=hR.ext hb1;replace hH:=hH.ext hb1;replace hC:=hC.ext hb1;clear hb1)
  |(refine O0 rfl fun K hK=>?_;refine Ez 30 _ rfl (w.heap.size+1) rfl 30 _ _ hH Tryz.underlying30 rfl (Cl hh) ?_;refine hK _ _ ?_;clear hK K)
  |(go_at_call 18;(with_reducible refine(CM.out _).mono ?_);rintro e w2 ⟨rfl,hb2⟩;replace hbl:=hbl.trans (hb2.mono hbl.size);replace hR:=hR.ext hb2;replace hH:=hH.ext hb2;replace hC:=hC.ext hb2;clear hb2;have c32:=(hH.cell 32).trans (Ap.cells_pc hh).1;have zH:=hH.lt)
  |(refine Ao rfl 86 _ rfl [(0, .agg #[.int .i64 a, .int .i64 b, .int .i64 c]),(2, .slice A2 sc.length cap2),(11, .int .u32 h.pc)] rfl _ (Yr a b c A2 sc.length cap2 h.pc) ?_))
 go_simp
 refine A4 fun wz hq=>?_
 have e0:(((((Tryz.zeroCells86.setIfInBounds 0 (.int .i64 a)).setIfInBounds 1 (.int .i64 b)).setIfInBounds 2 (.int .i64 c)).setIfInBounds 43 (.slice A2 sc.length cap2)).setIfInBounds 338 (.int .u32 h.pc))=Ks a b c (.slice A2 sc.length cap2) h.pc:=by kernel_rfl
 rw [e0] at hq
 have hG0:Blk wz w2.heap.size 86 (Ks a b c (.slice A2 sc.length cap2) h.pc):=by rw [hq];exact Blk.new w2 _ _
 have hbz:Below w2.heap.size w2 wz:=by rw [hq];exact(Below.refl _ _).alloc (Nat.le_refl _) _
 have zR:=hR.lt
 replace hC:=hC.ext hbz
 replace hH:=hH.ext hbz
 replace hR:=hR.ext hbz
 replace hbl:=hbl.trans (hbz.mono hbl.size)
 obtain⟨g,hg⟩:∃ g,g=w2.heap.size:=⟨_,rfl⟩
 rw [←hg] at hG0 zR ⊢
 have HI0:Hid (Af w.heap.size wz g (Ol a b c sc h.pc) (Ain (.slice A2 sc.length cap2)) [] (Ks a b c (.slice A2 sc.length cap2) h.pc)):=Lib.hid ⟨hbl.size,hG0,Xa a b c _ sc h.pc,Abf (by omega) a b c h.pc HSC.out.2.2.1 HSC.out.2.2.2 (HSC.out.1.below hbl) HSC.out.2.1⟩
 have zg:=hG0.lt
 clear e0 hq hbz hg hG0 c32 f1 f2 f3 f4 CC CM HSC zH
 have HZ:=Lib.hid (And.intro hC (And.intro hH (And.intro hR hbl)))
 have hA0:=HA.out.below hbl
 have HA0:=Lib.hid (hA0.mono hbl.size)
 clear hC hR hbl hA0 HA
 refine Ad 3819 4 3823 [0,1,2,3,4,5,6,7,8,9,10,11,12] (by kernel_rfl) (by kernel_rfl) (by kernel_rfl) rfl ?_
 repeat'(first
  |refine rZ ?_
  |(refine' oR _ (by decide) (by decide) (by decide) (fun wq hwq K hK=>?_) ?_ ?_;rotate_left 1;(· first | ((refine Ez 30 _ rfl (w.heap.size+1) rfl 30 _ _ (hH.ext hwq) Tryz.underlying30 rfl (Cl hh) ?_;exact hK)) | (go_wp2_with(fail);all_goals exact hK));rfl)
  |fail)
 refine oB (fun w3 hw3 K1 hK1=>?_)
 have hb3:Below wz.heap.size wz w3:=by rw [hw3];exact(Below.refl _ _).drew
 clear hw3
 have hA3:=(HA0.out.below hb3).mono hb3.size
 go_wp2_with(go_at_call 19;(with_reducible refine(CL.out _ hA3).mono ?_);rintro e w4 ⟨v,rfl,hM,hb4⟩;obtain⟨A3,cap3,rfl⟩:=Aq hM)
 replace hb4:=hb3.trans (hb4.mono hb3.size)
 have z34:=hb3.size
 replace hM:=Lib.hid (Lh hM z34)
 refine hK1 _ _ hb4 ?_
 simp only [Act.put,sA,sS,sZ]
 clear hK1 K1 hb3 hA3 z34 CL HA0
 refine rO ?_
 refine oS (fun w5 hw5 K1 hK1=>?_)
 rw [←hw5] at hb4 hM
 clear hw5
 have h5:=HI0.out.ext hb4
 obtain⟨s1,s2,s3⟩:=Nk (off:=4) (n:=35) h5.cells.size (by decide) (Ap.cells_size hh)
 have S123:=Lib.hid (And.intro s1 (And.intro s2 s3))
 clear s1 s2 s3
 refine Cg 30 _ _ rfl g 4 h.cells rfl rfl 86 _ h5.blk (Cl hh) (by rw [Ap.cells_size hh,h5.cells.size];decide) (Gx h) ?_
 intro w6 hB6 hg6
 refine hK1 undef _ (fun _=>True) trivial ?_
 simp only [Act.put,sA,sS,sZ]
 clear hK1 K1
 have h6:=Lib.hid (Af.mk (Nat.le_trans h5.low hg6.size) hB6 (h5.cells.part_hart h S123.out.1 S123.out.2.1 S123.out.2.2) (h5.rows.core h5.low h5.blk hg6))
 have HJ6:=Lib.hid (And.intro ((Ah.below (B:=w.heap.size) hb4).trans (h5.turned hg6)) (Lh (Ahf hM.out hg6 zg) HI0.out.low))
 clear h5 S123 hB6 hg6 hb4 hM HI0
 refine rO ?_
 refine oS (fun w7 hw7 K1 hK1=>?_)
 rw [←hw7] at h6 HJ6
 clear hw7
 have k39:=h6.out.cell h6.out.cells.mem
 have f39:=h6.out.blk.frozen 39
 have z7:=h6.out.lt
 have hrows:=h6.out.rows
 have s7:=h6.out.set 39 (.slice A3 m.length cap3) (h6.out.cells.set_mem (.slice A3 m.length cap3) m) ⟨hrows.base,hrows.commits,HJ6.out.2,hrows.slots,hrows.access,hrows.ptrs,hrows.uops,hrows.names,fun hne=>absurd rfl hne,hrows.script⟩
 have HJ7:=Lib.hid (And.intro s7 (HJ6.out.1.trans (h6.out.turned (grownBy_setCell w7 ⟨g,39,none⟩ (.slice A3 m.length cap3)))))
 clear s7 hrows h6 HJ6
 go_wp2_with(fail)
 refine hK1 undef _ (fun _=>True) trivial ?_
 simp only [Act.put,sA,sS,sZ]
 clear hK1 K1 k39 f39 z7
 refine Ai ?_
 rintro w8 hw8
 rw [←hw8] at HJ7
 clear hw8
 have CN:=Lib.hid (fun W=>Aiy b W (by have:=ASK.out.phys.1;omega) (by have:=ASK.out.phys.2;omega))
 rw [if_pos ASK.out.phys] at CN
 have hC8:=HJ7.out.2.blk HZ.out.1 (by decide)
 have c1:w8.cell? ⟨w.heap.size,1,none⟩=some (.int .i64 b):=hC8.cell 1
 have zc:=hC8.lt
 have zg8:=HJ7.out.1.lt
 clear hC8 zg
 generalize hL7:({ Ain (.slice A2 sc.length cap2) with mem := .slice A3 m.length cap3 }:Lay)=L7 at *
 clear hL7
 go_upto_region 10 with(first
  |(go_at_call 21;(with_reducible refine(CN.out _).mono ?_);rintro e w9 ⟨v9,rfl,hb9,A9,c9,rfl,hm9,hf9⟩;have i9:=D4 (phys:=(Ni b).phys) (A:=A9) (n:=(Ni b).free.length) (cap:=c9) hm9.len;have o9:=Ey (Ni b).phys (Ni b).regs A9 (Ni b).free.length c9;have z9:=By (Ni b).phys (Ni b).regs A9 (Ni b).free.length c9 hm9.len;have HN9:=Lib.hid (fun(wy:World) (hB:Blk wy g 86 _) (hg:w9.grownBy wy (some g))=>And.intro (HJ7.out.1.setnames hb9 hm9 hf9 hB hg) (HJ7.out.2.trans ((Ah.below (B:=w.heap.size) hb9).trans ((HJ7.out.1.ext hb9).turned hg))));have HB9:=(HJ7.out.1.ext hb9).blk;have HS9:=HJ7.out.1.cells.size;generalize Ag (Ni b).phys (Ni b).regs A9 (Ni b).free.length c9=T9 at *;clear hm9 hf9 hb9)
  |(refine Cb rfl 79 _ _ rfl g 108 T9 rfl rfl 86 _ HB9 i9 (by rw [z9,HS9];decide) o9 ?_;intro w10 hB10 hg10))
 go_simp
 have hj10:=HN9.out w10 hB10 hg10
 obtain⟨C8,hC8⟩:∃ C8,C8=({ Ol a b c sc h.pc with hart:=h,mem:=m,names:=Ni b }:Core):=⟨_,rfl⟩
 obtain⟨LA,ca,h10⟩:∃ LA ca,Af w.heap.size w10 g { C8 with words:=Jd h.regs 0,there:=J3 0 } LA [] ca:=by
  rw [hC8]
  exact⟨_,_,hj10.1⟩
 have HJA:=Lib.hid (And.intro h10 hj10.2)
 have HCE:Hid ({ C8 with words:=Jd h.regs 32,there:=J3 32 }=Kh a b c h m sc):=Lib.hid (by
  rw [hC8,Acx hh,Acs]
  rfl)
 clear HN9 hB10 hg10 hj10 h10 hC8 HB9 HS9 i9 o9 z9 HJ7 CN c1 zc zg8
 go_upto_region 11 with(fail)
 go_loopw [13,68] (fun v13 v68 wr=>∃ (k:Nat) (LX:Lay) (cx:Array Value),v68 = .int .i64 k∧k≤32∧Hid (Af w.heap.size wr g { C8 with words:=Jd h.regs k,there:=J3 k } LX [] cx∧Ah w.heap.size wz wr)) (fun _ v _=>33 - (intOf v).toNat)
 case atStart=>exact⟨0,_,_,rfl,by omega,HJA⟩
 case round=>
  clear HJA
  obtain⟨k,LX,cx,rfl,hk,HR⟩:=hrel
  by_cases hlt:k<32
  ·have e1:decide (k<32)=true:=decide_eq_true hlt
   go_upto_region 13 with(fail)
   go_simp
   have hHr:=HR.out.2.blk HZ.out.2.1 (by decide)
   have cR:wr.cell? ⟨w.heap.size+1,k,none⟩=some (.int .u32 (h.regs.getD k 0)):=(hHr.cell k).trans (Ap.cells_reg (by rw [hh];exact hlt))
   have zR1:=hHr.lt
   obtain⟨rv,hrv⟩:∃ rv,h.regs.getD k 0=rv:=⟨_,rfl⟩
   rw [hrv] at cR
   have RV:=Lib.hid hrv
   clear hHr hrv
   refine Ad 30591 128 30719 [0,1,2,3,4,5,6,7,8,9,10,12,13,11,14,15] (by kernel_rfl) (by kernel_rfl) (by kernel_rfl) rfl ?_
   refine rR (fun wq hwq=>hwq.at_ zR1 cR) ?_
   refine oS (fun w11 hw11 K1 hK1=>?_)
   have hb11:Below wr.heap.size wr w11:=by rw [hw11];exact(Below.refl _ _).drew
   clear hw11
   have h11:=HR.out.1.ext hb11
   have k142:w11.cell? ⟨g,142+k,none⟩=some (.int .u32 ((Jd h.regs k).getD k 0)):=h11.cell (h11.cells.words k (by omega))
   have f142:=h11.blk.frozen (142+k)
   have z11:=h11.lt
   have s11:=h11.set (142+k) (.int .u32 rv) (h11.cells.set_word k (by omega) (Acy hh hk) rv) h11.rows
   have HJ11:=Lib.hid (And.intro s11 ((HR.out.2.trans (Ah.below (B:=w.heap.size) hb11)).trans (h11.turned (grownBy_setCell w11 ⟨g,142+k,none⟩ (.int .u32 rv)))))
   clear h11 s11 hb11 HR cR zR1
   go_wp2_with(fail)
   refine hK1 undef _ (fun _=>True) trivial ?_
   simp only [Act.put,sA,sS,sZ]
   clear hK1 K1 k142 f142 z11
   refine rO ?_
   refine oS (fun w12 hw12 K1 hK1=>?_)
   rw [←hw12] at HJ11
   clear hw12
   have h12:=HJ11.out.1
   have k238:w12.cell? ⟨g,238+k,none⟩=some (.bool ((J3 k).getD k false)):=h12.cell (h12.cells.there k (by omega))
   have f238:=h12.blk.frozen (238+k)
   have z12:=h12.lt
   have s12:=h12.set (238+k) (.bool true) (h12.cells.set_there k (by omega) (Acu (by omega)) true) h12.rows
   have HJ12:=Lib.hid (And.intro s12 (HJ11.out.2.trans (h12.turned (grownBy_setCell w12 ⟨g,238+k,none⟩ (.bool true)))))
   clear h12 s12 HJ11
   go_wp2_with(fail)
   refine hK1 undef _ (fun _=>True) trivial ?_
   simp only [Act.put,sA,sS,sZ]
   clear hK1 K1 k238 f238 z12
   refine Ai ?_
   rintro w13 hw13
   rw [←hw13] at HJ12
   clear hw13
   obtain⟨LB,cb,h13⟩:∃ LB cb,Af w.heap.size w13 g { C8 with words:=Jd h.regs (k+1),there:=J3 (k+1) } LB [] cb:=by
    rw [←Acz hh hlt,←Acv (show k<96 by omega),show h.regs.getD k 0=rv from RV.out]
    exact⟨_,_,HJ12.out.1⟩
   have HJ13:=Lib.hid (And.intro h13 HJ12.out.2)
   clear h13 HJ12
   go_wp2_with(fail)
   go_roundw
   case rel=>exact⟨k+1,_,_,by go_num,by omega,HJ13⟩
   case measure=>simp [intOf];omega
  ·have e1:decide (k<32)=false:=decide_eq_false hlt
   obtain rfl:k=32:=by omega
   have HRE:Hid (Af w.heap.size wr g (Kh a b c h m sc) LX [] cx∧Ah w.heap.size wz wr):=Lib.hid ⟨by rw [←HCE.out];exact HR.out.1,HR.out.2⟩
   clear HR HCE
   go_upto_region 15 with(fail)
   have HR0:=HRE
   clear HRE
   have HL0:Hid (Lp4 (Kh a b c h m sc) Y N (100*((N:Int) - (N:Int))) sc):=Lib.hid (by
    refine⟨?_,HY.out,⟨⟨Int.le_refl _,by show(0:Int)≤_;omega⟩,⟨Int.le_refl _,by show(0:Int)≤_;omega⟩,⟨Int.le_refl _,by show(0:Int)≤_;omega⟩,by show((0:Nat):Int)≤_;omega,⟨Int.le_refl _,by show(0:Int)≤_;omega⟩⟩,fun x hx=>hx,hh⟩
    by_cases hs:h.state=0
    ·exact Or.inr ⟨_,Oj ASK.out hs sc⟩
    ·exact Or.inl hs)
   clear HY
   go_loopw [101] (fun _ wx=>∃ (r:Nat) (X:Core) (LX:Lay) (px:List Nat) (cx:Array Value),r≤N∧Hid (X.cycles+r=(N:Int))∧Hid (Af w.heap.size wx g X LX px cx∧Ah w.heap.size wz wx)∧Hid (Lp4 X Y r (100*((N:Int) - (r:Int))) sc)) (fun _ wx=>N - (intOf ((wx.cell? ⟨g,40,none⟩).getD undef)).toNat)
   case atStart=>exact⟨N,Kh a b c h m sc,_,_,_,Nat.le_refl _,Lib.hid (by show(0:Int)+N=N;omega),HR0,HL0⟩
   case round=>
    clear HR0 HL0
    obtain⟨r,X,LX,px,cx,hr,HCY,HR,HL⟩:=hrel
    have HHX:=Lib.hid HL.out.hart
    have k40:=HR.out.1.cell HR.out.1.cells.cycles
    have k37:=HR.out.1.hstate HHX.out
    have zg:=HR.out.1.lt
    obtain⟨cy,hcy⟩:∃ cy,X.cycles=cy:=⟨_,rfl⟩
    obtain⟨st,hst⟩:∃ st,X.hart.state=st:=⟨_,rfl⟩
    rw [hcy] at k40
    rw [hst] at k37
    have hcr:cy+r=(N:Int):=by rw [←hcy];exact HCY.out
    by_cases hgo:0<r∧st=0
    ·obtain⟨r2,rfl⟩:∃ r2,r=r2+1:=⟨r - 1,by omega⟩
     obtain⟨hgd,hnx,hcyc⟩:=HL.out.step (by rw [hst];exact hgo.2)
     have CF:=Lib.hid (Aem HR.out.1 hgd HL.out.bd (by omega) (fun x hx=>HSB.out x (HL.out.sub x hx)))
     have HNX:Hid (Lp4 (Cc X) Y r2 (100*((N:Int) - (r2:Int))) sc):=Lib.hid (by
      rw [show(100:Int)*((N:Int) - (r2:Int))=100*((N:Int) - ((r2+1:Nat):Int))+100 by omega]
      exact hnx)
     have HNC:Hid ((Cc X).cycles+r2=(N:Int)):=Lib.hid (by rw [hcyc,hcy];omega)
     have t1:decide (cy<(N:Int))=true:=decide_eq_true (by omega)
     have t2:(st==0)=true:=by rw [hgo.2];rfl
     have HCYC:=Lib.hid hcyc
     have HK40:=Lib.hid k40
     have HCW:=Lib.hid hcy
     have hcy0:0≤cy:=by rw [←hcy];exact HL.out.bd.cycles.1
     have hcyN:cy<N:=by omega
     have hr2:r2≤N:=by omega
     clear hgd hnx hcyc hcy hst hgo hcr HCY HL
     go_wp2_with(go_at_call 22;(with_reducible refine CF.out.mono ?_);rintro e w14 ⟨rfl,ht14,L14,ps14,cs14,h14⟩;have HJ14:=Lib.hid (And.intro h14 (HR.out.2.trans ht14));clear h14 ht14)
     go_roundw
     case rel=>exact⟨_,_,_,_,_,_,_,_,_,_,_,_,_,_,_,_,_,_,⟨r2,Cc X,_,_,_,hr2,HNC,HJ14,HNX⟩,rfl⟩
     case measure=>
      rw [HK40.out,show w14.cell? ⟨g,40,none⟩=some (.int .i64 (Cc X).cycles) from HJ14.out.1.cell HJ14.out.1.cells.cycles,HCYC.out,HCW.out]
      simp only [Option.getD_some,intOf]
      omega
    ·have HXE:Hid (Y=X):=Lib.hid (HL.out.stop (by
      rcases Nat.eq_zero_or_pos r with h0 | h0
      ·exact Or.inl h0
      ·right
       rw [hst]
       exact fun hs=>hgo ⟨h0,hs⟩))
     clear hcy HL HCY
     rcases Nat.eq_zero_or_pos r with h0 | h0
     ·have t1:decide (cy<(N:Int))=false:=decide_eq_false (by omega)
      clear hst hgo hcr
      have HLX:=Lib.hid (HR.out.1.cells.shownX HHX.out)
      obtain⟨AC,cC,hac⟩:=Aq HR.out.1.rows.commits
      obtain⟨AM,cM,ham⟩:=Aq HR.out.1.rows.mem
      have HSZ:=Lib.hid (Mh LX.commits HHX.out LX.mem X.cycles X.taken X.backs)
      have HON:=Lib.hid (N8 AC X.commits.length cC X.hart AM X.mem.length cM X.cycles X.taken X.backs)
      rw [←hac,←ham] at HON
      have HBS:=Lib.hid (HR.out.2.blk HZ.out.2.2.1 (by decide))
      have HGC:=HR.out.1.blk
      have HGS:=HR.out.1.cells.size
      have HXT:Hid (Cr LX.commits X.hart LX.mem X.cycles X.taken X.backs=Cr LX.commits X.hart LX.mem X.cycles X.taken X.backs):=Lib.hid rfl
      clear hac ham
      obtain⟨T,hT⟩:∃ T,T=Cr LX.commits X.hart LX.mem X.cycles X.taken X.backs:=⟨_,rfl⟩
      rw [←hT] at HLX HSZ HON
      have HT:=Lib.hid hT
      clear hT HXT
      go_wp2_with(first
       |(refine Aj rfl 49 _ rfl g 3 rfl 86 cx 40 _ HGC Tryz.underlying49 rfl Rp (by rw [HGS];decide) ?_;rw [HLX.out])
       |(refine Ae rfl 49 _ _ rfl (w.heap.size+1+1) T rfl rfl 49 _ HBS.out (Ir HSZ.out) (by rw [HSZ.out];rfl) HON.out ?_;intro w16 hB16 hg16))
      refine bodyPost_ret (D8 rfl rfl rfl (Ph HSZ.out hB16)) rfl ?_
      rw [HXE.out]
      refine⟨below_grown (HR.out.2.toBelow HZ.out.2.2.2 HZ.out.2.2.2.size) hg16 (Nat.le_trans HZ.out.2.2.2.size HR.out.2.size) (by omega),LX.commits,LX.mem,?_,HR.out.1.rows.commits.kept hg16 (Bq HR.out.1.rows.commits HBS.out (by decide)),HR.out.1.rows.mem.kept hg16 (Bq HR.out.1.rows.mem HBS.out (by decide))⟩
      rw [HT.out]
      rfl
     ·have t1:decide (cy<(N:Int))=true:=decide_eq_true (by omega)
      have t2:(st==0)=false:=by
       have:st≠0:=fun hs=>hgo ⟨h0,hs⟩
       simpa using this
      clear hst hgo hcr
      have HLX:=Lib.hid (HR.out.1.cells.shownX HHX.out)
      obtain⟨AC,cC,hac⟩:=Aq HR.out.1.rows.commits
      obtain⟨AM,cM,ham⟩:=Aq HR.out.1.rows.mem
      have HSZ:=Lib.hid (Mh LX.commits HHX.out LX.mem X.cycles X.taken X.backs)
      have HON:=Lib.hid (N8 AC X.commits.length cC X.hart AM X.mem.length cM X.cycles X.taken X.backs)
      rw [←hac,←ham] at HON
      have HBS:=Lib.hid (HR.out.2.blk HZ.out.2.2.1 (by decide))
      have HGC:=HR.out.1.blk
      have HGS:=HR.out.1.cells.size
      have HXT:Hid (Cr LX.commits X.hart LX.mem X.cycles X.taken X.backs=Cr LX.commits X.hart LX.mem X.cycles X.taken X.backs):=Lib.hid rfl
      clear hac ham
      obtain⟨T,hT⟩:∃ T,T=Cr LX.commits X.hart LX.mem X.cycles X.taken X.backs:=⟨_,rfl⟩
      rw [←hT] at HLX HSZ HON
      have HT:=Lib.hid hT
      clear hT HXT
      go_wp2_with(first
       |(refine Aj rfl 49 _ rfl g 3 rfl 86 cx 40 _ HGC Tryz.underlying49 rfl Rp (by rw [HGS];decide) ?_;rw [HLX.out])
       |(refine Ae rfl 49 _ _ rfl (w.heap.size+1+1) T rfl rfl 49 _ HBS.out (Ir HSZ.out) (by rw [HSZ.out];rfl) HON.out ?_;intro w16 hB16 hg16))
      refine bodyPost_ret (D8 rfl rfl rfl (Ph HSZ.out hB16)) rfl ?_
      rw [HXE.out]
      refine⟨below_grown (HR.out.2.toBelow HZ.out.2.2.2 HZ.out.2.2.2.size) hg16 (Nat.le_trans HZ.out.2.2.2.size HR.out.2.size) (by omega),LX.commits,LX.mem,?_,HR.out.1.rows.commits.kept hg16 (Bq HR.out.1.rows.commits HBS.out (by decide)),HR.out.1.rows.mem.kept hg16 (Bq HR.out.1.rows.mem HBS.out (by decide))⟩
      rw [HT.out]
      rfl
end Go.Proofs.YtapgojgcmlnbgaaGreatDoor
namespace Go.Proofs.YtapgojgcmlnbgaaGreatDoor
open Go
section
variable {P:Program} {l:List Oper} {Q:Exit→Act→World→Prop} {S:World→Prop} {fuel:Nat} {listed:Array Bool} {a:Act} {w:World} {oi oj:Oper} {v:Value}
theorem kT (i:Nat) (ho:Gu l i=some oi) (hg:oi.guard=none) (hs:Region.noSelect l.toArray=true) (hf:Region.free .any l.toArray listed i=true) (hr:(Region.ready .any l.toArray listed).contains i=true)
  (hQ:∀ c a w,Q (.panic c) (a.put oi.dst v) w→Q (.panic c) a w) (hy:∀ w,S w→(execOp a.eval oi).run P w = .ok (.value v) w) (hS:S w)
  (h:wpAnyH P .any l.toArray Q S fuel (listed.setIfInBounds i true) (a.put oi.dst v) w):wpAnyH P .any l.toArray Q S (fuel+1) listed a w:=
 wpAnyH_take (by rw [Io] at ho;simpa using ho) hs hf hr hQ (Or.inl ⟨by simp [Region.wanted,hg],hy⟩) hS h
theorem Agw (i:Nat) (ho:Gu l i=some oi) (hg:oi.guard=none)
  (h:∀ K':Act→World→Prop,Shut (∀ a w,S w→(S w→wpAnyH P .any l.toArray Q S fuel (listed.setIfInBounds i true) a w)→K' a w)→oi.wp P a w K' Q) {rs:List Nat} (hs:AllReadyH P .any l.toArray Q S fuel listed a w rs):AllReadyH P .any l.toArray Q S fuel listed a w (i::rs):=
 AllReadyH.cons (by rw [Io] at ho;simpa using ho) (fun K hK=>by rw [if_pos (by simp [Region.wanted,hg])];exact h K hK) hs
theorem k1 (i:Nat) (hr:Region.ready .any l.toArray listed=[i]) (ho:Gu l i=some oi) (hg:oi.guard=none)
  (h:∀ K':Act→World→Prop,Shut (∀ a w,S w→(S w→wpAnyH P .any l.toArray Q S fuel (listed.setIfInBounds i true) a w)→K' a w)→oi.wp P a w K' Q):wpAnyH P .any l.toArray Q S (fuel+1) listed a w:=
 wpAnyH_ready hr (by simp) (Agw i ho hg h AllReadyH.nil)
theorem k2 (i j:Nat) (hr:Region.ready .any l.toArray listed=[i,j]) (ho:Gu l i=some oi) (hg:oi.guard=none) (ho2:Gu l j=some oj) (hg2:oj.guard=none)
  (h:∀ K':Act→World→Prop,Shut (∀ a w,S w→(S w→wpAnyH P .any l.toArray Q S fuel (listed.setIfInBounds i true) a w)→K' a w)→oi.wp P a w K' Q)
  (h2:∀ K':Act→World→Prop,Shut (∀ a w,S w→(S w→wpAnyH P .any l.toArray Q S fuel (listed.setIfInBounds j true) a w)→K' a w)→oj.wp P a w K' Q):wpAnyH P .any l.toArray Q S (fuel+1) listed a w:=
 wpAnyH_ready hr (by simp) (Agw i ho hg h (Agw j ho2 hg2 h2 AllReadyH.nil))
theorem kB {id:Nat} (hm:P.follows .mixedOrders=true) (hS:S w.drew) (h:S w.drew→wpAnyH P .any l.toArray (NoPanic Q) S l.length (Array.replicate l.length false) a w.drew):(Code.region id l.toArray true).wp P Q a w:=
 wp_region_noPanic (wp_region_held_drew hm hS (by simpa using h))
theorem kE (hr:Region.ready .any l.toArray listed=[]) (h:Q .normal a w):wpAnyH P .any l.toArray (NoPanic Q) S fuel listed a w:=wpAnyH_done hr (NoPanic.normal h) _
theorem Rf {o:Oper} {u:Value} (ty:TypeId) (x:Operand) (ho:o.op = .load ty x) {ad:Addr} (hx:a.eval x = .pointer (some ad)) (h:(loadVar ty ad).run P w = .ok u w):(execOp a.eval o).run P w = .ok (.value u) w:=by
 unfold execOp
 simp only [ho,hx,Instr.loadAt,Instr.sureAddr,Sem.run_bind,Sem.run_pure,Result.andThen_ok,h]
end
end Go.Proofs.YtapgojgcmlnbgaaGreatDoor
