/- Parts of a proof. -/
import Derived.Test.YtapgojgcmlnbgacGreatK14
import Derived.Test.YtapgojgcmlnbgacGreatK15
import Derived.Test.YtapgojgcmlnbgacGreatK16
import Derived.Test.YtapgojgcmlnbgacGreatK00
import Derived.Test.YtapgojgcmlnbgacGreatK08
import Derived.Test.YtapgojgcmlnbgacGreatK11
import Derived.Test.YtapgojgcmlnbgacGreatK13
import Derived.Test.YtapgojgcmlnbgacGreatProg
import Derived.WalkLawsBesides
import Derived.WalkSpells
import Derived.Lib.Hide
import Derived.Test.YtapgojgcmlnbgacGreatK07
import Derived.Test.YtapgojgcmlnbgacGreatK04
import Derived.Test.YtapgojgcmlnbgacGreatK01
import Derived.Deep.AppendLies
set_option linter.unusedSimpArgs false
set_option linter.unusedVariables false
set_option maxRecDepth 100000
set_option maxHeartbeats 16000000
namespace Go.Proofs.YtapgojgcmlnbgacGreat
open Go Go.RowKit
section
variable {B:Nat} {w:World} {g p:Nat} {C:Core} {L:Lay} {ps:List Nat} {cs:Array Value}
theorem Vx (h:Af B w g C L ps cs) (hI:Inv C) (hq:C.seq≤4611686018427387904) (ht:0≤C.taken∧C.taken≤4611686018427387904) :
  Calls Tryz.prog 19 #[.pointer (some ⟨g,0,none⟩)] w (Qp B w g (Bz C)):=by
 by_cases hn:C.still=true∨C.names.free=[]
 ·exact Af2 h hn
 have hst:C.still=false:=by
  rcases e:C.still with _ | _
  ·rfl
  ·exact absurd (Or.inl e) hn
 have hfr:C.names.free≠[]:=fun e=>hn (Or.inr e)
 cases hp:Jg C.slots C.window C.seq with
 |none=>exact Aa4 h hI.fine hst hfr hp
 |some sl=>
  obtain⟨⟨i,c⟩,hsn⟩:∃ f,Jk C=f:=⟨_,rfl⟩
  by_cases hc:c=0
  ·subst hc
   rcases hgv:Bf i with _ | _
   ·exact Yx h hI hst hfr hp hq ht hsn hgv
   ·exact Aa5 h hI hst hfr hp hq ht hsn hgv
  ·exact Ad6 h hI hst hfr hp hq ht hsn hc
end
section
variable {B:Nat} {w:World} {g p:Nat} {C:Core} {L:Lay} {ps:List Nat} {cs:Array Value}
theorem Wv (h:Af B w g C L ps cs) (hI:Inv C) {k:Nat} (hk:k<C.ops.length) (h1:(C.op k).state=1) (hp:ps[k]? = some p) (hq:C.seq≤4611686018427387904) (hb1:0≤C.backs) (hb2:C.backs<4611686018427387904) :
  Calls Tryz.prog 17 #[.pointer (some ⟨g,0,none⟩), .pointer (some ⟨p,0,none⟩)] w (Qs B w g (B9 C k)):=by
 obtain⟨e1,e2⟩:=Xl hk
 rw [Ale hk] at h1
 have hp':ps[(C.ops.take k).length]? = some p:=by rw [e2];exact hp
 rcases hl:Bs (C.ops[k]).ins with _ | _
 ·have:=U0 h hI e1 h1 hl hp' hq hb1 hb2
  rw [e2] at this
  exact this
 ·have:=U1 h hI e1 h1 hl hp' hq hb1 hb2
  rw [e2] at this
  exact this
theorem Adz (h:Af B w g C L ps cs) (hG:Good C) {N:Int} (hB:Bd C N) (hN:N≤900000) (hs:∀ x∈C.script,x≤9223372036854775807) :
  Calls Tryz.prog 13 #[.pointer (some ⟨g,0,none⟩)] w (Qs B w g (Ci C)):=by
 obtain⟨now,hnow⟩:∃ now,C.cycles=now:=⟨_,rfl⟩
 have hbc:=hB.cycles
 have k40:w.cell? ⟨g,40,none⟩=some (.int .i64 now):=by
  have:=h.cell h.cells.cycles
  rw [hnow] at this
  exact this
 have f40:=h.blk.frozen 40
 have zg:=h.lt
 rw [hnow] at hbc
 obtain⟨C0,hC0⟩:∃ C0,C0=({ C with cycles:=now+1 }:Core):=⟨_,rfl⟩
 have hG0:Good C0:=by
  have:=Rc hG
  rw [hnow] at this
  rw [hC0]
  exact this
 have hB0:Bd C0 (N+1):=by
  rw [hC0]
  have hh:=hB.mono (M:=N+1) (by omega)
  exact⟨hh.seq,hh.taken,hh.backs,hh.coms,by show 0≤now+1∧now+1≤N+1;omega⟩
 have hs0:∀ x∈C0.script,x≤9223372036854775807:=by rw [hC0];exact hs
 have h0:=h.set 40 (.int .i64 (now+1)) (h.cells.set_cycles (now+1)) h.rows
 have HJ0:Hid (Af B (w.setCell ⟨g,40,none⟩ (.int .i64 (now+1))) g C0 L ps (cs.setIfInBounds 40 (.int .i64 (now+1)))∧Ah B w (w.setCell ⟨g,40,none⟩ (.int .i64 (now+1)))):=Lib.hid ⟨by rw [hC0];exact h0,h.turned (grownBy_setCell w ⟨g,40,none⟩ (.int .i64 (now+1)))⟩
 obtain⟨Y,hY⟩:∃ Y,Ci C=Y:=⟨_,rfl⟩
 have hYd:(B0 C0).hart.state≠0→Y=B0 C0:=fun hh=>by
  rw [←hY]
  unfold Ci
  dsimp only
  rw [hnow,←hC0,if_pos hh]
 have hYe:(B0 C0).hart.state=0→Y=fetchAll (beginAll (finishAll (B0 C0).ops.length 0 now (B0 C0)).ops.length 0 0 now (finishAll (B0 C0).ops.length 0 now (B0 C0))).wide.toNat (beginAll (finishAll (B0 C0).ops.length 0 now (B0 C0)).ops.length 0 0 now (finishAll (B0 C0).ops.length 0 now (B0 C0))):=fun hh=>by
  rw [←hY]
  unfold Ci
  dsimp only
  rw [hnow,←hC0,if_neg (fun hx=>hx hh)]
 obtain⟨kk,_,_,hgd,_,_⟩:=Oy hG0
 have hB1:Bd (B0 C0) (N+5):=(hB0.commit (by have:=hG0.inv.cfg;omega)).mono (by omega)
 have hs1:∀ x∈(B0 C0).script,x≤9223372036854775807:=by rw [M3];exact hs0
 have hhl:(B0 C0).hart.regs.length=32:=V4 _ _ hG0.inv.hart.len
 have CM:=Lib.hid (fun W cs' (hh:Af B W g C0 L ps cs')=>Aav hh hG0 (by have:=hB0.coms;omega))
 rw [hY]
 generalize B0 C0=C1 at *
 have HYD:=Lib.hid hYd
 have HYE:=Lib.hid hYe
 have HGD:=Lib.hid hgd
 have HHL:=Lib.hid hhl
 have HB1:=Lib.hid hB1
 have HS1:=Lib.hid hs1
 clear h hG hB hs hG0 hB0 hs0 h0 hY hYd hYe hgd hB1 hs1 hhl hC0 hnow
 go_enter Tryz.func13,Tryz.ntmps13
 go_upto_region 2 with(fail)
 go_simp
 clear k40 f40 zg
 generalize w.setCell ⟨g,40,none⟩ (.int .i64 (now+1))=w0 at *
 go_upto_region 3 with(go_at_call 16;(with_reducible refine(CM.out _ _ HJ0.out.1).mono ?_);rintro e w1 ⟨rfl,ht1,L1,ps1,cs1,h1⟩;have HJ1:=Lib.hid (And.intro h1 (HJ0.out.2.trans ht1));clear h1 ht1)
 go_simp
 clear CM HJ0
 have q37:w1.cell? ⟨g,37,none⟩=some (.int .i64 C1.hart.state):=HJ1.out.1.hstate HHL.out
 have z1:=HJ1.out.1.lt
 by_cases qs:C1.hart.state=0
 rotate_left
 ·have e3:(C1.hart.state != 0)=true:=by simpa using qs
  have HX:Hid (Y=C1):=Lib.hid (HYD.out qs)
  clear qs HYD HYE HGD
  go_wp2_with(fail)
  refine bodyPost_ret (results_none rfl _ _ _) rfl ?_
  exact⟨rfl,HJ1.out.2,_,_,_,by rw [HX.out];exact HJ1.out.1⟩
 have e3:(C1.hart.state != 0)=false:=by simpa using qs
 have hG1:Good C1:=by
  rcases HGD.out with hh | hh
  ·exact absurd qs hh
  ·exact hh
 obtain⟨S,hS⟩:∃ S,C1.script=S:=⟨_,rfl⟩
 have HSS:Hid (∀ x∈S,x≤9223372036854775807):=Lib.hid (by rw [←hS];exact HS1.out)
 have hYE:=HYE.out qs
 obtain⟨C2,hC2⟩:∃ C2,finishAll C1.ops.length 0 now C1=C2:=⟨_,rfl⟩
 rw [hC2] at hYE
 have HYE2:=Lib.hid hYE
 have HL1:Hid (Lp1 C1 C2 0 C1.ops.length now (N+5) S):=Lib.hid ⟨hG1,hC2,by omega,HB1.out.mono (by omega),fun x hx=>by rw [←hS];exact hx⟩
 clear qs HYD HYE HGD hG1 hS hYE hC2 HB1 HS1 HHL
 go_upto_region 5 with(fail)
 clear q37 z1 e3
 go_loopw [3,4] (fun v3 v4 wr=>∃ (k r:Nat) (X:Core) (LX:Lay) (px:List Nat) (cx:Array Value),v3 = .int .i64 k∧k≤32∧Hid (Af B wr g X LX px cx∧Ah B w wr)∧Hid (Lp1 X C2 k r now (N+5) S)) (fun v _ _=>33 - (intOf v).toNat)
 case atStart=>exact⟨0,_,_,_,_,_,rfl,by omega,HJ1,HL1⟩
 case round=>
  clear HJ1 HL1
  obtain⟨k,r,X,LX,px,cx,rfl,hk32,HR,HL⟩:=hrel
  have hpl:=HR.out.1.rows.uops.len
  have hol:=HL.out.good.inv.lens.1
  obtain⟨A,n,hvo,hno1,hno2,hno3⟩:=Fj HR.out.1.rows.ptrs
  have c335:wr.cell? ⟨g,335,none⟩=some (.slice A px.length n):=by rw [←hvo];exact HR.out.1.ops
  have zg:=HR.out.1.lt
  obtain⟨m,hm⟩:∃ m,px.length=m:=⟨_,rfl⟩
  have HMP:=Lib.hid hm
  have HMO:=Lib.hid (show X.ops.length=m by rw [←hpl];exact hm)
  have hm32:m≤32:=by omega
  rw [hm] at c335 hno1
  have HVO:=Lib.hid hvo
  clear hpl hol hvo hno3 hm
  by_cases hlt:k<m
  ·have hkx:k<X.ops.length:=by rw [HMO.out];exact hlt
   have hkp:k<px.length:=by rw [HMP.out];exact hlt
   have hrow:=HR.out.1.rows.ptrs
   rw [HVO.out] at hrow
   obtain⟨bP,oP,rfl,zP,cP⟩:=G0 hrow hkp
   have hpk:px[k]? = some px[k]:=List.getElem?_eq_getElem hkp
   have hu:=(HR.out.1.uop_at hpk).1
   have HPK:=Lib.hid hpk
   obtain⟨q,hq⟩:∃ q,px[k]=q:=⟨_,rfl⟩
   rw [hq] at cP hu HPK
   have c1:wr.cell? ⟨q,1,none⟩=some (.int .i64 (X.op k).state):=hu.cell 1
   have c2:wr.cell? ⟨q,2,none⟩=some (.int .i64 (X.op k).ready):=hu.cell 2
   have zq:=hu.lt
   have HKX:=Lib.hid hkx
   clear hkx hkp hrow hpk hu hq
   by_cases hy:(X.op k).state=1∧(X.op k).ready≤now
   ·obtain⟨r',hl2⟩:=HL.out.step HKX.out hy
    have HL2:=Lib.hid hl2
    have CC:=Lib.hid (Wv HR.out.1 HL.out.good.inv HKX.out hy.1 HPK.out (by have:=HL.out.bd.seq;omega) HL.out.bd.backs.1 (by have:=HL.out.bd.backs;omega))
    have e1:((X.op k).state==1)=true:=by simpa using hy.1
    have e2:decide ((X.op k).ready≤now)=true:=decide_eq_true hy.2
    clear hy hl2
    go_wp2_with(go_at_call 17;(with_reducible refine CC.out.mono ?_);rintro e w2 ⟨rfl,ht2,L2,ps2,cs2,h2⟩;have HJ2:=Lib.hid (And.intro h2 (HR.out.2.trans ht2));clear h2 ht2)
    go_roundw
    case rel=>exact⟨k+1,r',_,_,_,_,by go_num,by omega,HJ2,HL2⟩
    case measure=>simp [intOf];omega
   ·obtain⟨r',hl2⟩:=HL.out.skip HKX.out hy
    have HL2:=Lib.hid hl2
    have hy2:(X.op k).state≠1∨((X.op k).state=1∧¬ (X.op k).ready≤now):=by
     by_cases h1:(X.op k).state=1
     ·exact Or.inr ⟨h1,fun h2=>hy ⟨h1,h2⟩⟩
     ·exact Or.inl h1
    clear hy hl2
    rcases hy2 with hy | ⟨hy1,hy2⟩
    ·have e1:((X.op k).state==1)=false:=by simpa using hy
     clear hy
     go_wp2_with(fail)
     go_roundw
     case rel=>exact⟨k+1,r',_,_,_,_,by go_num,by omega,HR,HL2⟩
     case measure=>simp [intOf];omega
    ·have e1:((X.op k).state==1)=true:=by simpa using hy1
     have e2:decide ((X.op k).ready≤now)=false:=decide_eq_false hy2
     clear hy1 hy2
     go_wp2_with(fail)
     go_roundw
     case rel=>exact⟨k+1,r',_,_,_,_,by go_num,by omega,HR,HL2⟩
     case measure=>simp [intOf];omega
  ·have HX:Hid (C2=X):=Lib.hid (HL.out.stop (by rw [HMO.out];omega))
   have e1:decide (k<m)=false:=decide_eq_false hlt
   obtain⟨C3,hC3⟩:∃ C3,beginAll C2.ops.length 0 0 now C2=C3:=⟨_,rfl⟩
   have HYE3:Hid (Y=fetchAll C3.wide.toNat C3):=Lib.hid (by rw [←hC3];exact HYE2.out)
   have HL2:Hid (Lp2 X C3 0 X.ops.length 0 now (N+70) S):=Lib.hid ⟨HL.out.good,by rw [←hC3,HX.out],by omega,HL.out.bd.mono (by omega),HL.out.sub⟩
   clear hC3 HYE2 HX HL HMP HMO HVO hno1 hno2 hm32 hlt hk32
   go_upto_region 12 with(fail)
   clear c335 zg e1
   go_loopw [5,6] (fun v5 v6 wx=>∃ (k r s:Nat) (X:Core) (LX:Lay) (px:List Nat) (cx:Array Value),v6 = .int .i64 k∧v5 = .int .i64 s∧s≤k∧k≤32∧Hid (Af B wx g X LX px cx∧Ah B w wx)∧Hid (Lp2 X C3 k r s now (N+70) S)) (fun _ v _=>33 - (intOf v).toNat)
   case atStart=>exact⟨0,_,0,_,_,_,_,rfl,rfl,by omega,by omega,HR,HL2⟩
   case round=>
    clear HR HL2
    obtain⟨k,r,s,X,LX,px,cx,rfl,rfl,hsk,hk32,HR,HL⟩:=hrel
    have hpl:=HR.out.1.rows.uops.len
    have hol:=HL.out.good.inv.lens.1
    obtain⟨A,n,hvo,hno1,hno2,hno3⟩:=Fj HR.out.1.rows.ptrs
    have c335:wr.cell? ⟨g,335,none⟩=some (.slice A px.length n):=by rw [←hvo];exact HR.out.1.ops
    have zg:=HR.out.1.lt
    obtain⟨m,hm⟩:∃ m,px.length=m:=⟨_,rfl⟩
    have HMP:=Lib.hid hm
    have HMO:=Lib.hid (show X.ops.length=m by rw [←hpl];exact hm)
    have hm32:m≤32:=by omega
    rw [hm] at c335 hno1
    have HVO:=Lib.hid hvo
    have q2:wr.cell? ⟨g,2,none⟩=some (.int .i64 X.wide):=HR.out.1.cell HR.out.1.cells.wide
    clear hpl hol hvo hno3 hm
    by_cases hlt:k<m
    ·have e0:decide (k<m)=true:=decide_eq_true hlt
     by_cases hsw:(s:Int)<X.wide
     ·have e2:decide ((s:Int)<X.wide)=true:=decide_eq_true hsw
      have hkx:k<X.ops.length:=by rw [HMO.out];exact hlt
      have hkp:k<px.length:=by rw [HMP.out];exact hlt
      have h0p:0<px.length:=by omega
      have hrow:=HR.out.1.rows.ptrs
      rw [HVO.out] at hrow
      obtain⟨b0,o0,e00,z0,c00⟩:=G0 hrow h0p
      obtain⟨bP,oP,rfl,zP,cP⟩:=G0 hrow hkp
      injection e00 with e00
      injection e00 with e01 e02 e03
      subst e01 e02
      clear e03
      rw [Nat.add_zero] at c00
      have hpk:px[k]? = some px[k]:=List.getElem?_eq_getElem hkp
      have hp0:px[0]? = some px[0]:=List.getElem?_eq_getElem h0p
      have hu0:=(HR.out.1.uop_at hp0).1
      have HPK:=Lib.hid hpk
      obtain⟨q,hq⟩:∃ q,px[k]=q:=⟨_,rfl⟩
      obtain⟨q0,hq0⟩:∃ q0,px[0]=q0:=⟨_,rfl⟩
      rw [hq] at cP HPK
      rw [hq0] at c00 hu0
      have d0:wr.cell? ⟨q0,0,none⟩=some (.int .i64 (X.op 0).seq):=hu0.cell 0
      have zq0:=hu0.lt
      obtain⟨r',hl2⟩:=HL.out.step hkx hsw
      have HL2:=Lib.hid hl2
      have hnb:=HL.out.bd.cycles
      have CB:=Lib.hid (fun W (hb:Below wr.heap.size wr W)=>Adf (HR.out.1.ext hb) HL.out.good.inv HPK.out now (X.op 0).seq (by omega) (by omega) (fun x hx=>HSS.out x (HL.out.sub x hx)))
      have hm0:0<m:=by omega
      clear hkx hkp h0p hrow hpk hp0 hu0 hq hq0 hl2 hnb hsw
      go_upto_region 14 with(fail)
      go_simp
      refine Ae 110447 151696 262143 [0,1,2,3,4,5,6,7,8,9,10,11,12,13,14,15,16,17,18] (by kernel_rfl) (by kernel_rfl) (by kernel_rfl) rfl ?_
      refine rR (fun wq hwq=>i2 (hwq.at_ zg c335) (i2 (hwq.at_ zP cP) (i2 (hwq.at_ zP c00) (hwq.at_ zq0 d0)))) ?_
      refine oS (fun w2 hw2 K1 hK1=>?_)
      have hb2:Below wr.heap.size wr w2:=by rw [hw2];exact(Below.refl _ _).drew
      clear hw2
      generalize hbb:(Cf X k now (X.op 0).seq).1=bb at *
      go_wp2_with(go_at_call 18;(with_reducible refine(CB.out w2 hb2).mono ?_);rintro e w3 ⟨rfl,ht3,L3,cs3,h3⟩;have HJ3:=Lib.hid (And.intro h3 ((HR.out.2.trans (Ah.below (B:=B) hb2)).trans ht3));clear h3 ht3)
      refine hK1 _ _ (fun _=>True) trivial ?_
      simp only [Act.put,sA,sS,sZ]
      clear hK1 K1 CB
      refine Aj ?_
      rintro w4 hw4
      rw [←hw4] at HJ3
      clear hw4 hb2 c335 cP c00 d0 q2 zg zP z0 zq0
      rcases bb with _ | _
      ·rw [if_neg (by decide)] at HL2
       go_wp2_with(fail)
       go_roundw
       case rel=>exact⟨k+1,r',s,_,_,_,_,by go_num,rfl,by omega,by omega,HJ3,HL2⟩
       case measure=>simp [intOf];omega
      ·rw [if_pos rfl] at HL2
       go_wp2_with(fail)
       go_roundw
       case rel=>exact⟨k+1,r',s+1,_,_,_,_,by go_num,by go_num,by omega,by omega,HJ3,Lib.hid (by have:=HL2.out;simpa using this)⟩
       case measure=>simp [intOf];omega
     ·have e2:decide ((s:Int)<X.wide)=false:=decide_eq_false hsw
      have HSW:=Lib.hid (show X.wide≤(s:Int) by omega)
      clear hsw
      have HX3:Hid (C3=X):=Lib.hid (HL.out.stop (fun hh=>by have:=HSW.out;omega))
      have hG3:=HL.out.good
      have hcf:=hG3.inv.cfg.2
      obtain⟨wn,hwn⟩:=Int.eq_ofNat_of_zero_le (show 0≤X.wide by omega)
      have HWN:=Lib.hid hwn
      have hwn4:wn≤4:=by omega
      have HL3:Hid (Lp3 X Y wn (N+80) S):=Lib.hid ⟨hG3,by
       have h1:=HYE3.out
       rw [HX3.out,hwn,Int.toNat_natCast] at h1
       exact h1.symm,HL.out.bd.mono (by omega),HL.out.sub⟩
      clear hG3 hcf hwn HL HX3 HYE3
      go_upto_region 17 with(fail)
      clear c335 zg
      go_loopw [7] (fun v7 wx=>∃ (k r:Nat) (X:Core) (LX:Lay) (px:List Nat) (cx:Array Value),v7 = .int .i64 k∧k+r=wn∧Hid (X.wide=wn)∧Hid (Af B wx g X LX px cx∧Ah B w wx)∧Hid (Lp3 X Y r (N+80) S)) (fun v _=>6 - (intOf v).toNat)
      case atStart=>exact⟨0,wn,_,_,_,_,rfl,by omega,HWN,HR,HL3⟩
      case round=>
       clear HR HL3 HWN
       obtain⟨k,r,X,LX,px,cx,rfl,hkr,HW,HR,HL⟩:=hrel
       have q2:wr.cell? ⟨g,2,none⟩=some (.int .i64 (wn:Int)):=by
        have h1:=HR.out.1.cell HR.out.1.cells.wide
        rw [HW.out] at h1
        exact h1
       have zg:=HR.out.1.lt
       by_cases hlt:k<wn
       ·obtain⟨r2,rfl⟩:∃ r2,r=r2+1:=⟨r - 1,by omega⟩
        have e1:decide (k<wn)=true:=decide_eq_true hlt
        have hbd:=HL.out.bd
        have hb1:=hbd.seq
        have hb2:=hbd.taken
        have CF:=Lib.hid (Vx HR.out.1 HL.out.good.inv (by omega) ⟨by omega,by omega⟩)
        have HWF:Hid ((Bz X).2.wide=wn):=Lib.hid ((J0 HL.out.good 0).mid.wide.trans HW.out)
        clear hbd hb1 hb2
        rcases hfc:(Bz X).1 with _ | _
        ·have HX:=Lib.hid (HL.out.last hfc)
         have HFC:=Lib.hid hfc
         clear hfc
         go_wp2_with(go_at_call 19;(with_reducible refine CF.out.mono ?_);intro e w2 hpost;obtain⟨he,ht2,L2,ps2,cs2,h2⟩:=hpost;rw [HFC.out] at he;subst he;have HJ2:=Lib.hid (And.intro h2 (HR.out.2.trans ht2));clear h2 ht2)
         refine bodyPost_end (results_none rfl _ _ _) rfl ?_
         exact⟨rfl,HJ2.out.2,_,_,_,by rw [HX.out];exact HJ2.out.1⟩
        ·have HL2:=Lib.hid (HL.out.step hfc)
         have HFC:=Lib.hid hfc
         clear hfc
         go_wp2_with(go_at_call 19;(with_reducible refine CF.out.mono ?_);intro e w2 hpost;obtain⟨he,ht2,L2,ps2,cs2,h2⟩:=hpost;rw [HFC.out] at he;subst he;have HJ2:=Lib.hid (And.intro h2 (HR.out.2.trans ht2));clear h2 ht2)
         go_roundw
         case rel=>exact⟨k+1,r2,_,_,_,_,by go_num,by omega,HWF,HJ2,HL2⟩
         case measure=>simp [intOf];omega
       ·have e1:decide (k<wn)=false:=decide_eq_false hlt
        obtain rfl:r=0:=by omega
        have HX:Hid (Y=X):=Lib.hid HL.out.goes.symm
        clear HL
        go_wp2_with(fail)
        refine bodyPost_end (results_none rfl _ _ _) rfl ?_
        exact⟨rfl,HR.out.2,_,_,_,by rw [HX.out];exact HR.out.1⟩
    ·have e0:decide (k<m)=false:=decide_eq_false hlt
     have HX3:Hid (C3=X):=Lib.hid (HL.out.stop (fun hh=>by have:=HMO.out;omega))
     have hG3:=HL.out.good
     have hcf:=hG3.inv.cfg.2
     obtain⟨wn,hwn⟩:=Int.eq_ofNat_of_zero_le (show 0≤X.wide by omega)
     have HWN:=Lib.hid hwn
     have hwn4:wn≤4:=by omega
     have HL3:Hid (Lp3 X Y wn (N+80) S):=Lib.hid ⟨hG3,by
      have h1:=HYE3.out
      rw [HX3.out,hwn,Int.toNat_natCast] at h1
      exact h1.symm,HL.out.bd.mono (by omega),HL.out.sub⟩
     clear hG3 hcf hwn HL HX3 HYE3
     go_upto_region 17 with(fail)
     clear c335 zg
     go_loopw [7] (fun v7 wx=>∃ (k r:Nat) (X:Core) (LX:Lay) (px:List Nat) (cx:Array Value),v7 = .int .i64 k∧k+r=wn∧Hid (X.wide=wn)∧Hid (Af B wx g X LX px cx∧Ah B w wx)∧Hid (Lp3 X Y r (N+80) S)) (fun v _=>6 - (intOf v).toNat)
     case atStart=>exact⟨0,wn,_,_,_,_,rfl,by omega,HWN,HR,HL3⟩
     case round=>
      clear HR HL3 HWN
      obtain⟨k,r,X,LX,px,cx,rfl,hkr,HW,HR,HL⟩:=hrel
      have q2:wr.cell? ⟨g,2,none⟩=some (.int .i64 (wn:Int)):=by
       have h1:=HR.out.1.cell HR.out.1.cells.wide
       rw [HW.out] at h1
       exact h1
      have zg:=HR.out.1.lt
      by_cases hlt:k<wn
      ·obtain⟨r2,rfl⟩:∃ r2,r=r2+1:=⟨r - 1,by omega⟩
       have e1:decide (k<wn)=true:=decide_eq_true hlt
       have hbd:=HL.out.bd
       have hb1:=hbd.seq
       have hb2:=hbd.taken
       have CF:=Lib.hid (Vx HR.out.1 HL.out.good.inv (by omega) ⟨by omega,by omega⟩)
       have HWF:Hid ((Bz X).2.wide=wn):=Lib.hid ((J0 HL.out.good 0).mid.wide.trans HW.out)
       clear hbd hb1 hb2
       rcases hfc:(Bz X).1 with _ | _
       ·have HX:=Lib.hid (HL.out.last hfc)
        have HFC:=Lib.hid hfc
        clear hfc
        go_wp2_with(go_at_call 19;(with_reducible refine CF.out.mono ?_);intro e w2 hpost;obtain⟨he,ht2,L2,ps2,cs2,h2⟩:=hpost;rw [HFC.out] at he;subst he;have HJ2:=Lib.hid (And.intro h2 (HR.out.2.trans ht2));clear h2 ht2)
        refine bodyPost_end (results_none rfl _ _ _) rfl ?_
        exact⟨rfl,HJ2.out.2,_,_,_,by rw [HX.out];exact HJ2.out.1⟩
       ·have HL2:=Lib.hid (HL.out.step hfc)
        have HFC:=Lib.hid hfc
        clear hfc
        go_wp2_with(go_at_call 19;(with_reducible refine CF.out.mono ?_);intro e w2 hpost;obtain⟨he,ht2,L2,ps2,cs2,h2⟩:=hpost;rw [HFC.out] at he;subst he;have HJ2:=Lib.hid (And.intro h2 (HR.out.2.trans ht2));clear h2 ht2)
        go_roundw
        case rel=>exact⟨k+1,r2,_,_,_,_,by go_num,by omega,HWF,HJ2,HL2⟩
        case measure=>simp [intOf];omega
      ·have e1:decide (k<wn)=false:=decide_eq_false hlt
       obtain rfl:r=0:=by omega
       have HX:Hid (Y=X):=Lib.hid HL.out.goes.symm
       clear HL
       go_wp2_with(fail)
       refine bodyPost_end (results_none rfl _ _ _) rfl ?_
       exact⟨rfl,HR.out.2,_,_,_,by rw [HX.out];exact HR.out.1⟩
end
end Go.Proofs.YtapgojgcmlnbgacGreat
namespace Go.Proofs.YtapgojgcmlnbgacGreat
open Go.RowKit
theorem N7:(Tryz.prog.info? 5).map (fun i=>(i.zero,i.size,i.bytes))=some (some (.int .u8 0),1,1):=by kernel_rfl
theorem Tb (A:Option Addr) (n cap:Nat) (cs:List Value) (w:World) (hl:n*1≤140737488355328) (hlen:cs.length=n*1) (h1:∀ u∈cs,u.oneCell'=true)
  (hc:∀ ad,A=some ad→∀ j u,cs[j]? = some u→w.cell? (ad.add j)=some u) (hnil:A=none→n=0) :
  Calls Tryz.prog 11 #[.slice A n cap] w fun e w'=>∃ v,e = .returned v∧w'.ownsRow w.heap.size 5 1 v n cs∧Below w.heap.size w w':=by
 rcases A with _ | ad
 ·obtain rfl:=hnil rfl
  obtain rfl:cs=[]:=List.eq_nil_of_length_eq_zero (by simpa using hlen)
  have hn:=Lib.run_eql_slice_nil (P:=Tryz.prog) w 28 5 none 0 cap 0 0 Tryz.underlying28
  go_enter Tryz.func11,Tryz.ntmps11
  go_wp2
  go_ret
  exact⟨_,rfl,World.ownsRow_nil _ _ _ _,Below.refl _ _⟩
 ·have hn:=Lib.run_eql_slice_nil (P:=Tryz.prog) w 28 5 (some ad) n cap 0 0 Tryz.underlying28
  obtain⟨i0,hi,hz0,hz1,hz2⟩:=info_parts N7
  have Hc:=Lib.hid (hc ad rfl)
  clear hc hnil
  have hown0:=World.ownsRow_lit (base:=w.heap.size) (e:=5) (size:=1) w #[] 0 (Nat.le_refl _) (by unfold maxLen;omega) rfl
  go_enter Tryz.func11,Tryz.ntmps11
  go_wp2_with(at_builtin;refine wpList_append_own _ rfl (.tmp 5) (.tmp 6) 28 rfl w.heap.size 5 i0 _ 1 1 Tryz.underlying28 hi hz0 hz1 hz2 rfl (by decide) _ 0 [] rfl hown0 ad n cap cs rfl hlen (fun j u hu=>(World.cell?_alloc_lt _ _ _ (World.block_lt_of_cell? _ _ (Hc.out j u hu))).trans (Hc.out j u hu)) h1 (by unfold maxLen;omega) (by omega) (by simp) ?_;intro v1 w1 hown1 hg1 hat1)
  go_ret
  refine⟨v1,rfl,by simpa using hown1,((Below.refl _ _).alloc (Nat.le_refl _) _).grown hg1 (by simp) (fun k hk=>?_)⟩
  cases hk
  exact Nat.le_refl _
end Go.Proofs.YtapgojgcmlnbgacGreat
namespace Go.Proofs.YtapgojgcmlnbgacGreat
open Go Go.RowKit
def Acm (w:World) (Y:Core) (e:Ending) (w':World):Prop:=
 Below w.heap.size w w'∧∃ vc vm,e = .returned (.tuple #[.agg (Bu vc Y.hart vm Y.cycles Y.taken Y.backs), .int .i64 0])∧w'.ownsRow w.heap.size 67 11 vc Y.commits.length (Eo Y.commits)∧w'.ownsRow w.heap.size 5 1 vm Y.mem.length (Y.mem.map (.int .u8))
theorem Agt {w w':World} {base:Nat} {e:TypeId} {size:Nat} {v:Value} {n:Nat} {xs:List Value} (ho:w.ownsRow base e size v n xs) {g:Nat} (k:w.grownBy w' (some g)) (hg:g<base):w'.ownsRow base e size v n xs:=
 ⟨ho.1,ho.2.imp id fun⟨j,cap,cur,e,l,hh,r⟩=>⟨j,cap,cur,e,l,by
  have hj:j<w.heap.size:=by
   rcases Nat.lt_or_ge j w.heap.size with h' | h'
   ·exact h'
   ·rw [Array.getElem?_eq_none h'] at hh;cases hh
  rw [←hh]
  exact k.block j hj (fun e=>by injection e;omega),r⟩⟩
theorem Aax {B:Nat} {w:World} {g:Nat} (hg:B≤g) (a b c pc:Int) {A:Option Addr} {cap:Nat} {sc:List Int} (h1:sc.length≤cap) (h2:cap≤9223372036854775807) (h3:Aq w B .i64 A sc) (h4:A=none→sc=[]∧cap=0) :
  Cv B w g (Ah0 (.slice A sc.length cap)) [] (Oc a b c sc pc).commits (Oc a b c sc pc).mem (Oc a b c sc pc).slots (Oc a b c sc pc).access (Oc a b c sc pc).ops (Oc a b c sc pc).names (Oc a b c sc pc).script:=by
 have hz:Kh w A1.zero none 0:=⟨by decide,by decide,rfl,by decide,by decide,fun h=>absurd rfl h,fun _=>⟨rfl,rfl⟩,by decide⟩
 exact⟨hg,World.ownsRow_nil _ _ _ _,World.ownsRow_nil _ _ _ _,World.ownsRow_nil _ _ _ _,World.ownsRow_nil _ _ _ _,Or.inl ⟨rfl,rfl⟩,⟨rfl,fun i u p h _=>(by cases h),List.nodup_nil⟩,hz,fun h=>absurd rfl h,⟨A,cap,rfl,h1,h2,h3,h4⟩⟩
theorem Ra (A:Option Addr) (n c:Nat) (H:Al) (A2:Option Addr) (n2 c2:Nat) (cy tk bk:Int):(Bu (.slice A n c) H (.slice A2 n2 c2) cy tk bk).all (·.oneCell')=true:=by
 have h1:=J1 H
 rw [←Array.all_toList] at h1
 unfold Bu
 rw [List.all_toArray,List.all_cons,List.all_append,h1]
 rfl
theorem Rn:(Tryz.prog.info? 32).map (·.size)=some 40:=by kernel_rfl
theorem Aii (a b c:Int) (h:Al) (A:Option Addr) (cap:Nat) (m:List Int) (A2:Option Addr) (cap2:Nat) (sc:List Int) (cycles:Int) (w:World) (ask:Xu a b c h m) (hA:Aq w w.heap.size .u8 A m) (hnil:A=none→m=[])
  (hS:Aq w w.heap.size .i64 A2 sc) (hSn:A2=none→sc=[]∧cap2=0) (hS1:sc.length≤cap2) (hS2:cap2≤9223372036854775807) (hS3:sc.length≤3000) (hSb:∀ x∈sc,x≤9223372036854775807) (hc0:0≤cycles) (hc1:cycles≤6000) :
  Calls Tryz.prog 4 #[.agg #[.int .i64 a, .int .i64 b, .int .i64 c], .agg h.cells, .slice A m.length cap, .slice A2 sc.length cap2, .int .i64 cycles] w (Acm w (Qj a b c h m sc cycles.toNat)):=by
 obtain⟨N,rfl⟩:=Int.eq_ofNat_of_zero_le hc0
 rw [Int.toNat_natCast]
 have hh:=ask.hart.len
 have hroom:=ask.room
 have hpc0:=ask.hart.pc0
 have hpc1:=ask.hart.pc1
 have CC:=Lib.hid (fun W=>Rm a b c W)
 have CM:=Lib.hid (fun W=>Zc h W hh)
 rw [ask.may] at CM
 have hmc:(decide (1≤a)&&decide (a≤32)&&decide (33≤b)&&decide (b≤96)&&decide (1≤c)&&decide (c≤4))=true:=by
  rw [decide_eq_true ask.window.1,decide_eq_true ask.window.2,decide_eq_true ask.phys.1,decide_eq_true ask.phys.2,decide_eq_true ask.wide.1,decide_eq_true ask.wide.2];rfl
 rw [hmc] at CC
 clear hmc
 have f1:decide ((4096:Int)<(m.length:Int))=false:=decide_eq_false (by omega)
 have f2:decide ((3000:Int)<(sc.length:Int))=false:=decide_eq_false (by omega)
 have f3:decide ((N:Int)<0)=false:=decide_eq_false (by omega)
 have f4:decide ((6000:Int)<(N:Int))=false:=decide_eq_false (by omega)
 have CL:=Lib.hid (fun W (hW:Aq W W.heap.size .u8 A m)=>Tb A m.length cap (m.map (.int .u8)) W (by omega) (by simp) (ints_oneCell _ _) hW.cells (fun e=>by rw [hnil e];rfl))
 obtain⟨Y,hY⟩:∃ Y,Qj a b c h m sc N=Y:=⟨_,rfl⟩
 rw [hY]
 have HY:=Lib.hid hY
 have ASK:=Lib.hid ask
 have HA:=Lib.hid hA
 have HSC:=Lib.hid (And.intro hS (And.intro hSn (And.intro hS1 hS2)))
 have HSB:=Lib.hid hSb
 clear hY ask hA hS hSn hS1 hS2 hSb hc0 hnil
 go_enter Tryz.func4,Tryz.ntmps4
 go_upto_region 1 with(fail)
 go_simp
 refine Au fun wa hq=>?_
 have hC:Blk wa w.heap.size 23 #[.int .i64 a, .int .i64 b, .int .i64 c]:=by rw [hq];exact((Blk.new w _ _).alloc _).alloc _
 have hH:Blk wa (w.heap.size+1) 27 h.cells:=by rw [hq];exact(Blk.newAt (w.alloc _) 27 _ (by simp)).alloc _
 have hR:Blk wa (w.heap.size+2) 32 K3:=by rw [hq];exact Blk.newAt ((w.alloc _).alloc _) 32 _ (by simp)
 have hbl:Below w.heap.size w wa:=by rw [hq];exact(((Below.refl _ _).alloc (Nat.le_refl _) _).alloc (by simp) _).alloc (by simp;omega) _
 clear hq
 go_upto_region 8 with(first
  |(refine Ac rfl 23 _ rfl w.heap.size rfl 23 _ _ hC Tryz.underlying23 rfl K8 ?_)
  |(go_at_call 9;(with_reducible refine(CC.out _).mono ?_);rintro e w1 ⟨rfl,hb1⟩;replace hbl:=hbl.trans (hb1.mono hbl.size);replace hR:=hR.ext hb1;replace hH:=hH.ext hb1;replace hC:=hC.ext hb1;clear hb1)
  |(refine K5 rfl fun K hK=>?_;refine Eb 27 _ rfl (w.heap.size+1) rfl 27 _ _ hH Tryz.underlying27 rfl (B7 hh) ?_;refine hK _ _ ?_;clear hK K)
  |(go_at_call 10;(with_reducible refine(CM.out _).mono ?_);rintro e w2 ⟨rfl,hb2⟩;replace hbl:=hbl.trans (hb2.mono hbl.size);replace hR:=hR.ext hb2;replace hH:=hH.ext hb2;replace hC:=hC.ext hb2;clear hb2;have c32:=(hH.cell 32).trans (Al.cells_pc hh).1;have zH:=hH.lt)
  |(refine Ao rfl 62 _ rfl [(0, .agg #[.int .i64 a, .int .i64 b, .int .i64 c]),(2, .slice A2 sc.length cap2),(11, .int .u32 h.pc)] rfl _ (Yc a b c A2 sc.length cap2 h.pc) ?_))
 go_simp
 refine Au fun wz hq=>?_
 have e0:(((((Tryz.zeroCells62.setIfInBounds 0 (.int .i64 a)).setIfInBounds 1 (.int .i64 b)).setIfInBounds 2 (.int .i64 c)).setIfInBounds 43 (.slice A2 sc.length cap2)).setIfInBounds 338 (.int .u32 h.pc))=Ku a b c (.slice A2 sc.length cap2) h.pc:=by kernel_rfl
 rw [e0] at hq
 have hG0:Blk wz w2.heap.size 62 (Ku a b c (.slice A2 sc.length cap2) h.pc):=by rw [hq];exact Blk.new w2 _ _
 have hbz:Below w2.heap.size w2 wz:=by rw [hq];exact(Below.refl _ _).alloc (Nat.le_refl _) _
 have zR:=hR.lt
 replace hC:=hC.ext hbz
 replace hH:=hH.ext hbz
 replace hR:=hR.ext hbz
 replace hbl:=hbl.trans (hbz.mono hbl.size)
 obtain⟨g,hg⟩:∃ g,g=w2.heap.size:=⟨_,rfl⟩
 rw [←hg] at hG0 zR ⊢
 have HI0:Hid (Af w.heap.size wz g (Oc a b c sc h.pc) (Ah0 (.slice A2 sc.length cap2)) [] (Ku a b c (.slice A2 sc.length cap2) h.pc)):=Lib.hid ⟨hbl.size,hG0,Ww a b c _ sc h.pc,Aax (by omega) a b c h.pc HSC.out.2.2.1 HSC.out.2.2.2 (HSC.out.1.below hbl) HSC.out.2.1⟩
 have zg:=hG0.lt
 clear e0 hq hbz hg hG0 c32 f1 f2 f3 f4 CC CM HSC zH
 have HZ:=Lib.hid (And.intro hC (And.intro hH (And.intro hR hbl)))
 have hA0:=HA.out.below hbl
 have HA0:=Lib.hid (hA0.mono hbl.size)
 clear hC hR hbl hA0 HA
 refine Ae 3819 4 3823 [0,1,2,3,4,5,6,7,8,9,10,11,12] (by kernel_rfl) (by kernel_rfl) (by kernel_rfl) rfl ?_
 repeat'(first
  |refine rZ ?_
  |(refine' oR _ (by decide) (by decide) (by decide) (fun wq hwq K hK=>?_) ?_ ?_;rotate_left 1;(· first | ((refine Eb 27 _ rfl (w.heap.size+1) rfl 27 _ _ (hH.ext hwq) Tryz.underlying27 rfl (B7 hh) ?_;exact hK)) | (go_wp2_with(fail);all_goals exact hK));rfl)
  |fail)
 refine oB (fun w3 hw3 K1 hK1=>?_)
 have hb3:Below wz.heap.size wz w3:=by rw [hw3];exact(Below.refl _ _).drew
 clear hw3
 have hA3:=(HA0.out.below hb3).mono hb3.size
 go_wp2_with(go_at_call 11;(with_reducible refine(CL.out _ hA3).mono ?_);rintro e w4 ⟨v,rfl,hM,hb4⟩;obtain⟨A3,cap3,rfl⟩:=Bb hM)
 replace hb4:=hb3.trans (hb4.mono hb3.size)
 have z34:=hb3.size
 replace hM:=Lib.hid (Qd hM z34)
 refine hK1 _ _ hb4 ?_
 simp only [Act.put,sA,sS,sZ]
 clear hK1 K1 hb3 hA3 z34 CL HA0
 refine rO ?_
 refine oS (fun w5 hw5 K1 hK1=>?_)
 rw [←hw5] at hb4 hM
 clear hw5
 have h5:=HI0.out.ext hb4
 obtain⟨s1,s2,s3⟩:=Nl (off:=4) (n:=35) h5.cells.size (by decide) (Al.cells_size hh)
 have S123:=Lib.hid (And.intro s1 (And.intro s2 s3))
 clear s1 s2 s3
 refine Cm 27 _ _ rfl g 4 h.cells rfl rfl 62 _ h5.blk (B7 hh) (by rw [Al.cells_size hh,h5.cells.size];decide) (J1 h) ?_
 intro w6 hB6 hg6
 refine hK1 undef _ (fun _=>True) trivial ?_
 simp only [Act.put,sA,sS,sZ]
 clear hK1 K1
 have h6:=Lib.hid (Af.mk (Nat.le_trans h5.low hg6.size) hB6 (h5.cells.part_hart h S123.out.1 S123.out.2.1 S123.out.2.2) (h5.rows.core h5.low h5.blk hg6))
 have HJ6:=Lib.hid (And.intro ((Ah.below (B:=w.heap.size) hb4).trans (h5.turned hg6)) (Qd (Agt hM.out hg6 zg) HI0.out.low))
 clear h5 S123 hB6 hg6 hb4 hM HI0
 refine rO ?_
 refine oS (fun w7 hw7 K1 hK1=>?_)
 rw [←hw7] at h6 HJ6
 clear hw7
 have k39:=h6.out.cell h6.out.cells.mem
 have f39:=h6.out.blk.frozen 39
 have z7:=h6.out.lt
 have hrows:=h6.out.rows
 have s7:=h6.out.set 39 (.slice A3 m.length cap3) (h6.out.cells.set_mem (.slice A3 m.length cap3) m) ⟨hrows.base,hrows.commits,HJ6.out.2,hrows.slots,hrows.access,hrows.ptrs,hrows.uops,hrows.names,fun hne=>absurd rfl hne,hrows.script⟩
 have HJ7:=Lib.hid (And.intro s7 (HJ6.out.1.trans (h6.out.turned (grownBy_setCell w7 ⟨g,39,none⟩ (.slice A3 m.length cap3)))))
 clear s7 hrows h6 HJ6
 go_wp2_with(fail)
 refine hK1 undef _ (fun _=>True) trivial ?_
 simp only [Act.put,sA,sS,sZ]
 clear hK1 K1 k39 f39 z7
 refine Aj ?_
 rintro w8 hw8
 rw [←hw8] at HJ7
 clear hw8
 have CN:=Lib.hid (fun W=>Aia b W (by have:=ASK.out.phys.1;omega) (by have:=ASK.out.phys.2;omega))
 rw [if_pos ASK.out.phys] at CN
 have hC8:=HJ7.out.2.blk HZ.out.1 (by decide)
 have c1:w8.cell? ⟨w.heap.size,1,none⟩=some (.int .i64 b):=hC8.cell 1
 have zc:=hC8.lt
 have zg8:=HJ7.out.1.lt
 clear hC8 zg
 generalize hL7:({ Ah0 (.slice A2 sc.length cap2) with mem := .slice A3 m.length cap3 }:Lay)=L7 at *
 clear hL7
 go_upto_region 10 with(first
  |(go_at_call 12;(with_reducible refine(CN.out _).mono ?_);rintro e w9 ⟨v9,rfl,hb9,A9,c9,rfl,hm9,hf9⟩;have i9:=D7 (phys:=(Ni b).phys) (A:=A9) (n:=(Ni b).free.length) (cap:=c9) hm9.len;have o9:=E6 (Ni b).phys (Ni b).regs A9 (Ni b).free.length c9;have z9:=B5 (Ni b).phys (Ni b).regs A9 (Ni b).free.length c9 hm9.len;have HN9:=Lib.hid (fun(wy:World) (hB:Blk wy g 62 _) (hg:w9.grownBy wy (some g))=>And.intro (HJ7.out.1.setnames hb9 hm9 hf9 hB hg) (HJ7.out.2.trans ((Ah.below (B:=w.heap.size) hb9).trans ((HJ7.out.1.ext hb9).turned hg))));have HB9:=(HJ7.out.1.ext hb9).blk;have HS9:=HJ7.out.1.cells.size;generalize Ag (Ni b).phys (Ni b).regs A9 (Ni b).free.length c9=T9 at *;clear hm9 hf9 hb9)
  |(refine Co rfl 55 _ _ rfl g 108 T9 rfl rfl 62 _ HB9 i9 (by rw [z9,HS9];decide) o9 ?_;intro w10 hB10 hg10))
 go_simp
 have hj10:=HN9.out w10 hB10 hg10
 obtain⟨C8,hC8⟩:∃ C8,C8=({ Oc a b c sc h.pc with hart:=h,mem:=m,names:=Ni b }:Core):=⟨_,rfl⟩
 obtain⟨LA,ca,h10⟩:∃ LA ca,Af w.heap.size w10 g { C8 with words:=Jl h.regs 0,there:=J9 0 } LA [] ca:=by
  rw [hC8]
  exact⟨_,_,hj10.1⟩
 have HJA:=Lib.hid (And.intro h10 hj10.2)
 have HCE:Hid ({ C8 with words:=Jl h.regs 32,there:=J9 32 }=Kl a b c h m sc):=Lib.hid (by
  rw [hC8,Acg hh,Aca]
  rfl)
 clear HN9 hB10 hg10 hj10 h10 hC8 HB9 HS9 i9 o9 z9 HJ7 CN c1 zc zg8
 go_upto_region 11 with(fail)
 go_loopw [13,68] (fun v13 v68 wr=>∃ (k:Nat) (LX:Lay) (cx:Array Value),v68 = .int .i64 k∧k≤32∧Hid (Af w.heap.size wr g { C8 with words:=Jl h.regs k,there:=J9 k } LX [] cx∧Ah w.heap.size wz wr)) (fun _ v _=>33 - (intOf v).toNat)
 case atStart=>exact⟨0,_,_,rfl,by omega,HJA⟩
 case round=>
  clear HJA
  obtain⟨k,LX,cx,rfl,hk,HR⟩:=hrel
  by_cases hlt:k<32
  ·have e1:decide (k<32)=true:=decide_eq_true hlt
   go_upto_region 13 with(fail)
   go_simp
   have hHr:=HR.out.2.blk HZ.out.2.1 (by decide)
   have cR:wr.cell? ⟨w.heap.size+1,k,none⟩=some (.int .u32 (h.regs.getD k 0)):=(hHr.cell k).trans (Al.cells_reg (by rw [hh];exact hlt))
   have zR1:=hHr.lt
   obtain⟨rv,hrv⟩:∃ rv,h.regs.getD k 0=rv:=⟨_,rfl⟩
   rw [hrv] at cR
   have RV:=Lib.hid hrv
   clear hHr hrv
   refine Ae 30591 128 30719 [0,1,2,3,4,5,6,7,8,9,10,12,13,11,14,15] (by kernel_rfl) (by kernel_rfl) (by kernel_rfl) rfl ?_
   refine rR (fun wq hwq=>hwq.at_ zR1 cR) ?_
   refine oS (fun w11 hw11 K1 hK1=>?_)
   have hb11:Below wr.heap.size wr w11:=by rw [hw11];exact(Below.refl _ _).drew
   clear hw11
   have h11:=HR.out.1.ext hb11
   have k142:w11.cell? ⟨g,142+k,none⟩=some (.int .u32 ((Jl h.regs k).getD k 0)):=h11.cell (h11.cells.words k (by omega))
   have f142:=h11.blk.frozen (142+k)
   have z11:=h11.lt
   have s11:=h11.set (142+k) (.int .u32 rv) (h11.cells.set_word k (by omega) (Ach hh hk) rv) h11.rows
   have HJ11:=Lib.hid (And.intro s11 ((HR.out.2.trans (Ah.below (B:=w.heap.size) hb11)).trans (h11.turned (grownBy_setCell w11 ⟨g,142+k,none⟩ (.int .u32 rv)))))
   clear h11 s11 hb11 HR cR zR1
   go_wp2_with(fail)
   refine hK1 undef _ (fun _=>True) trivial ?_
   simp only [Act.put,sA,sS,sZ]
   clear hK1 K1 k142 f142 z11
   refine rO ?_
   refine oS (fun w12 hw12 K1 hK1=>?_)
   rw [←hw12] at HJ11
   clear hw12
   have h12:=HJ11.out.1
   have k238:w12.cell? ⟨g,238+k,none⟩=some (.bool ((J9 k).getD k false)):=h12.cell (h12.cells.there k (by omega))
   have f238:=h12.blk.frozen (238+k)
   have z12:=h12.lt
   have s12:=h12.set (238+k) (.bool true) (h12.cells.set_there k (by omega) (Acb (by omega)) true) h12.rows
   have HJ12:=Lib.hid (And.intro s12 (HJ11.out.2.trans (h12.turned (grownBy_setCell w12 ⟨g,238+k,none⟩ (.bool true)))))
   clear h12 s12 HJ11
   go_wp2_with(fail)
   refine hK1 undef _ (fun _=>True) trivial ?_
   simp only [Act.put,sA,sS,sZ]
   clear hK1 K1 k238 f238 z12
   refine Aj ?_
   rintro w13 hw13
   rw [←hw13] at HJ12
   clear hw13
   obtain⟨LB,cb,h13⟩:∃ LB cb,Af w.heap.size w13 g { C8 with words:=Jl h.regs (k+1),there:=J9 (k+1) } LB [] cb:=by
    rw [←Aci hh hlt,←Acd (show k<96 by omega),show h.regs.getD k 0=rv from RV.out]
    exact⟨_,_,HJ12.out.1⟩
   have HJ13:=Lib.hid (And.intro h13 HJ12.out.2)
   clear h13 HJ12
   go_wp2_with(fail)
   go_roundw
   case rel=>exact⟨k+1,_,_,by go_num,by omega,HJ13⟩
   case measure=>simp [intOf];omega
  ·have e1:decide (k<32)=false:=decide_eq_false hlt
   obtain rfl:k=32:=by omega
   have HRE:Hid (Af w.heap.size wr g (Kl a b c h m sc) LX [] cx∧Ah w.heap.size wz wr):=Lib.hid ⟨by rw [←HCE.out];exact HR.out.1,HR.out.2⟩
   clear HR HCE
   go_upto_region 15 with(fail)
   have HR0:=HRE
   clear HRE
   have HL0:Hid (Lp4 (Kl a b c h m sc) Y N (100*((N:Int) - (N:Int))) sc):=Lib.hid (by
    refine⟨?_,HY.out,⟨⟨Int.le_refl _,by show(0:Int)≤_;omega⟩,⟨Int.le_refl _,by show(0:Int)≤_;omega⟩,⟨Int.le_refl _,by show(0:Int)≤_;omega⟩,by show((0:Nat):Int)≤_;omega,⟨Int.le_refl _,by show(0:Int)≤_;omega⟩⟩,fun x hx=>hx,hh⟩
    by_cases hs:h.state=0
    ·exact Or.inr ⟨_,Ob ASK.out hs sc⟩
    ·exact Or.inl hs)
   clear HY
   go_loopw [101] (fun _ wx=>∃ (r:Nat) (X:Core) (LX:Lay) (px:List Nat) (cx:Array Value),r≤N∧Hid (X.cycles+r=(N:Int))∧Hid (Af w.heap.size wx g X LX px cx∧Ah w.heap.size wz wx)∧Hid (Lp4 X Y r (100*((N:Int) - (r:Int))) sc)) (fun _ wx=>N - (intOf ((wx.cell? ⟨g,40,none⟩).getD undef)).toNat)
   case atStart=>exact⟨N,Kl a b c h m sc,_,_,_,Nat.le_refl _,Lib.hid (by show(0:Int)+N=N;omega),HR0,HL0⟩
   case round=>
    clear HR0 HL0
    obtain⟨r,X,LX,px,cx,hr,HCY,HR,HL⟩:=hrel
    have HHX:=Lib.hid HL.out.hart
    have k40:=HR.out.1.cell HR.out.1.cells.cycles
    have k37:=HR.out.1.hstate HHX.out
    have zg:=HR.out.1.lt
    obtain⟨cy,hcy⟩:∃ cy,X.cycles=cy:=⟨_,rfl⟩
    obtain⟨st,hst⟩:∃ st,X.hart.state=st:=⟨_,rfl⟩
    rw [hcy] at k40
    rw [hst] at k37
    have hcr:cy+r=(N:Int):=by rw [←hcy];exact HCY.out
    by_cases hgo:0<r∧st=0
    ·obtain⟨r2,rfl⟩:∃ r2,r=r2+1:=⟨r - 1,by omega⟩
     obtain⟨hgd,hnx,hcyc⟩:=HL.out.step (by rw [hst];exact hgo.2)
     have CF:=Lib.hid (Adz HR.out.1 hgd HL.out.bd (by omega) (fun x hx=>HSB.out x (HL.out.sub x hx)))
     have HNX:Hid (Lp4 (Ci X) Y r2 (100*((N:Int) - (r2:Int))) sc):=Lib.hid (by
      rw [show(100:Int)*((N:Int) - (r2:Int))=100*((N:Int) - ((r2+1:Nat):Int))+100 by omega]
      exact hnx)
     have HNC:Hid ((Ci X).cycles+r2=(N:Int)):=Lib.hid (by rw [hcyc,hcy];omega)
     have t1:decide (cy<(N:Int))=true:=decide_eq_true (by omega)
     have t2:(st==0)=true:=by rw [hgo.2];rfl
     have HCYC:=Lib.hid hcyc
     have HK40:=Lib.hid k40
     have HCW:=Lib.hid hcy
     have hcy0:0≤cy:=by rw [←hcy];exact HL.out.bd.cycles.1
     have hcyN:cy<N:=by omega
     have hr2:r2≤N:=by omega
     clear hgd hnx hcyc hcy hst hgo hcr HCY HL
     go_wp2_with(go_at_call 13;(with_reducible refine CF.out.mono ?_);rintro e w14 ⟨rfl,ht14,L14,ps14,cs14,h14⟩;have HJ14:=Lib.hid (And.intro h14 (HR.out.2.trans ht14));clear h14 ht14)
     go_roundw
     case rel=>exact⟨_,_,_,_,_,_,_,_,_,_,_,_,_,_,_,_,_,_,⟨r2,Ci X,_,_,_,hr2,HNC,HJ14,HNX⟩,rfl⟩
     case measure=>
      rw [HK40.out,show w14.cell? ⟨g,40,none⟩=some (.int .i64 (Ci X).cycles) from HJ14.out.1.cell HJ14.out.1.cells.cycles,HCYC.out,HCW.out]
      simp only [Option.getD_some,intOf]
      omega
    ·have HXE:Hid (Y=X):=Lib.hid (HL.out.stop (by
      rcases Nat.eq_zero_or_pos r with h0 | h0
      ·exact Or.inl h0
      ·right
       rw [hst]
       exact fun hs=>hgo ⟨h0,hs⟩))
     clear hcy HL HCY
     rcases Nat.eq_zero_or_pos r with h0 | h0
     ·have t1:decide (cy<(N:Int))=false:=decide_eq_false (by omega)
      clear hst hgo hcr
      have HLX:=Lib.hid (HR.out.1.cells.shownX HHX.out)
      obtain⟨AC,cC,hac⟩:=Bb HR.out.1.rows.commits
      obtain⟨AM,cM,ham⟩:=Bb HR.out.1.rows.mem
      have HSZ:=Lib.hid (O9 LX.commits HHX.out LX.mem X.cycles X.taken X.backs)
      have HON:=Lib.hid (Ra AC X.commits.length cC X.hart AM X.mem.length cM X.cycles X.taken X.backs)
      rw [←hac,←ham] at HON
      have HBS:=Lib.hid (HR.out.2.blk HZ.out.2.2.1 (by decide))
      have HGC:=HR.out.1.blk
      have HGS:=HR.out.1.cells.size
      have HXT:Hid (Bu LX.commits X.hart LX.mem X.cycles X.taken X.backs=Bu LX.commits X.hart LX.mem X.cycles X.taken X.backs):=Lib.hid rfl
      clear hac ham
      obtain⟨T,hT⟩:∃ T,T=Bu LX.commits X.hart LX.mem X.cycles X.taken X.backs:=⟨_,rfl⟩
      rw [←hT] at HLX HSZ HON
      have HT:=Lib.hid hT
      clear hT HXT
      go_wp2_with(first
       |(refine Am rfl 32 _ rfl g 3 rfl 62 cx 40 _ HGC Tryz.underlying32 rfl Rn (by rw [HGS];decide) ?_;rw [HLX.out])
       |(refine Ab rfl 32 _ _ rfl (w.heap.size+1+1) T rfl rfl 32 _ HBS.out (I1 HSZ.out) (by rw [HSZ.out];rfl) HON.out ?_;intro w16 hB16 hg16))
      refine bodyPost_ret (Ed rfl rfl rfl (O8 HSZ.out hB16)) rfl ?_
      rw [HXE.out]
      refine⟨below_grown (HR.out.2.toBelow HZ.out.2.2.2 HZ.out.2.2.2.size) hg16 (Nat.le_trans HZ.out.2.2.2.size HR.out.2.size) (by omega),LX.commits,LX.mem,?_,HR.out.1.rows.commits.kept hg16 (Bw HR.out.1.rows.commits HBS.out (by decide)),HR.out.1.rows.mem.kept hg16 (Bw HR.out.1.rows.mem HBS.out (by decide))⟩
      rw [HT.out]
      rfl
     ·have t1:decide (cy<(N:Int))=true:=decide_eq_true (by omega)
      have t2:(st==0)=false:=by
       have:st≠0:=fun hs=>hgo ⟨h0,hs⟩
       simpa using this
      clear hst hgo hcr
      have HLX:=Lib.hid (HR.out.1.cells.shownX HHX.out)
      obtain⟨AC,cC,hac⟩:=Bb HR.out.1.rows.commits
      obtain⟨AM,cM,ham⟩:=Bb HR.out.1.rows.mem
      have HSZ:=Lib.hid (O9 LX.commits HHX.out LX.mem X.cycles X.taken X.backs)
      have HON:=Lib.hid (Ra AC X.commits.length cC X.hart AM X.mem.length cM X.cycles X.taken X.backs)
      rw [←hac,←ham] at HON
      have HBS:=Lib.hid (HR.out.2.blk HZ.out.2.2.1 (by decide))
      have HGC:=HR.out.1.blk
      have HGS:=HR.out.1.cells.size
      have HXT:Hid (Bu LX.commits X.hart LX.mem X.cycles X.taken X.backs=Bu LX.commits X.hart LX.mem X.cycles X.taken X.backs):=Lib.hid rfl
      clear hac ham
      obtain⟨T,hT⟩:∃ T,T=Bu LX.commits X.hart LX.mem X.cycles X.taken X.backs:=⟨_,rfl⟩
      rw [←hT] at HLX HSZ HON
      have HT:=Lib.hid hT
      clear hT HXT
      go_wp2_with(first
       |(refine Am rfl 32 _ rfl g 3 rfl 62 cx 40 _ HGC Tryz.underlying32 rfl Rn (by rw [HGS];decide) ?_;rw [HLX.out])
       |(refine Ab rfl 32 _ _ rfl (w.heap.size+1+1) T rfl rfl 32 _ HBS.out (I1 HSZ.out) (by rw [HSZ.out];rfl) HON.out ?_;intro w16 hB16 hg16))
      refine bodyPost_ret (Ed rfl rfl rfl (O8 HSZ.out hB16)) rfl ?_
      rw [HXE.out]
      refine⟨below_grown (HR.out.2.toBelow HZ.out.2.2.2 HZ.out.2.2.2.size) hg16 (Nat.le_trans HZ.out.2.2.2.size HR.out.2.size) (by omega),LX.commits,LX.mem,?_,HR.out.1.rows.commits.kept hg16 (Bw HR.out.1.rows.commits HBS.out (by decide)),HR.out.1.rows.mem.kept hg16 (Bw HR.out.1.rows.mem HBS.out (by decide))⟩
      rw [HT.out]
      rfl
theorem Sa (a b c:Int) (h:Al) (m k:Nat) (cycles:Int) :
  ((a<1∨32<a∨b<33∨96<b∨c<1∨4<c∨Ir h=false∨4096<m)→Hw a b c h m k cycles=2) ∧
  (¬ (a<1∨32<a∨b<33∨96<b∨c<1∨4<c∨Ir h=false∨4096<m)→Hw a b c h m k cycles=if 3000<k then 1 else if cycles<0∨6000<cycles then 3 else 0):=by
 have hm:Ah4 a b c=false↔(a<1∨32<a∨b<33∨96<b∨c<1∨4<c):=by
  unfold Ah4
  simp only [Bool.and_eq_false_iff,decide_eq_false_iff_not]
  omega
 unfold Hw
 constructor
 ·intro hh
  rw [if_pos]
  rw [hm]
  rcases hh with h1 | h1 | h1 | h1 | h1 | h1 | h1 | h1<;>simp [h1]
 ·intro hh
  rw [if_neg]
  rw [hm]
  intro h2
  apply hh
  rcases h2 with(h1 | h1 | h1 | h1 | h1 | h1) | h1 | h1<;>simp [h1]
theorem Tf (a b c:Int) (h:Al) (A:Option Addr) (cap:Nat) (m:Nat) (A2:Option Addr) (cap2:Nat) (k:Nat) (cycles:Int) (w:World) (hh:h.regs.length=32) (hl:m≤140737488351232) (hl2:k≤4611686018427387904) :
  Calls Tryz.prog 5 #[.agg #[.int .i64 a, .int .i64 b, .int .i64 c], .agg h.cells, .slice A m cap, .slice A2 k cap2, .int .i64 cycles] w fun e w'=>e = .returned (.int .i64 (Hw a b c h m k cycles))∧Below w.heap.size w w':=by
 have CM:=Lib.hid (fun W=>Ag5 h W hh)
 obtain⟨hx2,hxe⟩:=Sa a b c h m k cycles
 generalize Hw a b c h m k cycles=X at *
 have hinfo:=B7 hh
 by_cases q0:a<1
 focus
  have e0:decide (a<1)=true:=decide_eq_true q0
  obtain rfl:X=2:=hx2 (by omega)
  clear hx2 hxe q0
 rotate_left 1
 have e0:decide (a<1)=false:=decide_eq_false q0
 by_cases q1:32<a
 focus
  have e1:decide (32<a)=true:=decide_eq_true q1
  obtain rfl:X=2:=hx2 (by omega)
  clear hx2 hxe q1 q0
 rotate_left 1
 have e1:decide (32<a)=false:=decide_eq_false q1
 by_cases q2:b<33
 focus
  have e2:decide (b<33)=true:=decide_eq_true q2
  obtain rfl:X=2:=hx2 (by omega)
  clear hx2 hxe q2 q0 q1
 rotate_left 1
 have e2:decide (b<33)=false:=decide_eq_false q2
 by_cases q3:96<b
 focus
  have e3:decide (96<b)=true:=decide_eq_true q3
  obtain rfl:X=2:=hx2 (by omega)
  clear hx2 hxe q3 q0 q1 q2
 rotate_left 1
 have e3:decide (96<b)=false:=decide_eq_false q3
 by_cases q4:c<1
 focus
  have e4:decide (c<1)=true:=decide_eq_true q4
  obtain rfl:X=2:=hx2 (by omega)
  clear hx2 hxe q4 q0 q1 q2 q3
 rotate_left 1
 have e4:decide (c<1)=false:=decide_eq_false q4
 by_cases q5:4<c
 focus
  have e5:decide (4<c)=true:=decide_eq_true q5
  obtain rfl:X=2:=hx2 (by omega)
  clear hx2 hxe q5 q0 q1 q2 q3 q4
 rotate_left 1
 have e5:decide (4<c)=false:=decide_eq_false q5
 rcases hm:Ir h with _ | _
 focus
  rw [hm] at CM
  obtain rfl:X=2:=hx2 (by simp [hm])
  clear hx2 hxe hm q0 q1 q2 q3 q4 q5
 rotate_left 1
 rw [hm] at CM hxe hx2
 by_cases q6:4096<m
 focus
  have e6:decide ((4096:Int)<(m:Int))=true:=decide_eq_true (by omega)
  obtain rfl:X=2:=hx2 (by omega)
  clear hx2 hxe hm q6 q0 q1 q2 q3 q4 q5
 rotate_left 1
 have e6:decide ((4096:Int)<(m:Int))=false:=decide_eq_false (by omega)
 have hx:=hxe (by simp;omega)
 clear hx2 hxe hm q6 q0 q1 q2 q3 q4 q5
 by_cases q7:3000<k
 focus
  have e7:decide ((3000:Int)<(k:Int))=true:=decide_eq_true (by omega)
  obtain rfl:X=1:=by rw [hx,if_pos q7]
  clear hx q7
 rotate_left 1
 have e7:decide ((3000:Int)<(k:Int))=false:=decide_eq_false (by omega)
 rw [if_neg q7] at hx
 by_cases q8:cycles<0
 focus
  have e8:decide (cycles<0)=true:=decide_eq_true q8
  obtain rfl:X=3:=by rw [hx,if_pos (Or.inl q8)]
  clear hx q7 q8
 rotate_left 1
 have e8:decide (cycles<0)=false:=decide_eq_false q8
 by_cases q9:6000<cycles
 focus
  have e9:decide (6000<cycles)=true:=decide_eq_true q9
  obtain rfl:X=3:=by rw [hx,if_pos (Or.inr q9)]
  clear hx q7 q8 q9
 rotate_left 1
 have e9:decide (6000<cycles)=false:=decide_eq_false q9
 obtain rfl:X=0:=by rw [hx,if_neg (by omega)]
 clear hx q7 q8 q9
 rotate_left 1
 rotate_left 2
 rotate_left 3
 rotate_left 4
 rotate_left 5
 rotate_left 6
 rotate_left 7
 rotate_left 8
 rotate_left 9
 rotate_left 10
 rotate_left 11
 all_goals
  go_enter Tryz.func5,Tryz.ntmps5
  go_upto_region 1 with(fail)
  go_simp
  refine Au fun wa hq=>?_
  have hC:Blk wa w.heap.size 23 #[.int .i64 a, .int .i64 b, .int .i64 c]:=by rw [hq];exact(Blk.new w _ _).alloc _
  have hH:Blk wa (w.heap.size+1) 27 h.cells:=by rw [hq];exact Blk.newAt (w.alloc _) 27 _ (by simp)
  have hbl:Below w.heap.size w wa:=by rw [hq];exact((Below.refl _ _).alloc (Nat.le_refl _) _).alloc (by simp) _
  clear hq
  have c0:wa.cell? ⟨w.heap.size,0,none⟩=some (.int .i64 a):=hC.cell 0
  have c1:wa.cell? ⟨w.heap.size,1,none⟩=some (.int .i64 b):=hC.cell 1
  have c2:wa.cell? ⟨w.heap.size,2,none⟩=some (.int .i64 c):=hC.cell 2
  have zC:=hC.lt
  clear hC
  go_wp2_with(first
   |(refine K5 rfl fun K hK=>?_;refine Eb 27 _ rfl (w.heap.size+1) rfl 27 _ _ hH Tryz.underlying27 rfl hinfo ?_;refine hK _ _ ?_;clear hK K)
   |(go_at_call 14;(with_reducible refine(CM.out _).mono ?_);rintro e w2 ⟨rfl,hb2⟩;replace hbl:=hbl.trans (hb2.mono hbl.size);clear hb2))
  go_ret
  exact⟨rfl,hbl⟩
theorem Afr {a b c:Int} {h:Al} {m:List Int} {k:Nat} {cycles:Int} (hh:h.Wf) (hm:Bytes m) (hw:Hw a b c h m.length k cycles=0):Xu a b c h m∧k≤3000∧0≤cycles∧cycles≤6000:=by
 obtain⟨hx2,hxe⟩:=Sa a b c h m.length k cycles
 by_cases h2:(a<1∨32<a∨b<33∨96<b∨c<1∨4<c∨Ir h=false∨4096<m.length)
 ·rw [hx2 h2] at hw;cases hw
 ·have he:=hxe h2
  rw [hw] at he
  have hmay:Ir h=true:=by
   rcases e:Ir h with _ | _
   ·exact absurd (by simp [e]) h2
   ·rfl
  have h3:¬ 3000<k:=fun hk=>by rw [if_pos hk] at he;cases he
  rw [if_neg h3] at he
  have h4:¬ (cycles<0∨6000<cycles):=fun hk=>by rw [if_pos hk] at he;cases he
  exact⟨⟨by omega,by omega,by omega,hh,hmay,hm,by omega⟩,by omega,by omega,by omega⟩
theorem Ag7 (vc:Value) {H:Al} (hl:H.regs.length=32) (vm:Value) (cy tk bk:Int) :
  (Bu vc H vm cy tk bk)[0]? = some vc∧(Bu vc H vm cy tk bk)[34]? = some (.int .i64 H.state)∧(Bu vc H vm cy tk bk)[37]? = some (.int .i64 cy):=by
 have hz:=Al.cells_size hl
 unfold Bu
 refine⟨rfl,?_,?_⟩
 ·rw [List.getElem?_toArray,List.getElem?_cons_succ,List.getElem?_append_left (by simp [hz])]
  have:=(Al.cells_pc hl).2.1
  simpa using this
 ·rw [List.getElem?_toArray,List.getElem?_cons_succ,List.getElem?_append_right (by simp [hz])]
  simp [hz]
end Go.Proofs.YtapgojgcmlnbgacGreat
namespace Go.Proofs.YtapgojgcmlnbgacGreat
open Go.RowKit
theorem Tc:(Tryz.prog.info? 67).map (·.size)=some 11:=by kernel_rfl
theorem Aep (A A':Option Addr) (cap cap':Nat) (l:List Com) (w:World) (hl:l.length≤1000000) (hw:∀ c∈l,c.Wf) (hA:Ex w w.heap.size A l) (hA':Ex w w.heap.size A' l) :
  Calls Tryz.prog 7 #[.slice A l.length cap, .slice A' l.length cap'] w fun e w'=>e = .returned (.bool true)∧Below w.heap.size w w':=by
 obtain⟨N,hN⟩:∃ N,N=l.length:=⟨_,rfl⟩
 rw [←hN] at hl ⊢
 have HA:=Lib.hid hA
 have HA':=Lib.hid hA'
 have HW:=Lib.hid hw
 have HN:=Lib.hid hN
 clear hA hA' hw hN
 have e0:((N:Int) != (N:Int))=false:=by simp
 go_enter Tryz.func7,Tryz.ntmps7
 go_upto_region 4 with(fail)
 clear e0
 go_loopw [5] (fun v wr=>∃ k:Nat,v = .int .i64 k∧k≤N∧Below w.heap.size w wr) (fun v _=>N+1 - (intOf v).toNat)
 case atStart=>exact⟨0,rfl,Nat.zero_le _,Below.refl _ _⟩
 case round=>
  obtain⟨k,rfl,hk,hb⟩:=hrel
  by_cases hlt:k<N
  ·have hk':k<l.length:=by rw [←HN.out];exact hlt
   obtain⟨g,cur,rfl,hgB,hB,hs,he⟩:=(HA.out.below hb).at_ hk'
   obtain⟨g',cur',rfl,hgB',hB',hs',he'⟩:=(HA'.out.below hb).at_ hk'
   have hc:=Lib.hid (Ahk (HW.out _ (List.getElem_mem hk')))
   generalize l[k]=c at he he' hc
   have He:=Lib.hid he
   have He':=Lib.hid he'
   clear he he'
   go_upto_region 6 with(fail)
   refine As (by kernel_rfl) (by kernel_rfl) ?_
   repeat'(first
    |refine Br rfl ?_
    |(refine' Bg _ (fun wq hwq K hK=>?_) ?_ ?_;rotate_left 1;(· first | ((first | (refine Ax 67 _ rfl g (k*11) rfl 67 cur 11 _ (hB.ext hwq) Tryz.underlying67 rfl Tc hs ?_;rw [He.out];exact hK _ hwq) | (refine Ax 67 _ rfl g' (k*11) rfl 67 cur' 11 _ (hB'.ext hwq) Tryz.underlying67 rfl Tc hs' ?_;rw [He'.out];exact hK _ hwq) | (refine Xs 67 _ _ _ rfl c.cells rfl rfl Ado (Aer _ (hc.out _)) ?_;exact hK _ hwq))) | (go_wp2_with(fail);all_goals exact hK _ hwq));rfl)
    |((first | refine Bi rfl rfl rfl ?_ ?_ | refine Bh rfl rfl rfl ?_ ?_)<;>intro hc<;>first | (cases hc;done) | ((try cases hc);simp only [Act.put,sA,sS,sZ]))
    |refine Bj rfl rfl rfl ?_)
   all_goals
    refine Ch ?_
    intro w9 hw9
    simp only [Act.put,sA,sS,sZ]
    have hb9:=hb.trans (hw9.mono hb.size)
    go_wp2
    go_roundw
    case rel=>exact⟨k+1,by go_num,by omega,hb9⟩
    case measure=>simp [intOf];omega
  ·obtain rfl:k=N:=by omega
   have e1:decide ((k:Int)<k)=false:=by simp
   go_wp2
   go_ret
   exact⟨rfl,hb⟩
section
variable {P:Program} {fn:Func} {tmps:Array Value} {w:World} {ad:Addr} {v x y z:Value} {p a b c:Tmp} {ty:TypeId}
theorem R6 (h:fn.results=#[.tmp a, .cell p ty, .tmp b]) (hp:tmps.getD p undef = .pointer (some ad)) (ha:tmps.getD a undef=x) (hb:tmps.getD b undef=y)
  (hl:(loadVar ty ad).run P w = .ok v w):(results fn tmps).run P w = .ok (.tuple #[x,v,y]) w:=by
 have hp':tmps[p]?.getD undef = .pointer (some ad):=by simpa using hp
 have ha':tmps[a]?.getD undef=x:=by simpa using ha
 have hb':tmps[b]?.getD undef=y:=by simpa using hb
 simp [results,h,hp',ha',hb',asAddr,hl]
end
theorem Aie {w w':World} {base:Nat} {e:TypeId} {size:Nat} {v:Value} {n:Nat} {xs:List Value} (ho:w.ownsRow base e size v n xs) {b:Nat} {mo:Option Nat} (k:Two (some b) mo w w') (hb:b<base) (hm:∀ j,mo=some j→j<base):w'.ownsRow base e size v n xs:=
 ⟨ho.1,ho.2.imp id fun⟨g,cap,cur,e,l,hh,r⟩=>⟨g,cap,cur,e,l,by
  have hg:g<w.heap.size:=by
   rcases Nat.lt_or_ge g w.heap.size with h' | h'
   ·exact h'
   ·rw [Array.getElem?_eq_none h'] at hh;cases hh
  rw [←hh]
  exact k.block g hg (fun e=>by injection e;omega) (fun e=>by have:=hm g e.symm;omega),r⟩⟩
theorem Xb {w w':World} {base:Nat} {e:TypeId} {size:Nat} {v:Value} {n:Nat} {xs:List Value} (ho:w.ownsRow base e size v n xs) {g:Nat} (k:w.grownBy w' (some g)) (hg:g<base):w'.ownsRow base e size v n xs:=
 Aie ho (b:=g) (mo:=none) ⟨k.os,k.tape,k.output,k.size,fun j hj h1 _=>k.block j hj h1⟩ hg (fun j hj=>by cases hj)
theorem Jj (n:Int) (w:World) (h0 : -9223372036854775808≤n) (h1:n≤9223372036854775807) :
  Calls Tryz.prog 23 #[.int .i64 n] w fun e w'=>e = .returned (.int .u32 (n%4294967296))∧w=w':=by
 generalize hx:n%4294967296=x
 have Hx:=Lib.hid hx
 clear hx
 by_cases hn:0≤n
 ·go_enter Tryz.func23,Tryz.ntmps23
  go_wp2
  all_goals
   go_ret
   refine⟨Ca ?_,rfl⟩
   first | exact Hx.out | (rw [←Hx.out];omega)
 ·have hm:n.tmod 4294967296 = -((-n)%4294967296):=by
   obtain⟨k,rfl⟩:∃ k:Nat,n = -(k:Int):=⟨(-n).toNat,by omega⟩
   rw [Int.neg_tmod,Int.neg_neg]
   rfl
  have hz : -4294967296<n.tmod 4294967296∧n.tmod 4294967296≤0:=by rw [hm];omega
  have Hm:=Lib.hid hm
  obtain⟨z1,z2⟩:=hz
  clear hm
  go_enter Tryz.func23,Tryz.ntmps23
  go_wp2
  all_goals
   go_ret
   refine⟨Ca ?_,rfl⟩
   rw [←Hx.out]
   have hm:=Hm.out
   have hr:n%4294967296=4294967296 - ((-n)%4294967296)∨(n%4294967296=0∧(-n)%4294967296=0):=by omega
   generalize n.tmod 4294967296=t at *
   omega
theorem H4 (k:Nat) (w:World) (hk:k≤61) :
  Calls Tryz.prog 28 #[.int .i64 k] w fun e w'=>e = .returned (.int .i64 (2 ^ k:Nat))∧w=w':=by
 have key:∀ j,j≤k→(2 ^ j:Nat)≤2305843009213693952:=fun j hj=>by
  have:(2 ^ j:Nat)≤2 ^ 61:=Nat.pow_le_pow_right (by omega) (by omega)
  omega
 have Key:=Lib.hid key
 clear key
 go_enter Tryz.func28,Tryz.ntmps28
 go_wp2_with fail
 go_loop [3,4] (fun v3 v4=>∃ (j p:Nat),v3 = .int .i64 p∧v4 = .int .i64 j∧j≤k∧Hid (p=2 ^ j)∧p≤2305843009213693952) (fun _ v4=>k - (intOf v4).toNat)
 case atStart=>exact⟨0,1,rfl,rfl,by omega,rfl,by omega⟩
 case round=>
  obtain⟨j,p,rfl,rfl,hj,Hp,hp⟩:=hrel
  by_cases hlt:j<k
  ·go_wp2
   go_round
   case rel=>exact⟨j+1,p+p,by go_num,by go_num,by omega,Lib.hid (by rw [Hp.out,Nat.pow_succ];omega),by have:=Key.out (j+1) (by omega);rw [Nat.pow_succ,←Hp.out] at this;omega⟩
   case measure=>simp [intOf];omega
  ·obtain rfl:j=k:=by omega
   go_wp2
   go_ret
   exact⟨Ca (by rw [Hp.out];simp),rfl⟩
theorem Hq (a:Int) (w:World) (h0:0≤a) (h1:a≤4294967295) :
  Calls Tryz.prog 58 #[.int .u32 a] w fun e w'=>e = .returned (.int .i64 (sg a))∧w=w':=by
 generalize hx:sg a=x
 have Hx:=Lib.hid hx
 clear hx
 go_enter Tryz.func58,Tryz.ntmps58
 go_wp2
 all_goals
  go_ret
  refine⟨Ca ?_,rfl⟩
  rw [←Hx.out]
  unfold sg
  split<;>omega
theorem Ab0 (b:Bool) (w:World):Calls Tryz.prog 62 #[.bool b] w fun e w'=>e = .returned (.int .u32 (if b=true then 1 else 0))∧w=w':=by
 cases b
 all_goals
  go_enter Tryz.func62,Tryz.ntmps62
  go_wp2
  go_ret
  exact⟨rfl,rfl⟩
theorem Ace (a b:Int) (hb:1≤b):(a.tmod b=a%b∧(0≤a.tmod b))∨(a.tmod b=a%b - b∧a.tmod b<0):=by
 have h1:=Int.emod_nonneg a (show b≠0 by omega)
 have h2:=Int.emod_lt_of_pos a (show 0<b by omega)
 rw [Int.tmod_eq_emod]
 split
 ·left;omega
 ·right
  rw [Int.natAbs_of_nonneg (by omega)]
  omega
theorem V0 (a b:Int) (w:World) (h0 : -4611686018427387904≤a) (h1:a≤4611686018427387904) (h2:1≤b) (h3:b≤4294967296) :
  Calls Tryz.prog 61 #[.int .i64 a, .int .i64 b] w fun e w'=>e = .returned (.int .i64 (a / b))∧w=w':=by
 have e1:=Int.emod_nonneg a (show b≠0 by omega)
 have e2:=Int.emod_lt_of_pos a (show 0<b by omega)
 have e3:(a - a%b).tdiv b=a / b:=by
  rw [show a - a%b=a / b*b by have:=Int.mul_ediv_add_emod a b;rw [Int.mul_comm];omega]
  exact Int.mul_tdiv_cancel _ (by omega)
 have hq : -4611686018427387904≤a / b∧a / b≤4611686018427387904:=by
  rcases Int.lt_or_le a 0 with ha | ha
  ·have k1:a≤a / b:=Int.le_ediv_of_mul_le (by omega) (by
    have:=Int.mul_le_mul_of_nonpos_left (show a≤0 by omega) h2
    rw [Int.mul_one] at this
    exact this)
   have k2:=Int.ediv_neg_of_neg_of_pos ha (show 0<b by omega)
   omega
  ·have k1:=Int.ediv_nonneg ha (show 0≤b by omega)
   have k2:=Int.ediv_le_self b ha
   omega
 obtain⟨q1,q2⟩:=hq
 rcases Ace a b h2 with⟨t1,t2⟩ | ⟨t1,t2⟩
 ·generalize a / b=q at e3 q1 q2 ⊢
  generalize a%b=r at e1 e2 e3 t1
  go_enter Tryz.func61,Tryz.ntmps61
  go_wp2
  all_goals
   go_ret
   exact⟨rfl,rfl⟩
 ·generalize a / b=q at e3 q1 q2 ⊢
  generalize a%b=r at e1 e2 e3 t1
  have e4:r - b+b=r:=by omega
  go_enter Tryz.func61,Tryz.ntmps61
  go_wp2
  all_goals
   go_ret
   exact⟨rfl,rfl⟩
theorem Afg (a b:Int):(a*(b / 65536)+a*(b%65536) / 65536) / 65536=a*b / 4294967296:=by
 have h:a*b=a*(b%65536)+a*(b / 65536)*65536:=by
  rw [Int.mul_assoc,←Int.mul_add]
  congr 1
  omega
 rw [h,show(4294967296:Int)=65536*65536 from rfl,←Int.ediv_ediv_of_nonneg (by omega),Int.add_mul_ediv_right _ _ (by omega),Int.add_comm]
theorem Aff (a b:Int) (w:World) (h0 : -2147483648≤a) (h1:a≤4294967295) (h2:0≤b) (h3:b≤4294967295) :
  Calls Tryz.prog 63 #[.int .i64 a, .int .i64 b] w fun e w'=>e = .returned (.int .u32 (a*b / 4294967296%4294967296))∧w=w':=by
 have hl:=Afg a b
 obtain⟨m1,m2⟩:=Jq (a:=a) (b:=b / 65536) (A:=4294967296) (B:=65536) (by omega) (by omega)
 obtain⟨m3,m4⟩:=Jq (a:=a) (b:=b%65536) (A:=4294967296) (B:=65536) (by omega) (by omega)
 rw [←hl]
 clear hl
 generalize hb1:b / 65536=b1 at m1 m2 ⊢
 generalize hb2:b%65536=b2 at m3 m4 ⊢
 generalize hp:a*b1=p at m1 m2 ⊢
 generalize hq:a*b2=q at m3 m4 ⊢
 go_enter Tryz.func63,Tryz.ntmps63
 go_wp2_with(first
  |(go_at_call 61;(with_reducible refine(V0 _ _ _ (by omega) (by omega) (by omega) (by omega)).mono ?_);rintro e w1 ⟨rfl,rfl⟩)
  |(go_at_call 23;(with_reducible refine(Jj _ _ (by omega) (by omega)).mono ?_);rintro e w1 ⟨rfl,rfl⟩))
 go_ret
 exact⟨rfl,rfl⟩
theorem S4 (x i:Nat):x%2 ^ (i+1)=x%2 ^ i+(if x.testBit i=true then 2 ^ i else 0):=by
 rw [Nat.pow_succ,Nat.mod_mul,Nat.testBit_eq_decide_div_mod_eq]
 rcases Nat.mod_two_eq_zero_or_one (x / 2 ^ i) with h | h<;>simp [h]
theorem X8 (a b:Nat) (w:World) (ha:a<4294967296) (hb:b<4294967296) :
  Calls Tryz.prog 60 #[.int .i64 37, .int .u32 a, .int .u32 b] w fun e w'=>e = .returned (.int .u32 ((a &&& b:Nat):Int))∧w=w':=by
 have hF:a &&& b<2 ^ 32:=Nat.and_lt_two_pow _ (by omega)
 have hbit:∀ i,(a &&& b).testBit i=(a.testBit i&&b.testBit i):=fun i=>by rw [Nat.testBit_and]
 generalize a &&& b=F at hF hbit ⊢
 have Hbit:=Lib.hid hbit
 clear hbit
 go_enter Tryz.func60,Tryz.ntmps60
 go_wp2
 go_loopw [7,8,9,10] (fun v7 v8 v9 v10 wr=>∃ i:Nat,v7 = .int .i64 ((a / 2 ^ i:Nat):Int)∧v8 = .int .i64 ((b / 2 ^ i:Nat):Int)∧v9 = .int .i64 ((F%2 ^ i:Nat):Int)∧v10 = .int .i64 i∧i≤32∧wr=w) (fun _ _ _ v _=>32 - (intOf v).toNat)
 case atStart=>exact⟨0,by simp,by simp,by simp [Nat.mod_one],rfl,by omega,rfl⟩
 case round=>
  obtain⟨i,rfl,rfl,rfl,rfl,hi,rfl⟩:=hrel
  by_cases hlt:i<32
  ·have s1:=S4 F i
   rw [Hbit.out i,Nat.testBit_eq_decide_div_mod_eq,Nat.testBit_eq_decide_div_mod_eq] at s1
   have d1:a / 2 ^ (i+1)=a / 2 ^ i / 2:=by rw [Nat.pow_succ,Nat.div_div_eq_div_mul]
   have d2:b / 2 ^ (i+1)=b / 2 ^ i / 2:=by rw [Nat.pow_succ,Nat.div_div_eq_div_mul]
   have x1:a / 2 ^ i≤a:=Nat.div_le_self _ _
   have x2:b / 2 ^ i≤b:=Nat.div_le_self _ _
   have x3:F%2 ^ i<2 ^ i:=Nat.mod_lt _ (Nat.two_pow_pos i)
   have x4:2 ^ i≤2 ^ 31:=Nat.pow_le_pow_right (by omega) (by omega)
   have D1:=Lib.hid d1
   have D2:=Lib.hid d2
   clear d1 d2
   generalize hx:a / 2 ^ i=x at x1 s1 ⊢
   generalize hy:b / 2 ^ i=y at x2 s1 ⊢
   generalize hz:F%2 ^ i=z at x3 s1 ⊢
   generalize hP:2 ^ i=P at x3 x4 s1
   have S1:=Lib.hid s1
   have HX:=Lib.hid hx
   have HY:=Lib.hid hy
   have HP:=Lib.hid hP
   clear s1 hx hy hz hP
   have hx2:(x%2=0∧(x:Int)%2=0)∨(x%2=1∧(x:Int)%2=1):=by omega
   have hy2:(y%2=0∧(y:Int)%2=0)∨(y%2=1∧(y:Int)%2=1):=by omega
   rcases hx2 with⟨hx,hx'⟩ | ⟨hx,hx'⟩<;>rcases hy2 with⟨hy,hy'⟩ | ⟨hy,hy'⟩
   all_goals
    have S2:=S1.out
    rw [hx,hy] at S2
    have S3:=Lib.hid S2
    clear S2 hx hy
    go_wp2_with(go_at_call 28;(with_reducible refine(H4 i _ (by omega)).mono ?_);rintro e w1 ⟨rfl,rfl⟩;rw [HP.out])
    go_roundw
    case rel=>exact⟨i+1,by rw [D1.out,HX.out];rfl,by rw [D2.out,HY.out];rfl,by rw [S3.out];simp,by go_num,by omega,trivial⟩
    case measure=>simp [intOf];omega
  ·obtain rfl:i=32:=by omega
   rw [Nat.mod_eq_of_lt hF]
   go_wp2_with(go_at_call 23;(with_reducible refine(Jj _ _ (by omega) (by omega)).mono ?_);rintro e w1 ⟨rfl,rfl⟩)
   go_ret
   exact⟨Ca (by omega),rfl⟩
theorem Aap (a b:Nat) (w:World) (ha:a<4294967296) (hb:b<4294967296) :
  Calls Tryz.prog 60 #[.int .i64 36, .int .u32 a, .int .u32 b] w fun e w'=>e = .returned (.int .u32 ((a ||| b:Nat):Int))∧w=w':=by
 have hF:a ||| b<2 ^ 32:=Nat.or_lt_two_pow (by omega) (by omega)
 have hbit:∀ i,(a ||| b).testBit i=(a.testBit i || b.testBit i):=fun i=>by rw [Nat.testBit_or]
 generalize a ||| b=F at hF hbit ⊢
 have Hbit:=Lib.hid hbit
 clear hbit
 go_enter Tryz.func60,Tryz.ntmps60
 go_wp2
 go_loopw [7,8,9,10] (fun v7 v8 v9 v10 wr=>∃ i:Nat,v7 = .int .i64 ((a / 2 ^ i:Nat):Int)∧v8 = .int .i64 ((b / 2 ^ i:Nat):Int)∧v9 = .int .i64 ((F%2 ^ i:Nat):Int)∧v10 = .int .i64 i∧i≤32∧wr=w) (fun _ _ _ v _=>32 - (intOf v).toNat)
 case atStart=>exact⟨0,by simp,by simp,by simp [Nat.mod_one],rfl,by omega,rfl⟩
 case round=>
  obtain⟨i,rfl,rfl,rfl,rfl,hi,rfl⟩:=hrel
  by_cases hlt:i<32
  ·have s1:=S4 F i
   rw [Hbit.out i,Nat.testBit_eq_decide_div_mod_eq,Nat.testBit_eq_decide_div_mod_eq] at s1
   have d1:a / 2 ^ (i+1)=a / 2 ^ i / 2:=by rw [Nat.pow_succ,Nat.div_div_eq_div_mul]
   have d2:b / 2 ^ (i+1)=b / 2 ^ i / 2:=by rw [Nat.pow_succ,Nat.div_div_eq_div_mul]
   have x1:a / 2 ^ i≤a:=Nat.div_le_self _ _
   have x2:b / 2 ^ i≤b:=Nat.div_le_self _ _
   have x3:F%2 ^ i<2 ^ i:=Nat.mod_lt _ (Nat.two_pow_pos i)
   have x4:2 ^ i≤2 ^ 31:=Nat.pow_le_pow_right (by omega) (by omega)
   have D1:=Lib.hid d1
   have D2:=Lib.hid d2
   clear d1 d2
   generalize hx:a / 2 ^ i=x at x1 s1 ⊢
   generalize hy:b / 2 ^ i=y at x2 s1 ⊢
   generalize hz:F%2 ^ i=z at x3 s1 ⊢
   generalize hP:2 ^ i=P at x3 x4 s1
   have S1:=Lib.hid s1
   have HX:=Lib.hid hx
   have HY:=Lib.hid hy
   have HP:=Lib.hid hP
   clear s1 hx hy hz hP
   have hx2:(x%2=0∧(x:Int)%2=0)∨(x%2=1∧(x:Int)%2=1):=by omega
   have hy2:(y%2=0∧(y:Int)%2=0)∨(y%2=1∧(y:Int)%2=1):=by omega
   rcases hx2 with⟨hx,hx'⟩ | ⟨hx,hx'⟩<;>rcases hy2 with⟨hy,hy'⟩ | ⟨hy,hy'⟩
   all_goals
    have S2:=S1.out
    rw [hx,hy] at S2
    have S3:=Lib.hid S2
    clear S2 hx hy
    go_wp2_with(go_at_call 28;(with_reducible refine(H4 i _ (by omega)).mono ?_);rintro e w1 ⟨rfl,rfl⟩;rw [HP.out])
    go_roundw
    case rel=>exact⟨i+1,by rw [D1.out,HX.out];rfl,by rw [D2.out,HY.out];rfl,by rw [S3.out];simp,by go_num,by omega,trivial⟩
    case measure=>simp [intOf];omega
  ·obtain rfl:i=32:=by omega
   rw [Nat.mod_eq_of_lt hF]
   go_wp2_with(go_at_call 23;(with_reducible refine(Jj _ _ (by omega) (by omega)).mono ?_);rintro e w1 ⟨rfl,rfl⟩)
   go_ret
   exact⟨Ca (by omega),rfl⟩
theorem Ya (a b:Nat) (w:World) (ha:a<4294967296) (hb:b<4294967296) :
  Calls Tryz.prog 60 #[.int .i64 33, .int .u32 a, .int .u32 b] w fun e w'=>e = .returned (.int .u32 ((a ^^^ b:Nat):Int))∧w=w':=by
 have hF:a ^^^ b<2 ^ 32:=Nat.xor_lt_two_pow (by omega) (by omega)
 have hbit:∀ i,(a ^^^ b).testBit i=(a.testBit i ^^ b.testBit i):=fun i=>by rw [Nat.testBit_xor]
 generalize a ^^^ b=F at hF hbit ⊢
 have Hbit:=Lib.hid hbit
 clear hbit
 go_enter Tryz.func60,Tryz.ntmps60
 go_wp2
 go_loopw [7,8,9,10] (fun v7 v8 v9 v10 wr=>∃ i:Nat,v7 = .int .i64 ((a / 2 ^ i:Nat):Int)∧v8 = .int .i64 ((b / 2 ^ i:Nat):Int)∧v9 = .int .i64 ((F%2 ^ i:Nat):Int)∧v10 = .int .i64 i∧i≤32∧wr=w) (fun _ _ _ v _=>32 - (intOf v).toNat)
 case atStart=>exact⟨0,by simp,by simp,by simp [Nat.mod_one],rfl,by omega,rfl⟩
 case round=>
  obtain⟨i,rfl,rfl,rfl,rfl,hi,rfl⟩:=hrel
  by_cases hlt:i<32
  ·have s1:=S4 F i
   rw [Hbit.out i,Nat.testBit_eq_decide_div_mod_eq,Nat.testBit_eq_decide_div_mod_eq] at s1
   have d1:a / 2 ^ (i+1)=a / 2 ^ i / 2:=by rw [Nat.pow_succ,Nat.div_div_eq_div_mul]
   have d2:b / 2 ^ (i+1)=b / 2 ^ i / 2:=by rw [Nat.pow_succ,Nat.div_div_eq_div_mul]
   have x1:a / 2 ^ i≤a:=Nat.div_le_self _ _
   have x2:b / 2 ^ i≤b:=Nat.div_le_self _ _
   have x3:F%2 ^ i<2 ^ i:=Nat.mod_lt _ (Nat.two_pow_pos i)
   have x4:2 ^ i≤2 ^ 31:=Nat.pow_le_pow_right (by omega) (by omega)
   have D1:=Lib.hid d1
   have D2:=Lib.hid d2
   clear d1 d2
   generalize hx:a / 2 ^ i=x at x1 s1 ⊢
   generalize hy:b / 2 ^ i=y at x2 s1 ⊢
   generalize hz:F%2 ^ i=z at x3 s1 ⊢
   generalize hP:2 ^ i=P at x3 x4 s1
   have S1:=Lib.hid s1
   have HX:=Lib.hid hx
   have HY:=Lib.hid hy
   have HP:=Lib.hid hP
   clear s1 hx hy hz hP
   have hx2:(x%2=0∧(x:Int)%2=0)∨(x%2=1∧(x:Int)%2=1):=by omega
   have hy2:(y%2=0∧(y:Int)%2=0)∨(y%2=1∧(y:Int)%2=1):=by omega
   rcases hx2 with⟨hx,hx'⟩ | ⟨hx,hx'⟩<;>rcases hy2 with⟨hy,hy'⟩ | ⟨hy,hy'⟩
   all_goals
    have S2:=S1.out
    rw [hx,hy] at S2
    have S3:=Lib.hid S2
    clear S2 hx hy
    go_wp2_with(go_at_call 28;(with_reducible refine(H4 i _ (by omega)).mono ?_);rintro e w1 ⟨rfl,rfl⟩;rw [HP.out])
    go_roundw
    case rel=>exact⟨i+1,by rw [D1.out,HX.out];rfl,by rw [D2.out,HY.out];rfl,by rw [S3.out];simp,by go_num,by omega,trivial⟩
    case measure=>simp [intOf];omega
  ·obtain rfl:i=32:=by omega
   rw [Nat.mod_eq_of_lt hF]
   go_wp2_with(go_at_call 23;(with_reducible refine(Jj _ _ (by omega) (by omega)).mono ?_);rintro e w1 ⟨rfl,rfl⟩)
   go_ret
   exact⟨Ca (by omega),rfl⟩
theorem Ac1 (x:Int) (w:World) (h0:0≤x) (h1:x≤61) :
  Calls Tryz.prog 28 #[.int .i64 x] w fun e w'=>e = .returned (.int .i64 (2 ^ x.toNat:Nat))∧w=w':=by
 obtain⟨k,rfl⟩:=Int.eq_ofNat_of_zero_le h0
 exact H4 k w (by omega)
theorem X9 (a b:Int) (w:World) (ha0:0≤a) (ha1:a≤4294967295) (hb0:0≤b) (hb1:b≤4294967295) :
  Calls Tryz.prog 60 #[.int .i64 37, .int .u32 a, .int .u32 b] w fun e w'=>e = .returned (.int .u32 (bits .and .u32 a b))∧w=w':=by
 obtain⟨n,rfl⟩:=Int.eq_ofNat_of_zero_le ha0
 obtain⟨m,rfl⟩:=Int.eq_ofNat_of_zero_le hb0
 rw [Wq n m (by omega) (by omega)]
 exact X8 n m w (by omega) (by omega)
theorem Aaq (a b:Int) (w:World) (ha0:0≤a) (ha1:a≤4294967295) (hb0:0≤b) (hb1:b≤4294967295) :
  Calls Tryz.prog 60 #[.int .i64 36, .int .u32 a, .int .u32 b] w fun e w'=>e = .returned (.int .u32 (bits .or .u32 a b))∧w=w':=by
 obtain⟨n,rfl⟩:=Int.eq_ofNat_of_zero_le ha0
 obtain⟨m,rfl⟩:=Int.eq_ofNat_of_zero_le hb0
 rw [Ags n m (by omega) (by omega)]
 exact Aap n m w (by omega) (by omega)
theorem Yb (a b:Int) (w:World) (ha0:0≤a) (ha1:a≤4294967295) (hb0:0≤b) (hb1:b≤4294967295) :
  Calls Tryz.prog 60 #[.int .i64 33, .int .u32 a, .int .u32 b] w fun e w'=>e = .returned (.int .u32 (bits .xor .u32 a b))∧w=w':=by
 obtain⟨n,rfl⟩:=Int.eq_ofNat_of_zero_le ha0
 obtain⟨m,rfl⟩:=Int.eq_ofNat_of_zero_le hb0
 rw [Ac4 n m (by omega) (by omega)]
 exact Ya n m w (by omega) (by omega)
theorem Ajl (a b:Int):sg a*sg b%4294967296=a*b%4294967296:=by
 have h:∀ x,sg x%4294967296=x%4294967296:=fun x=>by unfold sg;split<;>omega
 rw [Int.mul_emod,h,h,←Int.mul_emod]
theorem Aij (a:Int) (s:Nat) (hs:s≤31):a%((2 ^ (32 - s):Nat):Int)*((2 ^ s:Nat):Int)=a*((2 ^ s:Nat):Int)%4294967296:=by
 have h:(4294967296:Int)=((2 ^ s:Nat):Int)*((2 ^ (32 - s):Nat):Int):=by
  rw [←Int.natCast_mul,←Nat.pow_add,show s+(32 - s)=32 by omega]
  rfl
 have hp:(0:Int)<((2 ^ s:Nat):Int):=by have:=Nat.two_pow_pos s;omega
 rw [h,Int.mul_comm a,Int.mul_emod_mul_of_pos _ _ hp,Int.mul_comm]
theorem Yt (a b:Int) (h2:1≤b):(a / b).natAbs≤a.natAbs:=by
 rcases Int.lt_or_le a 0 with ha | ha
 ·have k1:a≤a / b:=Int.le_ediv_of_mul_le (by omega) (by
   have:=Int.mul_le_mul_of_nonpos_left (show a≤0 by omega) h2
   rw [Int.mul_one] at this
   exact this)
  have k2:=Int.ediv_neg_of_neg_of_pos ha (show 0<b by omega)
  omega
 ·have k1:=Int.ediv_nonneg ha (show 0≤b by omega)
  have k2:=Int.ediv_le_self b ha
  omega
theorem O5 (op a b:Int) (w:World) (ha0:0≤a) (ha1:a≤4294967295) (hb0:0≤b) (hb1:b≤4294967295) :
  Calls Tryz.prog 29 #[.int .i64 op, .int .u32 a, .int .u32 b] w fun e w'=>e = .returned (.int .u32 (Mw op a b))∧Below w.heap.size w w':=by
 have l1:=Um ha0 ha1
 have l2:=Ul ha0 ha1
 have l3:=Um hb0 hb1
 have l4:=Ul hb0 hb1
 obtain⟨P,hP,P0,P1⟩:∃ P:Int,P=((2 ^ (b%32).toNat:Nat):Int)∧1≤P∧P≤2147483648:=⟨_,rfl,by have:=Nat.two_pow_pos (b%32).toNat;omega,by have:(2 ^ (b%32).toNat:Nat)≤2 ^ 31:=Nat.pow_le_pow_right (by omega) (by omega);omega⟩
 have HP:=Lib.hid hP
 clear hP
 generalize hX:Mw op a b=X
 have HX:=Lib.hid hX
 clear hX
 by_cases h:op=30
 ·subst h
  obtain⟨Q,hQ,Q0,Q1⟩:∃ Q:Int,Q=((2 ^ (32 - b%32).toNat:Nat):Int)∧1≤Q∧Q≤4294967296:=⟨_,rfl,by have:=Nat.two_pow_pos (32 - b%32).toNat;omega,by have:(2 ^ (32 - b%32).toNat:Nat)≤2 ^ 32:=Nat.pow_le_pow_right (by omega) (by omega);omega⟩
  have HQ:=Lib.hid hQ
  clear hQ
  have hl:=Aij a (b%32).toNat (by omega)
  rw [←HP.out,show 32 - (b%32).toNat=(32 - b%32).toNat by omega,←HQ.out] at hl
  have v0:0≤a%Q*P:=by omega
  have v1:a%Q*P≤4294967295:=by omega
  have HL:=Lib.hid hl
  clear hl
  go_enter Tryz.func29,Tryz.ntmps29
  go_wp2_with(go_at_call 58;(first | with_reducible refine(Hq a _ ha0 ha1).mono ?_ | with_reducible refine(Hq _ _ hb0 hb1).mono ?_);rintro e w1 ⟨rfl,rfl⟩)
  refine As (by kernel_rfl) (by kernel_rfl) ?_
  repeat'(first
   |refine Br rfl ?_
   |(refine' Bg _ (fun wq hwq K hK=>?_) ?_ ?_;rotate_left 1;(· obtain⟨hcq,hfq⟩:=Jc hwq;go_wp2_with(first | (go_at_call 28;(with_reducible refine(Ac1 _ _ (by omega) (by omega)).mono ?_);rintro e w3 ⟨rfl,rfl⟩;(first | rw [←HP.out] | rw [←HQ.out]);exact hK _ hwq) | (go_at_call 23;(with_reducible refine(Jj _ _ (by omega) (by omega)).mono ?_);rintro e w1 ⟨rfl,rfl⟩;exact hK _ hwq));all_goals exact hK _ hwq);rfl)
   |((first | refine Bi rfl rfl rfl ?_ ?_ | refine Bh rfl rfl rfl ?_ ?_)<;>intro hc<;>first | (cases hc;done) | ((try cases hc);simp only [Act.put,sA,sS,sZ]))
   |refine Bj rfl rfl rfl ?_)
  all_goals
   refine Ch ?_
   intro w4 hw4
   go_wp2
   go_ret
   refine⟨?_,hw4⟩
   show Ending.returned (.int .u32 _)=_
   rw [←HX.out]
   refine Ca ?_
   show a%Q*P%4294967296=a*((2 ^ (b%32).toNat:Nat):Int)%4294967296
   rw [←HP.out,HL.out]
   omega
 rcases Decidable.em (op=28) with rfl | h
 rotate_left 1
 rcases Decidable.em (op=29) with rfl | h
 rotate_left 1
 rcases Decidable.em (op=37) with rfl | h
 rotate_left 1
 rcases Decidable.em (op=36) with rfl | h
 rotate_left 1
 rcases Decidable.em (op=33) with rfl | h
 rotate_left 1
 rcases Decidable.em (op=31) with rfl | h
 rotate_left 1
 rcases Decidable.em (op=32) with rfl | h
 rotate_left 1
 rcases Decidable.em (op=40) with rfl | h
 rotate_left 1
 by_cases h:op=34
 focus
  subst h
  have d0:=Int.ediv_nonneg ha0 (show 0≤P by omega)
  have d1:=Int.ediv_le_self P ha0
 rotate_left 1
 by_cases h:op=35
 focus
  subst h
  have d0:=Yt (sg a) P P0
  have d1 : -4611686018427387904≤sg a / P∧sg a / P≤4611686018427387904:=by omega
  obtain⟨d2,d3⟩:=d1
 rotate_left 1
 by_cases h:op=38
 focus
  subst h
  obtain⟨m1,m2⟩:=Jq (a:=sg a) (b:=sg b) (A:=2147483648) (B:=2147483648) (by omega) (by omega)
 rotate_left 1
 by_cases h:op=39
 focus
  subst h
  obtain⟨m1,m2⟩:=Jq (a:=sg a) (b:=sg b) (A:=2147483648) (B:=2147483648) (by omega) (by omega)
  have m3:=Yt (sg a*sg b) 4294967296 (by omega)
 rotate_left 1
 by_cases h:op=41
 focus
  subst h
  obtain⟨m1,m2⟩:=Jq (a:=a) (b:=b) (A:=4294967295) (B:=4294967295) (by omega) (by omega)
  have m3:=Int.mul_nonneg ha0 hb0
  have HM1:=Lib.hid m1
  have HM2:=Lib.hid m2
  have HM3:=Lib.hid m3
  clear m1 m2 m3
 rotate_left 1
 by_cases h:op=42
 focus
  subst h
  by_cases hz:b=0
  focus subst hz
  rotate_left 1
  have hb2:1≤b:=by omega
  have hsz:sg b≠0:=fun e=>hz ((Ss hb0 hb1).1 e)
  have d1:((sg a).tdiv (sg b)).natAbs≤(sg a).natAbs:=by rw [Int.natAbs_tdiv];exact Nat.div_le_self _ _
  obtain⟨d2,d3⟩ : -2147483648≤(sg a).tdiv (sg b)∧(sg a).tdiv (sg b)≤2147483648:=by omega
  clear d1
 rotate_left 2
 by_cases h:op=44
 focus
  subst h
  by_cases hz:b=0
  focus subst hz
  rotate_left 1
  have hb2:1≤b:=by omega
  have hsz:sg b≠0:=fun e=>hz ((Ss hb0 hb1).1 e)
  have d1:((sg a).tdiv (sg b)).natAbs≤(sg a).natAbs:=by rw [Int.natAbs_tdiv];exact Nat.div_le_self _ _
  obtain⟨d2,d3⟩ : -2147483648≤(sg a).tdiv (sg b)∧(sg a).tdiv (sg b)≤2147483648:=by omega
  clear d1
  obtain⟨m1,m2⟩:=Jq (a:=(sg a).tdiv (sg b)) (b:=sg b) (A:=2147483648) (B:=2147483648) (by omega) (by omega)
  have HD:=Lib.hid (Int.tmod_def (sg a) (sg b))
 rotate_left 2
 by_cases h:op=43
 focus
  subst h
  by_cases hz:b=0
  focus subst hz
  rotate_left 1
  have hb2:1≤b:=by omega
  have d0:=Int.ediv_nonneg ha0 (show 0≤b by omega)
  have d1:=Int.ediv_le_self b ha0
 rotate_left 2
 by_cases h:op=45
 focus
  subst h
  by_cases hz:b=0
  focus subst hz
  rotate_left 1
  have hb2:1≤b:=by omega
  have d0:=Int.emod_nonneg a hz
  have d1:=Int.emod_lt_of_pos a (show 0<b by omega)
 rotate_left 2
 all_goals
  go_enter Tryz.func29,Tryz.ntmps29
  go_wp2_with(first
   |(go_at_call 58;(first | with_reducible refine(Hq a _ ha0 ha1).mono ?_ | with_reducible refine(Hq _ _ hb0 hb1).mono ?_);rintro e w1 ⟨rfl,rfl⟩)
   |(go_at_call 62;(with_reducible refine(Ab0 _ _).mono ?_);rintro e w1 ⟨rfl,rfl⟩)
   |(go_at_call 60;(first | with_reducible refine(X9 a b _ ha0 ha1 hb0 hb1).mono ?_ | with_reducible refine(Aaq a b _ ha0 ha1 hb0 hb1).mono ?_ | with_reducible refine(Yb a b _ ha0 ha1 hb0 hb1).mono ?_);rintro e w1 ⟨rfl,rfl⟩)
   |(go_at_call 63;(with_reducible refine(Aff _ _ _ (by omega) (by omega) (by omega) (by omega)).mono ?_);rintro e w1 ⟨rfl,rfl⟩)
   |(go_at_call 61;(with_reducible refine(V0 _ _ _ (by omega) (by omega) (by omega) (by omega)).mono ?_);rintro e w1 ⟨rfl,rfl⟩)
   |(go_at_call 28;(with_reducible refine(Ac1 _ _ (by omega) (by omega)).mono ?_);rintro e w1 ⟨rfl,rfl⟩;rw [←HP.out])
   |(go_at_call 23;(with_reducible refine(Jj _ _ (by omega) (by omega)).mono ?_);rintro e w1 ⟨rfl,rfl⟩))
  all_goals
   go_ret
   refine⟨?_,Below.refl _ _⟩
   show Ending.returned (.int .u32 _)=_
   rw [←HX.out]
   refine Ca ?_
 all_goals first
  |rfl
  |(show a / P%4294967296=a / ((2 ^ (b%32).toNat:Nat):Int);rw [←HP.out];omega)
  |(show sg a / P%4294967296=sg a / ((2 ^ (b%32).toNat:Nat):Int)%4294967296;rw [←HP.out])
  |exact Ajl a b
  |(show a*b / 4294967296%4294967296=a*b / 4294967296;have m2:=HM2.out;have m3:=HM3.out;generalize a*b=p at m2 m3 ⊢;omega)
  |(show(sg a - (sg a).tdiv (sg b)*sg b)%4294967296=if b=0 then a else (sg a).tmod (sg b)%4294967296;rw [if_neg hz,HD.out,Int.mul_comm])
  |(show a / b%4294967296=if b=0 then 4294967295 else a / b;rw [if_neg hz];omega)
  |(show a%b%4294967296=if b=0 then a else a%b;rw [if_neg hz];omega)
  |(unfold Mw;simp [*];done)
  |(unfold Mw;simp only [*,if_false])
theorem Xg (op a b:Int) (w:World) (ha0:0≤a) (ha1:a≤4294967295) (hb0:0≤b) (hb1:b≤4294967295) :
  Calls Tryz.prog 25 #[.int .i64 op, .int .u32 a, .int .u32 b] w fun e w'=>e = .returned (.bool (Ih op a b))∧w=w':=by
 generalize hX:Ih op a b=X
 have HX:=Lib.hid hX
 clear hX
 rcases Decidable.em (op=5) with rfl | h
 rotate_left 1
 rcases Decidable.em (op=6) with rfl | h
 rotate_left 1
 rcases Decidable.em (op=7) with rfl | h
 rotate_left 1
 rcases Decidable.em (op=8) with rfl | h
 rotate_left 1
 rcases Decidable.em (op=9) with rfl | h
 rotate_left 1
 rcases Decidable.em (op=10) with rfl | h
 rotate_left 1
 all_goals
  go_enter Tryz.func25,Tryz.ntmps25
  go_wp2_with(go_at_call 58;(first | with_reducible refine(Hq a _ ha0 ha1).mono ?_ | with_reducible refine(Hq _ _ hb0 hb1).mono ?_);rintro e w1 ⟨rfl,rfl⟩)
  go_ret
  refine⟨?_,rfl⟩
  rw [←HX.out]
  refine Er ?_
  first
   |(rw [Bool.eq_iff_iff];simp [Ih];done)
   |(unfold Ih;simp [*])
def Ce (op:Int) (st:Bool):Int:=
 if st then (if op=16 then 1 else if op=17 then 2 else if op=18 then 4 else 0)
 else (if op=11∨op=14 then 1 else if op=12∨op=15 then 2 else if op=13 then 4 else 0)
theorem Dn (op:Int) (st:Bool) (w:World) :
  Calls Tryz.prog 27 #[.int .i64 op, .bool st] w fun e w'=>e = .returned (.int .i64 (Ce op st))∧w=w':=by
 generalize hx:Ce op st=x
 have Hx:=Lib.hid hx
 clear hx
 cases st
 all_goals
  go_enter Tryz.func27,Tryz.ntmps27
  go_wp2
  all_goals
   go_ret
   refine⟨Ca ?_,rfl⟩
   rw [←Hx.out]
   unfold Ce
   simp only [beq_iff_eq,beq_eq_false_iff_ne,ne_eq,Bool.false_eq_true,if_true,if_false] at *
   (repeat' split)<;>first | rfl | omega
theorem D5 (A:Option Addr) (len cap:Nat) (p many:Int) (w:World) (h0:0≤p) (h1:p≤4294967295) (h2:0≤many) (h3:many≤4294967295) (_hl:len≤9223372036854775807) :
  Calls Tryz.prog 55 #[.slice A len cap, .int .u32 p, .int .i64 many] w fun e w'=>e = .returned (.bool (Bv len p many))∧w=w':=by
 generalize hx:Bv len p many=x
 have Hx:=Lib.hid hx
 clear hx
 go_enter Tryz.func55,Tryz.ntmps55
 go_wp2
 all_goals
  go_ret
  refine⟨Er ?_,rfl⟩
  rw [←Hx.out,Bool.eq_iff_iff]
  unfold Bv
  first | (simp;done) | (simp;omega) | (simp [*];done) | (simp [*];omega)
theorem Kr (A:Option Addr) (cap:Nat) (m:List Int) (op p:Int) (w:World) (h0:0≤p) (h1:p≤4294967295) (hl:m.length≤9223372036854775807) (hb:Bytes m) (hA:Aq w w.heap.size .u8 A m) :
  Calls Tryz.prog 20 #[.slice A m.length cap, .int .i64 op, .int .u32 p] w fun e w'=>e = .returned (.tuple #[.int .u32 (Cd m op p).1, .bool (Cd m op p).2])∧w=w':=by
 obtain⟨n,rfl⟩:=Int.eq_ofNat_of_zero_le h0
 by_cases hok:(decide (11≤op)&&decide (op≤15)&&Bv m.length n (B1 op))=true
 ·have e:Cd m op n=(Ii m op n,true):=by unfold Cd;rw [if_pos hok];rfl
  rw [e]
  have hth:Bv m.length n (B1 op)=true:=by simp at hok;exact hok.2
  have ho:11≤op∧op≤15:=by simp at hok;exact hok.1
  clear hok e
  have hin:(n:Int)+B1 op≤m.length:=by unfold Bv at hth;simp at hth;exact hth.2
  obtain⟨ho1,ho2⟩:=ho
  obtain rfl | rfl | rfl | rfl | rfl:op=11∨op=12∨op=13∨op=14∨op=15:=by omega
  ·
   have s:Ce 11 false=1:=rfl
   have s':B1 11=1:=rfl
   rw [s'] at hin hth
   have hn:(n:Int)+(1 - 1)≤4294967295:=by unfold Bv at hth;simp at hth;omega
   obtain⟨b,o,rfl,hbB,hc⟩:=hA.at_ (n:=n) (by omega)
   have c0:=hc n (by omega)
   have b0:=hb.getD n
   have b1:=hb.getD (n+1)
   have b2:=hb.getD (n+2)
   have b3:=hb.getD (n+3)
   have c1:1>1→w.cell? ⟨b,o+(n+1),none⟩=some (.int .u8 (m.getD (n+1) 0)):=fun h=>hc (n+1) (by omega)
   have c2:1>2→w.cell? ⟨b,o+(n+2),none⟩=some (.int .u8 (m.getD (n+2) 0)):=fun h=>hc (n+2) (by omega)
   have c3:1>3→w.cell? ⟨b,o+(n+3),none⟩=some (.int .u8 (m.getD (n+3) 0)):=fun h=>hc (n+3) (by omega)
   have hL:Ii m 11 n=E5 11 (m.getD n 0) (m.getD (n+1) 0) (m.getD (n+2) 0) (m.getD (n+3) 0):=rfl
   rw [hL]
   clear hL
   generalize m.getD n 0=x0 at c0 b0 ⊢
   generalize m.getD (n+1) 0=x1 at c1 b1 ⊢
   generalize m.getD (n+2) 0=x2 at c2 b2 ⊢
   generalize m.getD (n+3) 0=x3 at c3 b3 ⊢
   obtain⟨p0,q0⟩:=b0
   obtain⟨p1,q1⟩:=b1
   obtain⟨p2,q2⟩:=b2
   obtain⟨p3,q3⟩:=b3
   generalize hX:E5 11 x0 x1 x2 x3=X
   have HX:=Lib.hid hX
   clear hX
   have hS:=Lib.hid s
   clear hc s s'
   skip
   all_goals
    go_enter Tryz.func20,Tryz.ntmps20
    go_wp2_with(first
     |(go_at_call 27;refine(Dn _ _ _).mono ?_;rintro e w1 ⟨rfl,rfl⟩;rw [hS.out])
     |(go_at_call 55;refine(D5 _ _ _ _ 1 _ (by omega) (by omega) (by omega) (by omega) (by omega)).mono ?_;rintro e w1 ⟨rfl,rfl⟩;rw [hth]))
    refine wp_loop_rounds 2 ?_
    repeat any_goals (rw [rounds_succ];go_wp2_with(go_at_call 23;refine(Jj _ _ (by omega) (by omega)).mono ?_;rintro e w1 ⟨rfl,rfl⟩))
    all_goals
     go_ret2
     refine⟨?_,rfl⟩
     show Ending.returned (.tuple #[.int .u32 _, .bool true])=_
     rw [←HX.out]
     apply Jb
     skip
     unfold E5
     simp
     first | done | omega | (split<;>omega)
  ·
   have s:Ce 12 false=2:=rfl
   have s':B1 12=2:=rfl
   rw [s'] at hin hth
   have hn:(n:Int)+(2 - 1)≤4294967295:=by unfold Bv at hth;simp at hth;omega
   obtain⟨b,o,rfl,hbB,hc⟩:=hA.at_ (n:=n) (by omega)
   have c0:=hc n (by omega)
   have b0:=hb.getD n
   have b1:=hb.getD (n+1)
   have b2:=hb.getD (n+2)
   have b3:=hb.getD (n+3)
   have c1:2>1→w.cell? ⟨b,o+(n+1),none⟩=some (.int .u8 (m.getD (n+1) 0)):=fun h=>hc (n+1) (by omega)
   have c2:2>2→w.cell? ⟨b,o+(n+2),none⟩=some (.int .u8 (m.getD (n+2) 0)):=fun h=>hc (n+2) (by omega)
   have c3:2>3→w.cell? ⟨b,o+(n+3),none⟩=some (.int .u8 (m.getD (n+3) 0)):=fun h=>hc (n+3) (by omega)
   have hL:Ii m 12 n=E5 12 (m.getD n 0) (m.getD (n+1) 0) (m.getD (n+2) 0) (m.getD (n+3) 0):=rfl
   rw [hL]
   clear hL
   generalize m.getD n 0=x0 at c0 b0 ⊢
   generalize m.getD (n+1) 0=x1 at c1 b1 ⊢
   generalize m.getD (n+2) 0=x2 at c2 b2 ⊢
   generalize m.getD (n+3) 0=x3 at c3 b3 ⊢
   obtain⟨p0,q0⟩:=b0
   obtain⟨p1,q1⟩:=b1
   obtain⟨p2,q2⟩:=b2
   obtain⟨p3,q3⟩:=b3
   generalize hX:E5 12 x0 x1 x2 x3=X
   have HX:=Lib.hid hX
   clear hX
   have hS:=Lib.hid s
   clear hc s s'
   rcases hq:decide (32768≤x0+x1*256) with _ | _
   all_goals
    go_enter Tryz.func20,Tryz.ntmps20
    go_wp2_with(first
     |(go_at_call 27;refine(Dn _ _ _).mono ?_;rintro e w1 ⟨rfl,rfl⟩;rw [hS.out])
     |(go_at_call 55;refine(D5 _ _ _ _ 2 _ (by omega) (by omega) (by omega) (by omega) (by omega)).mono ?_;rintro e w1 ⟨rfl,rfl⟩;rw [hth]))
    refine wp_loop_rounds 3 ?_
    repeat any_goals (rw [rounds_succ];go_wp2_with(go_at_call 23;refine(Jj _ _ (by omega) (by omega)).mono ?_;rintro e w1 ⟨rfl,rfl⟩))
    all_goals
     go_ret2
     refine⟨?_,rfl⟩
     show Ending.returned (.tuple #[.int .u32 _, .bool true])=_
     rw [←HX.out]
     apply Jb
     simp only [decide_eq_false_iff_not,decide_eq_true_eq] at hq
     unfold E5
     simp
     first | done | omega | (split<;>omega)
  ·
   have s:Ce 13 false=4:=rfl
   have s':B1 13=4:=rfl
   rw [s'] at hin hth
   have hn:(n:Int)+(4 - 1)≤4294967295:=by unfold Bv at hth;simp at hth;omega
   obtain⟨b,o,rfl,hbB,hc⟩:=hA.at_ (n:=n) (by omega)
   have c0:=hc n (by omega)
   have b0:=hb.getD n
   have b1:=hb.getD (n+1)
   have b2:=hb.getD (n+2)
   have b3:=hb.getD (n+3)
   have c1:4>1→w.cell? ⟨b,o+(n+1),none⟩=some (.int .u8 (m.getD (n+1) 0)):=fun h=>hc (n+1) (by omega)
   have c2:4>2→w.cell? ⟨b,o+(n+2),none⟩=some (.int .u8 (m.getD (n+2) 0)):=fun h=>hc (n+2) (by omega)
   have c3:4>3→w.cell? ⟨b,o+(n+3),none⟩=some (.int .u8 (m.getD (n+3) 0)):=fun h=>hc (n+3) (by omega)
   have hL:Ii m 13 n=E5 13 (m.getD n 0) (m.getD (n+1) 0) (m.getD (n+2) 0) (m.getD (n+3) 0):=rfl
   rw [hL]
   clear hL
   generalize m.getD n 0=x0 at c0 b0 ⊢
   generalize m.getD (n+1) 0=x1 at c1 b1 ⊢
   generalize m.getD (n+2) 0=x2 at c2 b2 ⊢
   generalize m.getD (n+3) 0=x3 at c3 b3 ⊢
   obtain⟨p0,q0⟩:=b0
   obtain⟨p1,q1⟩:=b1
   obtain⟨p2,q2⟩:=b2
   obtain⟨p3,q3⟩:=b3
   generalize hX:E5 13 x0 x1 x2 x3=X
   have HX:=Lib.hid hX
   clear hX
   have hS:=Lib.hid s
   clear hc s s'
   skip
   all_goals
    go_enter Tryz.func20,Tryz.ntmps20
    go_wp2_with(first
     |(go_at_call 27;refine(Dn _ _ _).mono ?_;rintro e w1 ⟨rfl,rfl⟩;rw [hS.out])
     |(go_at_call 55;refine(D5 _ _ _ _ 4 _ (by omega) (by omega) (by omega) (by omega) (by omega)).mono ?_;rintro e w1 ⟨rfl,rfl⟩;rw [hth]))
    refine wp_loop_rounds 5 ?_
    repeat any_goals (rw [rounds_succ];go_wp2_with(go_at_call 23;refine(Jj _ _ (by omega) (by omega)).mono ?_;rintro e w1 ⟨rfl,rfl⟩))
    all_goals
     go_ret2
     refine⟨?_,rfl⟩
     show Ending.returned (.tuple #[.int .u32 _, .bool true])=_
     rw [←HX.out]
     apply Jb
     skip
     unfold E5
     simp
     first | done | omega | (split<;>omega)
  ·
   have s:Ce 14 false=1:=rfl
   have s':B1 14=1:=rfl
   rw [s'] at hin hth
   have hn:(n:Int)+(1 - 1)≤4294967295:=by unfold Bv at hth;simp at hth;omega
   obtain⟨b,o,rfl,hbB,hc⟩:=hA.at_ (n:=n) (by omega)
   have c0:=hc n (by omega)
   have b0:=hb.getD n
   have b1:=hb.getD (n+1)
   have b2:=hb.getD (n+2)
   have b3:=hb.getD (n+3)
   have c1:1>1→w.cell? ⟨b,o+(n+1),none⟩=some (.int .u8 (m.getD (n+1) 0)):=fun h=>hc (n+1) (by omega)
   have c2:1>2→w.cell? ⟨b,o+(n+2),none⟩=some (.int .u8 (m.getD (n+2) 0)):=fun h=>hc (n+2) (by omega)
   have c3:1>3→w.cell? ⟨b,o+(n+3),none⟩=some (.int .u8 (m.getD (n+3) 0)):=fun h=>hc (n+3) (by omega)
   have hL:Ii m 14 n=E5 14 (m.getD n 0) (m.getD (n+1) 0) (m.getD (n+2) 0) (m.getD (n+3) 0):=rfl
   rw [hL]
   clear hL
   generalize m.getD n 0=x0 at c0 b0 ⊢
   generalize m.getD (n+1) 0=x1 at c1 b1 ⊢
   generalize m.getD (n+2) 0=x2 at c2 b2 ⊢
   generalize m.getD (n+3) 0=x3 at c3 b3 ⊢
   obtain⟨p0,q0⟩:=b0
   obtain⟨p1,q1⟩:=b1
   obtain⟨p2,q2⟩:=b2
   obtain⟨p3,q3⟩:=b3
   generalize hX:E5 14 x0 x1 x2 x3=X
   have HX:=Lib.hid hX
   clear hX
   have hS:=Lib.hid s
   clear hc s s'
   skip
   all_goals
    go_enter Tryz.func20,Tryz.ntmps20
    go_wp2_with(first
     |(go_at_call 27;refine(Dn _ _ _).mono ?_;rintro e w1 ⟨rfl,rfl⟩;rw [hS.out])
     |(go_at_call 55;refine(D5 _ _ _ _ 1 _ (by omega) (by omega) (by omega) (by omega) (by omega)).mono ?_;rintro e w1 ⟨rfl,rfl⟩;rw [hth]))
    refine wp_loop_rounds 2 ?_
    repeat any_goals (rw [rounds_succ];go_wp2_with(go_at_call 23;refine(Jj _ _ (by omega) (by omega)).mono ?_;rintro e w1 ⟨rfl,rfl⟩))
    all_goals
     go_ret2
     refine⟨?_,rfl⟩
     show Ending.returned (.tuple #[.int .u32 _, .bool true])=_
     rw [←HX.out]
     apply Jb
     skip
     unfold E5
     simp
     first | done | omega | (split<;>omega)
  ·
   have s:Ce 15 false=2:=rfl
   have s':B1 15=2:=rfl
   rw [s'] at hin hth
   have hn:(n:Int)+(2 - 1)≤4294967295:=by unfold Bv at hth;simp at hth;omega
   obtain⟨b,o,rfl,hbB,hc⟩:=hA.at_ (n:=n) (by omega)
   have c0:=hc n (by omega)
   have b0:=hb.getD n
   have b1:=hb.getD (n+1)
   have b2:=hb.getD (n+2)
   have b3:=hb.getD (n+3)
   have c1:2>1→w.cell? ⟨b,o+(n+1),none⟩=some (.int .u8 (m.getD (n+1) 0)):=fun h=>hc (n+1) (by omega)
   have c2:2>2→w.cell? ⟨b,o+(n+2),none⟩=some (.int .u8 (m.getD (n+2) 0)):=fun h=>hc (n+2) (by omega)
   have c3:2>3→w.cell? ⟨b,o+(n+3),none⟩=some (.int .u8 (m.getD (n+3) 0)):=fun h=>hc (n+3) (by omega)
   have hL:Ii m 15 n=E5 15 (m.getD n 0) (m.getD (n+1) 0) (m.getD (n+2) 0) (m.getD (n+3) 0):=rfl
   rw [hL]
   clear hL
   generalize m.getD n 0=x0 at c0 b0 ⊢
   generalize m.getD (n+1) 0=x1 at c1 b1 ⊢
   generalize m.getD (n+2) 0=x2 at c2 b2 ⊢
   generalize m.getD (n+3) 0=x3 at c3 b3 ⊢
   obtain⟨p0,q0⟩:=b0
   obtain⟨p1,q1⟩:=b1
   obtain⟨p2,q2⟩:=b2
   obtain⟨p3,q3⟩:=b3
   generalize hX:E5 15 x0 x1 x2 x3=X
   have HX:=Lib.hid hX
   clear hX
   have hS:=Lib.hid s
   clear hc s s'
   skip
   all_goals
    go_enter Tryz.func20,Tryz.ntmps20
    go_wp2_with(first
     |(go_at_call 27;refine(Dn _ _ _).mono ?_;rintro e w1 ⟨rfl,rfl⟩;rw [hS.out])
     |(go_at_call 55;refine(D5 _ _ _ _ 2 _ (by omega) (by omega) (by omega) (by omega) (by omega)).mono ?_;rintro e w1 ⟨rfl,rfl⟩;rw [hth]))
    refine wp_loop_rounds 3 ?_
    repeat any_goals (rw [rounds_succ];go_wp2_with(go_at_call 23;refine(Jj _ _ (by omega) (by omega)).mono ?_;rintro e w1 ⟨rfl,rfl⟩))
    all_goals
     go_ret2
     refine⟨?_,rfl⟩
     show Ending.returned (.tuple #[.int .u32 _, .bool true])=_
     rw [←HX.out]
     apply Jb
     skip
     unfold E5
     simp
     first | done | omega | (split<;>omega)
 ·have e:Cd m op n=(0,false):=by unfold Cd;rw [if_neg hok]
  rw [e]
  clear e
  have hth:Bv m.length n (Ce op false)=false:=by
   by_cases h:11≤op∧op≤15
   ·have hs:Ce op false=B1 op:=by
     unfold Ce B1
     simp only [Bool.false_eq_true,if_false]
     (repeat' split)<;>first | rfl | omega
    rw [hs]
    simpa [h.1,h.2] using hok
   ·have:Ce op false=0:=by
     unfold Ce
     simp only [Bool.false_eq_true,if_false]
     (repeat' split)<;>omega
    rw [this]
    rfl
  have s0:0≤Ce op false:=by unfold Ce;(repeat' split)<;>omega
  have s1:Ce op false≤4:=by unfold Ce;(repeat' split)<;>omega
  obtain⟨sz,hsz⟩:∃ z,Ce op false=z:=⟨_,rfl⟩
  rw [hsz] at hth s0 s1
  have Hsz:=Lib.hid hsz
  clear hsz hok
  go_enter Tryz.func20,Tryz.ntmps20
  go_wp2_with(first
   |(go_at_call 27;refine(Dn _ _ _).mono ?_;rintro e w1 ⟨rfl,rfl⟩;rw [Hsz.out])
   |(go_at_call 55;refine(D5 _ _ _ _ sz _ (by omega) (by omega) (by omega) (by omega) (by omega)).mono ?_;rintro e w1 ⟨rfl,rfl⟩;rw [hth]))
  go_ret2
  exact⟨rfl,rfl⟩
end Go.Proofs.YtapgojgcmlnbgacGreat
