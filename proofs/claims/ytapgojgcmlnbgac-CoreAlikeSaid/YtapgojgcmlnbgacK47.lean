/- Parts of a proof. -/
import Derived.Test.YtapgojgcmlnbgacK29
import Derived.Test.YtapgojgcmlnbgacK38
import Derived.Test.YtapgojgcmlnbgacK40
import Derived.Test.YtapgojgcmlnbgacK41
import Derived.Test.YtapgojgcmlnbgacK46
set_option linter.unusedSimpArgs false
set_option linter.unusedVariables false
set_option maxRecDepth 100000
set_option maxHeartbeats 16000000
namespace Go.Proofs.Ytapgojgcmlnbgac
open Go Go.RowKit
section
variable {B:Nat} {w:World} {g p:Nat} {C:Core} {L:Lay} {ps:List Nat} {cs:Array Value}
theorem complete_all (h:CoreIs B w g C L ps cs) (hI:Inv C) {k:Nat} (hk:k<C.ops.length) (h1:(C.op k).state=1) (hp:ps[k]? = some p) (hq:C.seq≤4611686018427387904) (hb1:0≤C.backs) (hb2:C.backs<4611686018427387904) :
  Calls Try.prog 15 #[.pointer (some ⟨g,0,none⟩), .pointer (some ⟨p,0,none⟩)] w (StPost B w g (completeP C k)):=by
 obtain⟨e1,e2⟩:=split_k hk
 rw [op_k hk] at h1
 have hp':ps[(C.ops.take k).length]? = some p:=by rw [e2];exact hp
 rcases hl:loadsB (C.ops[k]).ins with _ | _
 ·have:=complete_else h hI e1 h1 hl hp' hq hb1 hb2
  rw [e2] at this
  exact this
 ·have:=complete_load h hI e1 h1 hl hp' hq hb1 hb2
  rw [e2] at this
  exact this
theorem cycle_any (h:CoreIs B w g C L ps cs) (hG:Good C) {N:Int} (hB:Bd C N) (hN:N≤900000) (hs:∀ x∈C.script,x≤9223372036854775807) :
  Calls Try.prog 13 #[.pointer (some ⟨g,0,none⟩)] w (StPost B w g (cycleP C)):=by
 obtain⟨now,hnow⟩:∃ now,C.cycles=now:=⟨_,rfl⟩
 have hbc:=hB.cycles
 have k40:w.cell? ⟨g,40,none⟩=some (.int .i64 now):=by
  have:=h.cell h.cells.cycles
  rw [hnow] at this
  exact this
 have f40:=h.blk.frozen 40
 have zg:=h.lt
 rw [hnow] at hbc
 obtain⟨C0,hC0⟩:∃ C0,C0=({ C with cycles:=now+1 }:Core):=⟨_,rfl⟩
 have hG0:Good C0:=by
  have:=tick_good hG
  rw [hnow] at this
  rw [hC0]
  exact this
 have hB0:Bd C0 (N+1):=by
  rw [hC0]
  have hh:=hB.mono (M:=N+1) (by omega)
  exact⟨hh.seq,hh.taken,hh.backs,hh.coms,by show 0≤now+1∧now+1≤N+1;omega⟩
 have hs0:∀ x∈C0.script,x≤9223372036854775807:=by rw [hC0];exact hs
 have h0:=h.set 40 (.int .i64 (now+1)) (h.cells.set_cycles (now+1)) h.rows
 have HJ0:Hid (CoreIs B (w.setCell ⟨g,40,none⟩ (.int .i64 (now+1))) g C0 L ps (cs.setIfInBounds 40 (.int .i64 (now+1)))∧Turned B w (w.setCell ⟨g,40,none⟩ (.int .i64 (now+1)))):=Lib.hid ⟨by rw [hC0];exact h0,h.turned (grownBy_setCell w ⟨g,40,none⟩ (.int .i64 (now+1)))⟩
 obtain⟨Y,hY⟩:∃ Y,cycleP C=Y:=⟨_,rfl⟩
 have hYd:(commitP C0).hart.state≠0→Y=commitP C0:=fun hh=>by
  rw [←hY]
  unfold cycleP
  dsimp only
  rw [hnow,←hC0,if_pos hh]
 have hYe:(commitP C0).hart.state=0→Y=fetchAll (beginAll (finishAll (commitP C0).ops.length 0 now (commitP C0)).ops.length 0 0 now (finishAll (commitP C0).ops.length 0 now (commitP C0))).wide.toNat (beginAll (finishAll (commitP C0).ops.length 0 now (commitP C0)).ops.length 0 0 now (finishAll (commitP C0).ops.length 0 now (commitP C0))):=fun hh=>by
  rw [←hY]
  unfold cycleP
  dsimp only
  rw [hnow,←hC0,if_neg (fun hx=>hx hh)]
 obtain⟨kk,_,_,hgd,_,_⟩:=commit_ran hG0
 have hB1:Bd (commitP C0) (N+5):=(hB0.commit (by have:=hG0.inv.cfg;omega)).mono (by omega)
 have hs1:∀ x∈(commitP C0).script,x≤9223372036854775807:=by rw [commitP_script];exact hs0
 have hhl:(commitP C0).hart.regs.length=32:=goneP_len _ _ hG0.inv.hart.len
 have CM:=Lib.hid (fun W cs' (hh:CoreIs B W g C0 L ps cs')=>commit_any hh hG0 (by have:=hB0.coms;omega))
 rw [hY]
 generalize commitP C0=C1 at *
 have HYD:=Lib.hid hYd
 have HYE:=Lib.hid hYe
 have HGD:=Lib.hid hgd
 have HHL:=Lib.hid hhl
 have HB1:=Lib.hid hB1
 have HS1:=Lib.hid hs1
 clear h hG hB hs hG0 hB0 hs0 h0 hY hYd hYe hgd hB1 hs1 hhl hC0 hnow
 go_enter Try.func13,Try.ntmps13
 go_upto_region 2 with(fail)
 go_simp
 clear k40 f40 zg
 generalize w.setCell ⟨g,40,none⟩ (.int .i64 (now+1))=w0 at *
 go_upto_region 3 with(go_at_call 14;(with_reducible refine(CM.out _ _ HJ0.out.1).mono ?_);rintro e w1 ⟨rfl,ht1,L1,ps1,cs1,h1⟩;have HJ1:=Lib.hid (And.intro h1 (HJ0.out.2.trans ht1));clear h1 ht1)
 go_simp
 clear CM HJ0
 have q37:w1.cell? ⟨g,37,none⟩=some (.int .i64 C1.hart.state):=HJ1.out.1.hstate HHL.out
 have z1:=HJ1.out.1.lt
 by_cases qs:C1.hart.state=0
 rotate_left
 ·have e3:(C1.hart.state != 0)=true:=by simpa using qs
  have HX:Hid (Y=C1):=Lib.hid (HYD.out qs)
  clear qs HYD HYE HGD
  go_wp2_with(fail)
  refine bodyPost_ret (results_none rfl _ _ _) rfl ?_
  exact⟨rfl,HJ1.out.2,_,_,_,by rw [HX.out];exact HJ1.out.1⟩
 have e3:(C1.hart.state != 0)=false:=by simpa using qs
 have hG1:Good C1:=by
  rcases HGD.out with hh | hh
  ·exact absurd qs hh
  ·exact hh
 obtain⟨S,hS⟩:∃ S,C1.script=S:=⟨_,rfl⟩
 have HSS:Hid (∀ x∈S,x≤9223372036854775807):=Lib.hid (by rw [←hS];exact HS1.out)
 have hYE:=HYE.out qs
 obtain⟨C2,hC2⟩:∃ C2,finishAll C1.ops.length 0 now C1=C2:=⟨_,rfl⟩
 rw [hC2] at hYE
 have HYE2:=Lib.hid hYE
 have HL1:Hid (Lp1 C1 C2 0 C1.ops.length now (N+5) S):=Lib.hid ⟨hG1,hC2,by omega,HB1.out.mono (by omega),fun x hx=>by rw [←hS];exact hx⟩
 clear qs HYD HYE HGD hG1 hS hYE hC2 HB1 HS1 HHL
 go_upto_region 5 with(fail)
 clear q37 z1 e3
 go_loopw [3,4] (fun v3 v4 wr=>∃ (k r:Nat) (X:Core) (LX:Lay) (px:List Nat) (cx:Array Value),v3 = .int .i64 k∧k≤32∧Hid (CoreIs B wr g X LX px cx∧Turned B w wr)∧Hid (Lp1 X C2 k r now (N+5) S)) (fun v _ _=>33 - (intOf v).toNat)
 case atStart=>exact⟨0,_,_,_,_,_,rfl,by omega,HJ1,HL1⟩
 case round=>
  clear HJ1 HL1
  obtain⟨k,r,X,LX,px,cx,rfl,hk32,HR,HL⟩:=hrel
  have hpl:=HR.out.1.rows.uops.len
  have hol:=HL.out.good.inv.lens.1
  obtain⟨A,n,hvo,hno1,hno2,hno3⟩:=ptr_slice HR.out.1.rows.ptrs
  have c335:wr.cell? ⟨g,335,none⟩=some (.slice A px.length n):=by rw [←hvo];exact HR.out.1.ops
  have zg:=HR.out.1.lt
  obtain⟨m,hm⟩:∃ m,px.length=m:=⟨_,rfl⟩
  have HMP:=Lib.hid hm
  have HMO:=Lib.hid (show X.ops.length=m by rw [←hpl];exact hm)
  have hm32:m≤32:=by omega
  rw [hm] at c335 hno1
  have HVO:=Lib.hid hvo
  clear hpl hol hvo hno3 hm
  by_cases hlt:k<m
  ·have hkx:k<X.ops.length:=by rw [HMO.out];exact hlt
   have hkp:k<px.length:=by rw [HMP.out];exact hlt
   have hrow:=HR.out.1.rows.ptrs
   rw [HVO.out] at hrow
   obtain⟨bP,oP,rfl,zP,cP⟩:=ptr_cell hrow hkp
   have hpk:px[k]? = some px[k]:=List.getElem?_eq_getElem hkp
   have hu:=(HR.out.1.uop_at hpk).1
   have HPK:=Lib.hid hpk
   obtain⟨q,hq⟩:∃ q,px[k]=q:=⟨_,rfl⟩
   rw [hq] at cP hu HPK
   have c1:wr.cell? ⟨q,1,none⟩=some (.int .i64 (X.op k).state):=hu.cell 1
   have c2:wr.cell? ⟨q,2,none⟩=some (.int .i64 (X.op k).ready):=hu.cell 2
   have zq:=hu.lt
   have HKX:=Lib.hid hkx
   clear hkx hkp hrow hpk hu hq
   by_cases hy:(X.op k).state=1∧(X.op k).ready≤now
   ·obtain⟨r',hl2⟩:=HL.out.step HKX.out hy
    have HL2:=Lib.hid hl2
    have CC:=Lib.hid (complete_all HR.out.1 HL.out.good.inv HKX.out hy.1 HPK.out (by have:=HL.out.bd.seq;omega) HL.out.bd.backs.1 (by have:=HL.out.bd.backs;omega))
    have e1:((X.op k).state==1)=true:=by simpa using hy.1
    have e2:decide ((X.op k).ready≤now)=true:=decide_eq_true hy.2
    clear hy hl2
    go_wp2_with(go_at_call 15;(with_reducible refine CC.out.mono ?_);rintro e w2 ⟨rfl,ht2,L2,ps2,cs2,h2⟩;have HJ2:=Lib.hid (And.intro h2 (HR.out.2.trans ht2));clear h2 ht2)
    go_roundw
    case rel=>exact⟨k+1,r',_,_,_,_,by go_num,by omega,HJ2,HL2⟩
    case measure=>simp [intOf];omega
   ·obtain⟨r',hl2⟩:=HL.out.skip HKX.out hy
    have HL2:=Lib.hid hl2
    have hy2:(X.op k).state≠1∨((X.op k).state=1∧¬ (X.op k).ready≤now):=by
     by_cases h1:(X.op k).state=1
     ·exact Or.inr ⟨h1,fun h2=>hy ⟨h1,h2⟩⟩
     ·exact Or.inl h1
    clear hy hl2
    rcases hy2 with hy | ⟨hy1,hy2⟩
    ·have e1:((X.op k).state==1)=false:=by simpa using hy
     clear hy
     go_wp2_with(fail)
     go_roundw
     case rel=>exact⟨k+1,r',_,_,_,_,by go_num,by omega,HR,HL2⟩
     case measure=>simp [intOf];omega
    ·have e1:((X.op k).state==1)=true:=by simpa using hy1
     have e2:decide ((X.op k).ready≤now)=false:=decide_eq_false hy2
     clear hy1 hy2
     go_wp2_with(fail)
     go_roundw
     case rel=>exact⟨k+1,r',_,_,_,_,by go_num,by omega,HR,HL2⟩
     case measure=>simp [intOf];omega
  ·have HX:Hid (C2=X):=Lib.hid (HL.out.stop (by rw [HMO.out];omega))
   have e1:decide (k<m)=false:=decide_eq_false hlt
   obtain⟨C3,hC3⟩:∃ C3,beginAll C2.ops.length 0 0 now C2=C3:=⟨_,rfl⟩
   have HYE3:Hid (Y=fetchAll C3.wide.toNat C3):=Lib.hid (by rw [←hC3];exact HYE2.out)
   have HL2:Hid (Lp2 X C3 0 X.ops.length 0 now (N+70) S):=Lib.hid ⟨HL.out.good,by rw [←hC3,HX.out],by omega,HL.out.bd.mono (by omega),HL.out.sub⟩
   clear hC3 HYE2 HX HL HMP HMO HVO hno1 hno2 hm32 hlt hk32
   go_upto_region 12 with(fail)
   clear c335 zg e1
   go_loopw [5,6] (fun v5 v6 wx=>∃ (k r s:Nat) (X:Core) (LX:Lay) (px:List Nat) (cx:Array Value),v6 = .int .i64 k∧v5 = .int .i64 s∧s≤k∧k≤32∧Hid (CoreIs B wx g X LX px cx∧Turned B w wx)∧Hid (Lp2 X C3 k r s now (N+70) S)) (fun _ v _=>33 - (intOf v).toNat)
   case atStart=>exact⟨0,_,0,_,_,_,_,rfl,rfl,by omega,by omega,HR,HL2⟩
   case round=>
    clear HR HL2
    obtain⟨k,r,s,X,LX,px,cx,rfl,rfl,hsk,hk32,HR,HL⟩:=hrel
    have hpl:=HR.out.1.rows.uops.len
    have hol:=HL.out.good.inv.lens.1
    obtain⟨A,n,hvo,hno1,hno2,hno3⟩:=ptr_slice HR.out.1.rows.ptrs
    have c335:wr.cell? ⟨g,335,none⟩=some (.slice A px.length n):=by rw [←hvo];exact HR.out.1.ops
    have zg:=HR.out.1.lt
    obtain⟨m,hm⟩:∃ m,px.length=m:=⟨_,rfl⟩
    have HMP:=Lib.hid hm
    have HMO:=Lib.hid (show X.ops.length=m by rw [←hpl];exact hm)
    have hm32:m≤32:=by omega
    rw [hm] at c335 hno1
    have HVO:=Lib.hid hvo
    have q2:wr.cell? ⟨g,2,none⟩=some (.int .i64 X.wide):=HR.out.1.cell HR.out.1.cells.wide
    clear hpl hol hvo hno3 hm
    by_cases hlt:k<m
    ·have e0:decide (k<m)=true:=decide_eq_true hlt
     by_cases hsw:(s:Int)<X.wide
     ·have e2:decide ((s:Int)<X.wide)=true:=decide_eq_true hsw
      have hkx:k<X.ops.length:=by rw [HMO.out];exact hlt
      have hkp:k<px.length:=by rw [HMP.out];exact hlt
      have h0p:0<px.length:=by omega
      have hrow:=HR.out.1.rows.ptrs
      rw [HVO.out] at hrow
      obtain⟨b0,o0,e00,z0,c00⟩:=ptr_cell hrow h0p
      obtain⟨bP,oP,rfl,zP,cP⟩:=ptr_cell hrow hkp
      injection e00 with e00
      injection e00 with e01 e02 e03
      subst e01 e02
      clear e03
      rw [Nat.add_zero] at c00
      have hpk:px[k]? = some px[k]:=List.getElem?_eq_getElem hkp
      have hp0:px[0]? = some px[0]:=List.getElem?_eq_getElem h0p
      have hu0:=(HR.out.1.uop_at hp0).1
      have HPK:=Lib.hid hpk
      obtain⟨q,hq⟩:∃ q,px[k]=q:=⟨_,rfl⟩
      obtain⟨q0,hq0⟩:∃ q0,px[0]=q0:=⟨_,rfl⟩
      rw [hq] at cP HPK
      rw [hq0] at c00 hu0
      have d0:wr.cell? ⟨q0,0,none⟩=some (.int .i64 (X.op 0).seq):=hu0.cell 0
      have zq0:=hu0.lt
      obtain⟨r',hl2⟩:=HL.out.step hkx hsw
      have HL2:=Lib.hid hl2
      have hnb:=HL.out.bd.cycles
      have CB:=Lib.hid (fun W (hb:Below wr.heap.size wr W)=>begin_all (HR.out.1.ext hb) HL.out.good.inv HPK.out now (X.op 0).seq (by omega) (by omega) (fun x hx=>HSS.out x (HL.out.sub x hx)))
      have hm0:0<m:=by omega
      clear hkx hkp h0p hrow hpk hp0 hu0 hq hq0 hl2 hnb hsw
      go_upto_region 14 with(fail)
      go_simp
      refine wp_region_ob 110447 151696 262143 [0,1,2,3,4,5,6,7,8,9,10,11,12,13,14,15,16,17,18] (by kernel_rfl) (by kernel_rfl) (by kernel_rfl) rfl ?_
      repeat'(first
       |refine oQ rfl rfl ?_
       |(refine' oE _ (by decide) (by decide) (fun wq K hK=>?_) ?_ ?_;rotate_left 1;(· go_wp2_with(fail);all_goals exact hK);rfl)
       |(refine' oR _ (by decide) (by decide) (by decide) (fun wq hwq K hK=>?_) ?_ ?_;rotate_left 1;(· have k335:=hwq.at_ zg c335;have kP:=hwq.at_ zP cP;have k0:=hwq.at_ zP c00;have ks:=hwq.at_ zq0 d0;go_wp2_with(fail);all_goals exact hK);rfl)
       |((first | refine oT rfl rfl rfl rfl ?_ ?_ | refine oF rfl rfl rfl rfl ?_ ?_)<;>intro hc<;>first | (cases hc;done) | ((try cases hc);simp only [Act.put,sA,sS,sZ]))
       |refine oU rfl rfl rfl rfl ?_)
      refine wpOW_solo (by decide) (by decide) (by decide) (by kernel_rfl) (fun w2 hw2 K1 hK1=>?_)
      have hb2:Below wr.heap.size wr w2:=by rw [hw2];exact(Below.refl _ _).drew
      clear hw2
      generalize hbb:(beginP X k now (X.op 0).seq).1=bb at *
      go_wp2_with(go_at_call 16;(with_reducible refine(CB.out w2 hb2).mono ?_);rintro e w3 ⟨rfl,ht3,L3,cs3,h3⟩;have HJ3:=Lib.hid (And.intro h3 ((HR.out.2.trans (Turned.below (B:=B) hb2)).trans ht3));clear h3 ht3)
      refine hK1 _ _ (fun _=>True) trivial ?_
      simp only [Act.put,sA,sS,sZ]
      clear hK1 K1 CB
      refine wpO_nil ?_
      rintro w4 hw4
      rw [←hw4] at HJ3
      clear hw4 hb2 c335 cP c00 d0 q2 zg zP z0 zq0
      rcases bb with _ | _
      ·rw [if_neg (by decide)] at HL2
       go_wp2_with(fail)
       go_roundw
       case rel=>exact⟨k+1,r',s,_,_,_,_,by go_num,rfl,by omega,by omega,HJ3,HL2⟩
       case measure=>simp [intOf];omega
      ·rw [if_pos rfl] at HL2
       go_wp2_with(fail)
       go_roundw
       case rel=>exact⟨k+1,r',s+1,_,_,_,_,by go_num,by go_num,by omega,by omega,HJ3,Lib.hid (by have:=HL2.out;simpa using this)⟩
       case measure=>simp [intOf];omega
     ·have e2:decide ((s:Int)<X.wide)=false:=decide_eq_false hsw
      have HSW:=Lib.hid (show X.wide≤(s:Int) by omega)
      clear hsw
      have HX3:Hid (C3=X):=Lib.hid (HL.out.stop (fun hh=>by have:=HSW.out;omega))
      have hG3:=HL.out.good
      have hcf:=hG3.inv.cfg.2
      obtain⟨wn,hwn⟩:=Int.eq_ofNat_of_zero_le (show 0≤X.wide by omega)
      have HWN:=Lib.hid hwn
      have hwn4:wn≤4:=by omega
      have HL3:Hid (Lp3 X Y wn (N+80) S):=Lib.hid ⟨hG3,by
       have h1:=HYE3.out
       rw [HX3.out,hwn,Int.toNat_natCast] at h1
       exact h1.symm,HL.out.bd.mono (by omega),HL.out.sub⟩
      clear hG3 hcf hwn HL HX3 HYE3
      go_upto_region 17 with(fail)
      clear c335 zg
      go_loopw [7] (fun v7 wx=>∃ (k r:Nat) (X:Core) (LX:Lay) (px:List Nat) (cx:Array Value),v7 = .int .i64 k∧k+r=wn∧Hid (X.wide=wn)∧Hid (CoreIs B wx g X LX px cx∧Turned B w wx)∧Hid (Lp3 X Y r (N+80) S)) (fun v _=>6 - (intOf v).toNat)
      case atStart=>exact⟨0,wn,_,_,_,_,rfl,by omega,HWN,HR,HL3⟩
      case round=>
       clear HR HL3 HWN
       obtain⟨k,r,X,LX,px,cx,rfl,hkr,HW,HR,HL⟩:=hrel
       have q2:wr.cell? ⟨g,2,none⟩=some (.int .i64 (wn:Int)):=by
        have h1:=HR.out.1.cell HR.out.1.cells.wide
        rw [HW.out] at h1
        exact h1
       have zg:=HR.out.1.lt
       by_cases hlt:k<wn
       ·obtain⟨r2,rfl⟩:∃ r2,r=r2+1:=⟨r - 1,by omega⟩
        have e1:decide (k<wn)=true:=decide_eq_true hlt
        have hbd:=HL.out.bd
        have hb1:=hbd.seq
        have hb2:=hbd.taken
        have CF:=Lib.hid (fetch_all HR.out.1 HL.out.good.inv (by omega) ⟨by omega,by omega⟩)
        have HWF:Hid ((fetchC X).2.wide=wn):=Lib.hid ((fetch_part HL.out.good 0).mid.wide.trans HW.out)
        clear hbd hb1 hb2
        rcases hfc:(fetchC X).1 with _ | _
        ·have HX:=Lib.hid (HL.out.last hfc)
         have HFC:=Lib.hid hfc
         clear hfc
         go_wp2_with(go_at_call 17;(with_reducible refine CF.out.mono ?_);intro e w2 hpost;obtain⟨he,ht2,L2,ps2,cs2,h2⟩:=hpost;rw [HFC.out] at he;subst he;have HJ2:=Lib.hid (And.intro h2 (HR.out.2.trans ht2));clear h2 ht2)
         refine bodyPost_end (results_none rfl _ _ _) rfl ?_
         exact⟨rfl,HJ2.out.2,_,_,_,by rw [HX.out];exact HJ2.out.1⟩
        ·have HL2:=Lib.hid (HL.out.step hfc)
         have HFC:=Lib.hid hfc
         clear hfc
         go_wp2_with(go_at_call 17;(with_reducible refine CF.out.mono ?_);intro e w2 hpost;obtain⟨he,ht2,L2,ps2,cs2,h2⟩:=hpost;rw [HFC.out] at he;subst he;have HJ2:=Lib.hid (And.intro h2 (HR.out.2.trans ht2));clear h2 ht2)
         go_roundw
         case rel=>exact⟨k+1,r2,_,_,_,_,by go_num,by omega,HWF,HJ2,HL2⟩
         case measure=>simp [intOf];omega
       ·have e1:decide (k<wn)=false:=decide_eq_false hlt
        obtain rfl:r=0:=by omega
        have HX:Hid (Y=X):=Lib.hid HL.out.goes.symm
        clear HL
        go_wp2_with(fail)
        refine bodyPost_end (results_none rfl _ _ _) rfl ?_
        exact⟨rfl,HR.out.2,_,_,_,by rw [HX.out];exact HR.out.1⟩
    ·have e0:decide (k<m)=false:=decide_eq_false hlt
     have HX3:Hid (C3=X):=Lib.hid (HL.out.stop (fun hh=>by have:=HMO.out;omega))
     have hG3:=HL.out.good
     have hcf:=hG3.inv.cfg.2
     obtain⟨wn,hwn⟩:=Int.eq_ofNat_of_zero_le (show 0≤X.wide by omega)
     have HWN:=Lib.hid hwn
     have hwn4:wn≤4:=by omega
     have HL3:Hid (Lp3 X Y wn (N+80) S):=Lib.hid ⟨hG3,by
      have h1:=HYE3.out
      rw [HX3.out,hwn,Int.toNat_natCast] at h1
      exact h1.symm,HL.out.bd.mono (by omega),HL.out.sub⟩
     clear hG3 hcf hwn HL HX3 HYE3
     go_upto_region 17 with(fail)
     clear c335 zg
     go_loopw [7] (fun v7 wx=>∃ (k r:Nat) (X:Core) (LX:Lay) (px:List Nat) (cx:Array Value),v7 = .int .i64 k∧k+r=wn∧Hid (X.wide=wn)∧Hid (CoreIs B wx g X LX px cx∧Turned B w wx)∧Hid (Lp3 X Y r (N+80) S)) (fun v _=>6 - (intOf v).toNat)
     case atStart=>exact⟨0,wn,_,_,_,_,rfl,by omega,HWN,HR,HL3⟩
     case round=>
      clear HR HL3 HWN
      obtain⟨k,r,X,LX,px,cx,rfl,hkr,HW,HR,HL⟩:=hrel
      have q2:wr.cell? ⟨g,2,none⟩=some (.int .i64 (wn:Int)):=by
       have h1:=HR.out.1.cell HR.out.1.cells.wide
       rw [HW.out] at h1
       exact h1
      have zg:=HR.out.1.lt
      by_cases hlt:k<wn
      ·obtain⟨r2,rfl⟩:∃ r2,r=r2+1:=⟨r - 1,by omega⟩
       have e1:decide (k<wn)=true:=decide_eq_true hlt
       have hbd:=HL.out.bd
       have hb1:=hbd.seq
       have hb2:=hbd.taken
       have CF:=Lib.hid (fetch_all HR.out.1 HL.out.good.inv (by omega) ⟨by omega,by omega⟩)
       have HWF:Hid ((fetchC X).2.wide=wn):=Lib.hid ((fetch_part HL.out.good 0).mid.wide.trans HW.out)
       clear hbd hb1 hb2
       rcases hfc:(fetchC X).1 with _ | _
       ·have HX:=Lib.hid (HL.out.last hfc)
        have HFC:=Lib.hid hfc
        clear hfc
        go_wp2_with(go_at_call 17;(with_reducible refine CF.out.mono ?_);intro e w2 hpost;obtain⟨he,ht2,L2,ps2,cs2,h2⟩:=hpost;rw [HFC.out] at he;subst he;have HJ2:=Lib.hid (And.intro h2 (HR.out.2.trans ht2));clear h2 ht2)
        refine bodyPost_end (results_none rfl _ _ _) rfl ?_
        exact⟨rfl,HJ2.out.2,_,_,_,by rw [HX.out];exact HJ2.out.1⟩
       ·have HL2:=Lib.hid (HL.out.step hfc)
        have HFC:=Lib.hid hfc
        clear hfc
        go_wp2_with(go_at_call 17;(with_reducible refine CF.out.mono ?_);intro e w2 hpost;obtain⟨he,ht2,L2,ps2,cs2,h2⟩:=hpost;rw [HFC.out] at he;subst he;have HJ2:=Lib.hid (And.intro h2 (HR.out.2.trans ht2));clear h2 ht2)
        go_roundw
        case rel=>exact⟨k+1,r2,_,_,_,_,by go_num,by omega,HWF,HJ2,HL2⟩
        case measure=>simp [intOf];omega
      ·have e1:decide (k<wn)=false:=decide_eq_false hlt
       obtain rfl:r=0:=by omega
       have HX:Hid (Y=X):=Lib.hid HL.out.goes.symm
       clear HL
       go_wp2_with(fail)
       refine bodyPost_end (results_none rfl _ _ _) rfl ?_
       exact⟨rfl,HR.out.2,_,_,_,by rw [HX.out];exact HR.out.1⟩
end
end Go.Proofs.Ytapgojgcmlnbgac
