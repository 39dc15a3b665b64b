/- Parts of a proof. -/
import Derived.Test.YtapgojgcmlnbgacGreatK20
import Derived.Deep.CutBlock
set_option linter.unusedSimpArgs false
set_option linter.unusedVariables false
set_option maxRecDepth 100000
set_option maxHeartbeats 16000000
namespace Go.Proofs.YtapgojgcmlnbgacGreat
open Go.RowKit
theorem Ag6 (i:Ins) (h:Al) (A:Option Addr) (cap:Nat) (m:List Int) (w:World) (X:Com×Al×List Int) (hh:h.Wf) (hst:h.state=0) (hca:h.cause=0) (hl:m.length≤140737488351232) (hm:Bytes m) (hA:Aq w w.heap.size .u8 A m) (hnil:A=none→m=[])
  (hok:(Cd m 13 h.pc).2=true) (hdec:Ld (Cd m 13 h.pc).1=some i) (hi:IsP i=true) (hX:Iv i h m=X) :
  Calls Tryz.prog 15 #[.agg h.cells, .slice A m.length cap] w (Rf w A m X):=by
 obtain⟨A0,hA0⟩:∃ a,a=A:=⟨A,rfl⟩
 rw [show Rf w A m X=Rf w A0 m X by rw [hA0]]
 obtain⟨Post,hPost⟩:∃ P,P=Rf w A0 m X:=⟨_,rfl⟩
 rw [←hPost]
 have HPO:=Lib.hid hPost
 have HA0:=Lib.hid hA0
 clear hPost hA0
 obtain⟨⟨o1,o2⟩,⟨hd0,hd1⟩,⟨ha0,ha1⟩,hb0,hb1⟩:=Iu hi
 have ra:=hh.reg i.rs1
 have rb:=hh.reg i.rs2
 have hx:=Nc hm 13 h.pc
 have CL:=Lib.hid (fun W hW=>Kr A cap m 13 h.pc W hh.pc0 hh.pc1 (by omega) hm hW)
 obtain⟨p1,p2,p3⟩:=Al.cells_pc hh.len
 go_enter Tryz.func15,Tryz.ntmps15
 go_upto_region 1 with(fail)
 go_simp
 refine Au fun wa hq=>?_
 have hH:Blk wa w.heap.size 27 h.cells:=by rw [hq];exact(Blk.new w _ _).alloc _
 have hR:Blk wa (w.heap.size+1) 69 M8:=by rw [hq];exact Blk.newAt (w.alloc _) 69 _ (by simp)
 have hbl:Below w.heap.size w wa:=by rw [hq];exact((Below.refl _ _).alloc (Nat.le_refl _) _).alloc (by simp) _
 clear hq
 have c32:=(hH.cell 32).trans p1
 have hAa:=(hA.below hbl).mono hbl.size
 generalize Cd m 13 h.pc=L at *
 obtain⟨x,ok⟩:=L
 dsimp only at hok hdec CL hx
 subst hok
 have CD:=Lib.hid (fun W=>Zv x W hx.1 hx.2)
 have him:=Aho hx.1 hx.2 hdec
 rw [hdec] at CD
 replace CD:Hid (∀ W,Calls Tryz.prog 22 #[.int .u32 x] W fun e w'=>e = .returned (.tuple #[.agg i.cells, .bool true])∧Below W.heap.size W w'):=CD
 clear hdec hx hi
 obtain⟨op,rd,rs1,rs2,imm⟩:=i
 dsimp only at o1 o2 hd0 hd1 ha0 ha1 hb0 hb1 ra rb him
 go_upto_region 7 with(first
  |(go_at_call 20;(with_reducible refine(CL.out _ hAa).mono ?_);rintro e w2 ⟨rfl,rfl⟩)
  |(go_at_call 22;(with_reducible refine(CD.out _).mono ?_);rintro e w3 ⟨rfl,hb3⟩))
 try go_simp
 refine Au fun wb hq=>?_
 have hI:Blk wb w3.heap.size 73 (Ins.mk op rd rs1 rs2 imm).cells:=by rw [hq];exact Blk.new w3 _ _
 have hbb:Below wa.heap.size wa wb:=by rw [hq];exact hb3.alloc hb3.size _
 have hgI:wa.heap.size≤w3.heap.size:=hb3.size
 generalize w3.heap.size=gI at *
 clear hq hb3 c32
 have hgW:w.heap.size+1<wa.heap.size:=hR.lt
 replace hR:=hR.ext hbb
 replace hH:=hH.ext hbb
 replace hbl:=hbl.trans (hbb.mono hbl.size)
 clear hAa
 have hgG:w.heap.size+1<gI:=by omega
 clear hgI hgW hbb CL CD
 have c32:=(hH.cell 32).trans p1
 obtain⟨r1,rfl⟩:=Int.eq_ofNat_of_zero_le ha0
 obtain⟨r2,rfl⟩:=Int.eq_ofNat_of_zero_le hb0
 obtain⟨rd,rfl⟩:=Int.eq_ofNat_of_zero_le hd0
 have er1:h.cells[r1]? = some (.int .u32 (h.reg r1)):=Al.cells_reg (by have:=hh.len;omega)
 have er2:h.cells[r2]? = some (.int .u32 (h.reg r2)):=Al.cells_reg (by have:=hh.len;omega)
 have cr1:=(hH.cell r1).trans er1
 have cr2:=(hH.cell r2).trans er2
 have d0:=hI.cell 0
 have d1:=hI.cell 1
 have d2:=hI.cell 2
 have d3:=hI.cell 3
 have d4:=hI.cell 4
 have hpc0:=hh.pc0
 have hpc1:=hh.pc1
 have CO:=Lib.hid (fun W=>Jj imm W (by omega) (by omega))
 have CS1:=Lib.hid (fun W=>Ui h.pc 4 W hpc0 hpc1 (by omega) (by omega))
 have CS2:=Lib.hid (fun W=>Ui (h.reg r1) (imm%4294967296) W ra.1 ra.2 (by omega) (by omega))
 have CS3:=Lib.hid (fun W=>Ui h.pc (imm%4294967296) W hpc0 hpc1 (by omega) (by omega))
 have hth:=Dc (h.reg r1+imm%4294967296)
 have hnx:=Dc (h.pc+4)
 have HX:Hid (Iv ⟨op,rd,r1,r2,imm⟩ h m=X):=Lib.hid hX
 have hun:u32 imm=imm%4294967296:=rfl
 have built_c:Tryz.prog.built 67 [(0, .int .u32 h.pc)]=some (Com.mk h.pc 0 0 0 0 0 0 0 0 false 0).cells:=by kernel_rfl
 clear hX
 go_upto_region 13 with(first
  |(go_at_call 23;(with_reducible refine(CO.out _).mono ?_);rintro e w2 ⟨rfl,rfl⟩)
  |(go_at_call 24;(with_reducible refine(CS1.out _).mono ?_);rintro e w2 ⟨rfl,hb2⟩;replace hR:=hR.ext hb2;replace hH:=hH.ext hb2;replace hI:=hI.ext hb2;replace hbl:=hbl.trans (hb2.mono hbl.size);have c32:=(hH.cell 32).trans p1;have cr1:=(hH.cell r1).trans er1;have cr2:=(hH.cell r2).trans er2;have d0:=hI.cell 0;have d1:=hI.cell 1;have d4:=hI.cell 4;clear hb2)
  |(go_at_call 24;(with_reducible refine(CS2.out _).mono ?_);rintro e w2 ⟨rfl,hb2⟩;replace hR:=hR.ext hb2;replace hH:=hH.ext hb2;replace hI:=hI.ext hb2;replace hbl:=hbl.trans (hb2.mono hbl.size);have c32:=(hH.cell 32).trans p1;have cr1:=(hH.cell r1).trans er1;have cr2:=(hH.cell r2).trans er2;have d0:=hI.cell 0;have d1:=hI.cell 1;have d4:=hI.cell 4;clear hb2))
 try go_simp
 refine Au fun wc hq=>?_
 have hC9:Blk wc w2.heap.size 67 (Com.mk h.pc 0 0 0 0 0 0 0 0 false 0).cells:=by rw [hq];exact Blk.new w2 _ _
 have hI9:Blk wc gI 73 (Ins.mk op rd r1 r2 imm).cells:=by rw [hq];exact hI.alloc _
 have hH9:Blk wc w.heap.size 27 h.cells:=by rw [hq];exact hH.alloc _
 have hR9:Blk wc (w.heap.size+1) 69 M8:=by rw [hq];exact hR.alloc _
 have hbl9:Below w.heap.size w wc:=by rw [hq];exact hbl.alloc hbl.size _
 have hgC:gI<w2.heap.size:=hI.lt
 generalize w2.heap.size=gC at *
 clear hq hI hH hR hbl CO CS1 CS2 c32 cr1 cr2 d0 d1 d2 d3 d4
 have d0:=hI9.cell 0
 have d1:=hI9.cell 1
 have c32:=(hH9.cell 32).trans p1
 generalize hthe:u32 (h.reg r1+imm%4294967296)=th at *
 generalize hnxe:u32 (h.pc+4)=nx at *
 generalize hae:h.reg r1=ra1 at *
 generalize hbe:h.reg r2=rb1 at *
 have S:S9 w gC gI w.heap.size (w.heap.size+1) (Com.mk h.pc 0 0 0 0 0 0 0 0 false 0) h (Ins.mk op rd r1 r2 imm) wc wc:=⟨hC9,hH9,hI9,hR9,hbl9,Pj.refl _ _ _ _,by omega,hh.len⟩
 clear hC9 hH9 hI9 hR9 hbl9 hgC hgG
 obtain⟨g0,hg⟩:∃ g,decide ((rd:Int)≠0)=g:=⟨_,rfl⟩
 have hg2:((rd:Int) != 0)=g0:=by rw [←hg,Bool.eq_iff_iff];simp
 go_upto_block 0 with(fail)
 try go_simp
 clear d1
 go_cut [1,12,15,16] from 17 to 244 (fun v1 v12 v15 v16 wx=>∃ (A9:Option Addr) (cap9:Nat) (M9:List Int) (NX:Int) (g9:Bool) (VV:Int) (C9:Com) (H9:Al) (wF:World),v1 = .slice A9 m.length cap9∧v12 = .int .u32 NX∧v15 = .bool g9∧v16 = .int .u32 VV∧S9 w gC gI w.heap.size (w.heap.size+1) C9 H9 (Ins.mk op rd r1 r2 imm) wF wx∧Hid (∀ wz,Below w.heap.size w wz→Pj gC w.heap.size (w.heap.size+1) wF wz→Aq wz wz.heap.size .u8 A9 M9∧(A9=none→M9=[])∧((∀ ad,A9=some ad→w.heap.size≤ad.block)∨A9=A0))∧Hid (X=Y0 rd g9 VV NX C9 H9 M9))
 case first=>
  clear hg2
  by_cases k1:op=1
  ·as_aux_lemma=>
    subst k1
    go_wp2_with(fail)
    go_meet
    case rel=>exact⟨A,cap,m,nx,g0,imm%4294967296,_,_,_,rfl,rfl,rfl,rfl,S,Lib.hid (fun wz hb hf=>⟨(hA.below hb).mono hb.size,hnil,Or.inr HA0.out.symm⟩),Lib.hid (by rw [←HX.out];unfold Iv;dsimp only;rw [if_pos (by omega)];simp only [hun,hnxe,hthe,hae,hbe,hg];exact Ik hst hca)⟩
  by_cases k2:op=2
  ·as_aux_lemma=>
    subst k2
    go_wp2_with(go_at_call 24;(with_reducible refine(CS3.out _).mono ?_);rintro e w2 ⟨rfl,hb2⟩;replace S:=S.ext hb2;clear d0 c32;have d0:=S.i.cell 0;have c32:=(S.h.cell 32).trans p1;clear hb2)
    go_meet
    case rel=>exact⟨A,cap,m,nx,g0,u32 (h.pc+imm%4294967296),_,_,_,rfl,rfl,rfl,rfl,S,Lib.hid (fun wz hb hf=>⟨(hA.below hb).mono hb.size,hnil,Or.inr HA0.out.symm⟩),Lib.hid (by rw [←HX.out];unfold Iv;dsimp only;rw [if_neg (by omega),if_pos (by omega)];simp only [hun,hnxe,hthe,hae,hbe,hg];exact Ik hst hca)⟩
  by_cases k3:op=3
  ·as_aux_lemma=>
    subst k3
    go_wp2_with(go_at_call 24;(with_reducible refine(CS3.out _).mono ?_);rintro e w2 ⟨rfl,hb2⟩;replace S:=S.ext hb2;clear d0 c32;have d0:=S.i.cell 0;have c32:=(S.h.cell 32).trans p1;clear hb2)
    go_meet
    case rel=>exact⟨A,cap,m,u32 (h.pc+imm%4294967296),g0,nx,_,_,_,rfl,rfl,rfl,rfl,S,Lib.hid (fun wz hb hf=>⟨(hA.below hb).mono hb.size,hnil,Or.inr HA0.out.symm⟩),Lib.hid (by rw [←HX.out];unfold Iv;dsimp only;rw [if_neg (by omega),if_neg (by omega),if_pos (by omega)];simp only [hun,hnxe,hthe,hae,hbe,hg];exact Ik hst hca)⟩
  by_cases k4:op=4
  ·as_aux_lemma=>
    subst k4
    go_wp2_with(fail)
    go_meet
    case rel=>exact⟨A,cap,m,th - th%2,g0,nx,_,_,_,rfl,rfl,rfl,rfl,S,Lib.hid (fun wz hb hf=>⟨(hA.below hb).mono hb.size,hnil,Or.inr HA0.out.symm⟩),Lib.hid (by rw [←HX.out];unfold Iv;dsimp only;rw [if_neg (by omega),if_neg (by omega),if_neg (by omega),if_pos (by omega)];simp only [hun,hnxe,hthe,hae,hbe,hg];exact Ik hst hca)⟩
  by_cases k5:op≤10
  ·as_aux_lemma=>
    have CH:=Lib.hid (fun W=>Xg op ra1 rb1 W ra.1 ra.2 rb.1 rb.2)
    have tt0:(op==1)=false:=by first | exact decide_eq_true (by omega) | exact decide_eq_false (by omega) | (simp;omega)
    have tt1:(op==2)=false:=by first | exact decide_eq_true (by omega) | exact decide_eq_false (by omega) | (simp;omega)
    have tt2:(op==3)=false:=by first | exact decide_eq_true (by omega) | exact decide_eq_false (by omega) | (simp;omega)
    have tt3:(op==4)=false:=by first | exact decide_eq_true (by omega) | exact decide_eq_false (by omega) | (simp;omega)
    have tt4:decide (5≤op)=true:=by first | exact decide_eq_true (by omega) | exact decide_eq_false (by omega) | (simp;omega)
    have tt5:decide (op≤10)=true:=by first | exact decide_eq_true (by omega) | exact decide_eq_false (by omega) | (simp;omega)
    have hX3:J7 h m ⟨op,rd,r1,r2,imm⟩ false 0 (if Ih op ra1 rb1=true then u32 (h.pc+imm%4294967296) else nx) 0 0 0 0 false 0=X:=by
     rw [←HX.out];symm;unfold Iv;dsimp only;rw [if_neg (by omega),if_neg (by omega),if_neg (by omega),if_neg (by omega),if_pos (by omega)];simp only [hun,hnxe,hthe,hae,hbe]
    clear HX k1 k2 k3 k4
    generalize Ih op ra1 rb1=hb1 at *
    rcases hb1 with _ | _
    all_goals (
     have HX:=Lib.hid hX3
     clear hX3
     go_wp2_with(first | (go_at_call 25;(with_reducible refine(CH.out _).mono ?_);rintro e w2 ⟨rfl,rfl⟩) | (go_at_call 24;(with_reducible refine(CS3.out _).mono ?_);rintro e w2 ⟨rfl,hb2⟩;replace S:=S.ext hb2;clear d0 c32;have d0:=S.i.cell 0;have c32:=(S.h.cell 32).trans p1;clear hb2))
     go_meet
     case rel=>exact⟨A,cap,m,_,false,0,_,_,_,rfl,rfl,rfl,rfl,S,Lib.hid (fun wz hb hf=>⟨(hA.below hb).mono hb.size,hnil,Or.inr HA0.out.symm⟩),Lib.hid (by rw [←HX.out];exact Ik hst hca)⟩)
  by_cases k6:op≤15
  ·as_aux_lemma=>
    have CL:=Lib.hid (fun W hW=>Kr A cap m op th W hth.1 hth.2 (by omega) hm hW)
    have hAa:=(hA.below S.b).mono S.b.size
    have hX3:(if (Cd m op th).2=true then J7 h m ⟨op,rd,r1,r2,imm⟩ g0 (Cd m op th).1 nx 0 0 0 0 false 0 else H5 h m 3)=X:=by
     rw [←HX.out];symm;unfold Iv;dsimp only;rw [if_neg (by omega),if_neg (by omega),if_neg (by omega),if_neg (by omega),if_neg (by omega),if_pos (by omega)];simp only [hun,hnxe,hthe,hae,hbe,hg]
    clear HX
    generalize Cd m op th=L2 at *
    obtain⟨y,ok2⟩:=L2
    dsimp only at CL hX3
    have tt0:(op==1)=false:=by first | exact decide_eq_true (by omega) | exact decide_eq_false (by omega) | (simp;omega)
    have tt1:(op==2)=false:=by first | exact decide_eq_true (by omega) | exact decide_eq_false (by omega) | (simp;omega)
    have tt2:(op==3)=false:=by first | exact decide_eq_true (by omega) | exact decide_eq_false (by omega) | (simp;omega)
    have tt3:(op==4)=false:=by first | exact decide_eq_true (by omega) | exact decide_eq_false (by omega) | (simp;omega)
    have tt4:decide (5≤op)=true:=by first | exact decide_eq_true (by omega) | exact decide_eq_false (by omega) | (simp;omega)
    have tt5:decide (op≤10)=false:=by first | exact decide_eq_true (by omega) | exact decide_eq_false (by omega) | (simp;omega)
    have tt6:decide (11≤op)=true:=by first | exact decide_eq_true (by omega) | exact decide_eq_false (by omega) | (simp;omega)
    have tt7:decide (op≤15)=true:=by first | exact decide_eq_true (by omega) | exact decide_eq_false (by omega) | (simp;omega)
    clear k1 k2 k3 k4 k5
    rcases ok2 with _ | _
    ·obtain rfl:H5 h m 3=X:=hX3
     have hH:=S.h
     have hR:=S.r
     have hbl:=S.b
     have hdi:=Ge (c:=Aw h.pc 3) (h:=⟨h.regs,h.pc,2,3⟩) (v := .slice A m.length cap) hh.len
     have hds:(Fg (Aw h.pc 3) ⟨h.regs,h.pc,2,3⟩ (.slice A m.length cap)).size=M8.size:=by rw [Dy (h:=⟨h.regs,h.pc,2,3⟩) hh.len];rfl
     have hdo:=G4 (Aw h.pc 3) ⟨h.regs,h.pc,2,3⟩ (v := .slice A m.length cap) rfl
     have CT:=Lib.hid (fun W=>H6 h A m.length cap 3 W hh.len)
     obtain⟨D,hD⟩:∃ D,D=Fg (Aw h.pc 3) ⟨h.regs,h.pc,2,3⟩ (.slice A m.length cap):=⟨_,rfl⟩
     rw [←hD] at hdi hds hdo CT
     have HD:=Lib.hid hD
     clear hD
     go_wp2_with(first
      |(refine Ac rfl 27 _ rfl w.heap.size rfl 27 _ _ hH Tryz.underlying27 rfl (B7 hh.len) ?_)
      |(go_at_call 20;(with_reducible refine(CL.out _ hAa).mono ?_);rintro e w2 ⟨rfl,rfl⟩)
      |(go_at_call 21;(with_reducible refine(CT.out _).mono ?_);rintro e w9 ⟨rfl,hb9⟩;replace hR:=hR.ext hb9;replace hbl:=hbl.trans (hb9.mono hbl.size))
      |(refine Ab rfl 69 _ _ rfl (w.heap.size+1) D rfl rfl 69 _ hR hdi hds hdo ?_;intro w5 hB5 hg5;simp only [Act.put,sA,sS,sZ];(repeat go_step);refine bodyPost_ret (v := .agg D) (Az rfl _ _ (w.heap.size+1) 69 _ _ rfl hB5 Tryz.underlying69 rfl hdi) rfl ?_;have hb5:=below_grown hbl hg5 hbl.size (Nat.le_succ _);rw [HPO.out];exact⟨A,cap,by rw [HD.out];rfl,hb5,(hA.below hb5).mono hb5.size,hnil,Or.inr HA0.out.symm⟩))
    ·have HX:Hid (J7 h m ⟨op,rd,r1,r2,imm⟩ g0 y nx 0 0 0 0 false 0=X):=Lib.hid hX3
     clear hX3
     go_wp2_with(go_at_call 20;(with_reducible refine(CL.out _ hAa).mono ?_);rintro e w2 ⟨rfl,rfl⟩)
     go_meet
     case rel=>exact⟨A,cap,m,_,g0,y,_,_,_,rfl,rfl,rfl,rfl,S,Lib.hid (fun wz hb hf=>⟨(hA.below hb).mono hb.size,hnil,Or.inr HA0.out.symm⟩),Lib.hid (by rw [←HX.out];exact Ik hst hca)⟩
  by_cases k16:op=16
  ·as_aux_lemma=>
    subst k16
    have CSN:=Lib.hid (fun W ho=>Mf A m.length cap 16 th rb1 W hth.1 hth.2 hl ho)
    have CSS:=Lib.hid (fun W hW ho=>Nk A cap m 16 th rb1 W hth.1 hth.2 hl rb.1 rb.2 hW ho)
    have CZ:Hid (∀ W,Calls Tryz.prog 27 #[.int .i64 16, .bool true] W fun e w'=>e = .returned (.int .i64 1)∧W=w'):=Lib.hid (fun W=>Dn 16 true W)
    have CPW:Hid (∀ W,Calls Tryz.prog 28 #[.int .i64 8] W fun e w'=>e = .returned (.int .i64 256)∧W=w'):=Lib.hid (fun W=>H4 8 W (by omega))
    have hAa:=(hA.below S.b).mono S.b.size
    have hclt:=S.c.lt
    have hX3:X=if Ga m.length 16 th=true then (Com.mk h.pc nx 0 0 0 0 th 1 (rb1%256) false 0,Al.mk h.regs nx 0 0,O4 m 16 th.toNat rb1) else H5 h m 4:=by
     rw [←HX.out]
     unfold Iv J7
     simp [hun,hnxe,hthe,hae,hbe,B1, *]
    clear HX
    generalize hso:Ga m.length 16 th=ok2 at *
    have HSO:=Lib.hid hso
    clear hso
    rcases ok2 with _ | _
    ·obtain rfl:X=H5 h m 4:=hX3
     clear CSS
     have CL:=Lib.hid trivial
     have hH:=S.h
     have hR:=S.r
     have hbl:=S.b
     have hdi:=Ge (c:=Aw h.pc 4) (h:=⟨h.regs,h.pc,2,4⟩) (v := .slice A m.length cap) hh.len
     have hds:(Fg (Aw h.pc 4) ⟨h.regs,h.pc,2,4⟩ (.slice A m.length cap)).size=M8.size:=by rw [Dy (h:=⟨h.regs,h.pc,2,4⟩) hh.len];rfl
     have hdo:=G4 (Aw h.pc 4) ⟨h.regs,h.pc,2,4⟩ (v := .slice A m.length cap) rfl
     have CT:=Lib.hid (fun W=>H6 h A m.length cap 4 W hh.len)
     obtain⟨D,hD⟩:∃ D,D=Fg (Aw h.pc 4) ⟨h.regs,h.pc,2,4⟩ (.slice A m.length cap):=⟨_,rfl⟩
     rw [←hD] at hdi hds hdo CT
     have HD:=Lib.hid hD
     clear hD
     go_wp2_with(first
      |(refine Ac rfl 27 _ rfl w.heap.size rfl 27 _ _ hH Tryz.underlying27 rfl (B7 hh.len) ?_)
      |(go_at_call 20;(with_reducible refine(CL.out _ hAa).mono ?_);rintro e w2 ⟨rfl,rfl⟩)
      |(go_at_call 21;(with_reducible refine(CT.out _).mono ?_);rintro e w9 ⟨rfl,hb9⟩;replace hR:=hR.ext hb9;replace hbl:=hbl.trans (hb9.mono hbl.size))
      |(refine Ab rfl 69 _ _ rfl (w.heap.size+1) D rfl rfl 69 _ hR hdi hds hdo ?_;intro w5 hB5 hg5;simp only [Act.put,sA,sS,sZ];(repeat go_step);refine bodyPost_ret (v := .agg D) (Az rfl _ _ (w.heap.size+1) 69 _ _ rfl hB5 Tryz.underlying69 rfl hdi) rfl ?_;have hb5:=below_grown hbl hg5 hbl.size (Nat.le_succ _);rw [HPO.out];exact⟨A,cap,by rw [HD.out];rfl,hb5,(hA.below hb5).mono hb5.size,hnil,Or.inr HA0.out.symm⟩)| (go_at_call 26;(with_reducible refine(CSN.out _ rfl).mono ?_);rintro e w2 ⟨rfl,rfl⟩))
    have HX2:Hid (X=(Com.mk h.pc nx 0 0 0 0 th 1 (rb1%256) false 0,Al.mk h.regs nx 0 0,O4 m 16 th.toNat rb1)):=Lib.hid hX3
    clear CSN hX3
    go_upto_region 42 with(first
     |(go_at_call 26;(with_reducible refine(CSS.out _ hAa rfl).mono ?_);rintro e w2 ⟨v,rfl,hb2,hownS⟩;obtain⟨A',cap',rfl⟩:=Bb hownS;replace S:=S.ext hb2;clear d0 c32;have d0:=S.i.cell 0;have c32:=(S.h.cell 32).trans p1;clear hb2)
     |(go_at_call 27;(with_reducible refine(CZ.out _).mono ?_);rintro e w3 ⟨rfl,rfl⟩))
    try go_simp
    clear hAa CSS
    have q6:=(S.at_ 6).1.trans (show _=some (Value.int .u32 0) from rfl)
    have f6:=(S.at_ 6).2
    go_upto_region 43 with(fail)
    try go_simp
    replace S:=S.adr th
    clear q6 f6
    have q7:=(S.at_ 7).1.trans (show _=some (Value.int .i64 0) from rfl)
    have f7:=(S.at_ 7).2
    go_upto_region 44 with(fail)
    try go_simp
    replace S:=S.mny 1
    clear q7 f7
    have q8:=(S.at_ 8).1.trans (show _=some (Value.int .u32 0) from rfl)
    have f8:=(S.at_ 8).2
    go_upto_region 45 with(fail)
    try go_simp
    replace S:=S.dat rb1
    clear q8 f8
    have hlow:rb1.tmod 256=rb1%256:=Int.tmod_eq_emod_of_nonneg rb.1
    have hlw:(rb1%256)%4294967296=rb1%256:=by omega
    have q7:=(S.at_ 7).1.trans (show _=some (Value.int .i64 1) from rfl)
    have q8:=(S.at_ 8).1.trans (show _=some (Value.int .u32 rb1) from rfl)
    have f8:=(S.at_ 8).2
    go_wp2_with(go_at_call 28;(with_reducible refine(CPW.out _).mono ?_);rintro e w3 ⟨rfl,rfl⟩)
    try go_simp
    replace S:=S.dat (rb1%256)
    clear q8 f8 hlow hlw q7
    have hoo:=S.o
    go_wp2_with(fail)
    go_meet
    case rel=>exact⟨A',cap',O4 m 16 th.toNat rb1,nx,false,0,_,_,_,rfl,rfl,rfl,rfl,S,Lib.hid (fun wz hb hf=>⟨Aq.own (hf.own hownS (by omega) (by omega) (by omega)),Sq hownS,Or.inl (fun ad h=>by subst h;have:=(hownS.lt _ rfl).1;omega)⟩),Lib.hid (by rw [HX2.out];unfold Y0;simp [hst,hca]<;>omega)⟩
  by_cases k17:op=17
  ·as_aux_lemma=>
    subst k17
    have CSN:=Lib.hid (fun W ho=>Mf A m.length cap 17 th rb1 W hth.1 hth.2 hl ho)
    have CSS:=Lib.hid (fun W hW ho=>Nk A cap m 17 th rb1 W hth.1 hth.2 hl rb.1 rb.2 hW ho)
    have CZ:Hid (∀ W,Calls Tryz.prog 27 #[.int .i64 17, .bool true] W fun e w'=>e = .returned (.int .i64 2)∧W=w'):=Lib.hid (fun W=>Dn 17 true W)
    have CPW:Hid (∀ W,Calls Tryz.prog 28 #[.int .i64 16] W fun e w'=>e = .returned (.int .i64 65536)∧W=w'):=Lib.hid (fun W=>H4 16 W (by omega))
    have hAa:=(hA.below S.b).mono S.b.size
    have hclt:=S.c.lt
    have hX3:X=if Ga m.length 17 th=true then (Com.mk h.pc nx 0 0 0 0 th 2 (rb1%65536) false 0,Al.mk h.regs nx 0 0,O4 m 17 th.toNat rb1) else H5 h m 4:=by
     rw [←HX.out]
     unfold Iv J7
     simp [hun,hnxe,hthe,hae,hbe,B1, *]
    clear HX
    generalize hso:Ga m.length 17 th=ok2 at *
    have HSO:=Lib.hid hso
    clear hso
    rcases ok2 with _ | _
    ·obtain rfl:X=H5 h m 4:=hX3
     clear CSS
     have CL:=Lib.hid trivial
     have hH:=S.h
     have hR:=S.r
     have hbl:=S.b
     have hdi:=Ge (c:=Aw h.pc 4) (h:=⟨h.regs,h.pc,2,4⟩) (v := .slice A m.length cap) hh.len
     have hds:(Fg (Aw h.pc 4) ⟨h.regs,h.pc,2,4⟩ (.slice A m.length cap)).size=M8.size:=by rw [Dy (h:=⟨h.regs,h.pc,2,4⟩) hh.len];rfl
     have hdo:=G4 (Aw h.pc 4) ⟨h.regs,h.pc,2,4⟩ (v := .slice A m.length cap) rfl
     have CT:=Lib.hid (fun W=>H6 h A m.length cap 4 W hh.len)
     obtain⟨D,hD⟩:∃ D,D=Fg (Aw h.pc 4) ⟨h.regs,h.pc,2,4⟩ (.slice A m.length cap):=⟨_,rfl⟩
     rw [←hD] at hdi hds hdo CT
     have HD:=Lib.hid hD
     clear hD
     go_wp2_with(first
      |(refine Ac rfl 27 _ rfl w.heap.size rfl 27 _ _ hH Tryz.underlying27 rfl (B7 hh.len) ?_)
      |(go_at_call 20;(with_reducible refine(CL.out _ hAa).mono ?_);rintro e w2 ⟨rfl,rfl⟩)
      |(go_at_call 21;(with_reducible refine(CT.out _).mono ?_);rintro e w9 ⟨rfl,hb9⟩;replace hR:=hR.ext hb9;replace hbl:=hbl.trans (hb9.mono hbl.size))
      |(refine Ab rfl 69 _ _ rfl (w.heap.size+1) D rfl rfl 69 _ hR hdi hds hdo ?_;intro w5 hB5 hg5;simp only [Act.put,sA,sS,sZ];(repeat go_step);refine bodyPost_ret (v := .agg D) (Az rfl _ _ (w.heap.size+1) 69 _ _ rfl hB5 Tryz.underlying69 rfl hdi) rfl ?_;have hb5:=below_grown hbl hg5 hbl.size (Nat.le_succ _);rw [HPO.out];exact⟨A,cap,by rw [HD.out];rfl,hb5,(hA.below hb5).mono hb5.size,hnil,Or.inr HA0.out.symm⟩)| (go_at_call 26;(with_reducible refine(CSN.out _ rfl).mono ?_);rintro e w2 ⟨rfl,rfl⟩))
    have HX2:Hid (X=(Com.mk h.pc nx 0 0 0 0 th 2 (rb1%65536) false 0,Al.mk h.regs nx 0 0,O4 m 17 th.toNat rb1)):=Lib.hid hX3
    clear CSN hX3
    go_upto_region 42 with(first
     |(go_at_call 26;(with_reducible refine(CSS.out _ hAa rfl).mono ?_);rintro e w2 ⟨v,rfl,hb2,hownS⟩;obtain⟨A',cap',rfl⟩:=Bb hownS;replace S:=S.ext hb2;clear d0 c32;have d0:=S.i.cell 0;have c32:=(S.h.cell 32).trans p1;clear hb2)
     |(go_at_call 27;(with_reducible refine(CZ.out _).mono ?_);rintro e w3 ⟨rfl,rfl⟩))
    try go_simp
    clear hAa CSS
    have q6:=(S.at_ 6).1.trans (show _=some (Value.int .u32 0) from rfl)
    have f6:=(S.at_ 6).2
    go_upto_region 43 with(fail)
    try go_simp
    replace S:=S.adr th
    clear q6 f6
    have q7:=(S.at_ 7).1.trans (show _=some (Value.int .i64 0) from rfl)
    have f7:=(S.at_ 7).2
    go_upto_region 44 with(fail)
    try go_simp
    replace S:=S.mny 2
    clear q7 f7
    have q8:=(S.at_ 8).1.trans (show _=some (Value.int .u32 0) from rfl)
    have f8:=(S.at_ 8).2
    go_upto_region 45 with(fail)
    try go_simp
    replace S:=S.dat rb1
    clear q8 f8
    have hlow:rb1.tmod 65536=rb1%65536:=Int.tmod_eq_emod_of_nonneg rb.1
    have hlw:(rb1%65536)%4294967296=rb1%65536:=by omega
    have q7:=(S.at_ 7).1.trans (show _=some (Value.int .i64 2) from rfl)
    have q8:=(S.at_ 8).1.trans (show _=some (Value.int .u32 rb1) from rfl)
    have f8:=(S.at_ 8).2
    go_wp2_with(go_at_call 28;(with_reducible refine(CPW.out _).mono ?_);rintro e w3 ⟨rfl,rfl⟩)
    try go_simp
    replace S:=S.dat (rb1%65536)
    clear q8 f8 hlow hlw q7
    have hoo:=S.o
    go_wp2_with(fail)
    go_meet
    case rel=>exact⟨A',cap',O4 m 17 th.toNat rb1,nx,false,0,_,_,_,rfl,rfl,rfl,rfl,S,Lib.hid (fun wz hb hf=>⟨Aq.own (hf.own hownS (by omega) (by omega) (by omega)),Sq hownS,Or.inl (fun ad h=>by subst h;have:=(hownS.lt _ rfl).1;omega)⟩),Lib.hid (by rw [HX2.out];unfold Y0;simp [hst,hca]<;>omega)⟩
  by_cases k18:op=18
  ·as_aux_lemma=>
    subst k18
    have h32:rb1%4294967296=rb1:=by omega
    have CSN:=Lib.hid (fun W ho=>Mf A m.length cap 18 th rb1 W hth.1 hth.2 hl ho)
    have CSS:=Lib.hid (fun W hW ho=>Nk A cap m 18 th rb1 W hth.1 hth.2 hl rb.1 rb.2 hW ho)
    have CZ:Hid (∀ W,Calls Tryz.prog 27 #[.int .i64 18, .bool true] W fun e w'=>e = .returned (.int .i64 4)∧W=w'):=Lib.hid (fun W=>Dn 18 true W)
    have CPW:Hid (∀ W,Calls Tryz.prog 28 #[.int .i64 32] W fun e w'=>e = .returned (.int .i64 4294967296)∧W=w'):=Lib.hid (fun W=>H4 32 W (by omega))
    have hAa:=(hA.below S.b).mono S.b.size
    have hclt:=S.c.lt
    have hX3:X=if Ga m.length 18 th=true then (Com.mk h.pc nx 0 0 0 0 th 4 (rb1%4294967296) false 0,Al.mk h.regs nx 0 0,O4 m 18 th.toNat rb1) else H5 h m 4:=by
     rw [←HX.out]
     unfold Iv J7
     simp [hun,hnxe,hthe,hae,hbe,B1, *]
    clear HX
    generalize hso:Ga m.length 18 th=ok2 at *
    have HSO:=Lib.hid hso
    clear hso
    rcases ok2 with _ | _
    ·obtain rfl:X=H5 h m 4:=hX3
     clear CSS
     have CL:=Lib.hid trivial
     have hH:=S.h
     have hR:=S.r
     have hbl:=S.b
     have hdi:=Ge (c:=Aw h.pc 4) (h:=⟨h.regs,h.pc,2,4⟩) (v := .slice A m.length cap) hh.len
     have hds:(Fg (Aw h.pc 4) ⟨h.regs,h.pc,2,4⟩ (.slice A m.length cap)).size=M8.size:=by rw [Dy (h:=⟨h.regs,h.pc,2,4⟩) hh.len];rfl
     have hdo:=G4 (Aw h.pc 4) ⟨h.regs,h.pc,2,4⟩ (v := .slice A m.length cap) rfl
     have CT:=Lib.hid (fun W=>H6 h A m.length cap 4 W hh.len)
     obtain⟨D,hD⟩:∃ D,D=Fg (Aw h.pc 4) ⟨h.regs,h.pc,2,4⟩ (.slice A m.length cap):=⟨_,rfl⟩
     rw [←hD] at hdi hds hdo CT
     have HD:=Lib.hid hD
     clear hD
     go_wp2_with(first
      |(refine Ac rfl 27 _ rfl w.heap.size rfl 27 _ _ hH Tryz.underlying27 rfl (B7 hh.len) ?_)
      |(go_at_call 20;(with_reducible refine(CL.out _ hAa).mono ?_);rintro e w2 ⟨rfl,rfl⟩)
      |(go_at_call 21;(with_reducible refine(CT.out _).mono ?_);rintro e w9 ⟨rfl,hb9⟩;replace hR:=hR.ext hb9;replace hbl:=hbl.trans (hb9.mono hbl.size))
      |(refine Ab rfl 69 _ _ rfl (w.heap.size+1) D rfl rfl 69 _ hR hdi hds hdo ?_;intro w5 hB5 hg5;simp only [Act.put,sA,sS,sZ];(repeat go_step);refine bodyPost_ret (v := .agg D) (Az rfl _ _ (w.heap.size+1) 69 _ _ rfl hB5 Tryz.underlying69 rfl hdi) rfl ?_;have hb5:=below_grown hbl hg5 hbl.size (Nat.le_succ _);rw [HPO.out];exact⟨A,cap,by rw [HD.out];rfl,hb5,(hA.below hb5).mono hb5.size,hnil,Or.inr HA0.out.symm⟩)| (go_at_call 26;(with_reducible refine(CSN.out _ rfl).mono ?_);rintro e w2 ⟨rfl,rfl⟩))
    have HX2:Hid (X=(Com.mk h.pc nx 0 0 0 0 th 4 (rb1%4294967296) false 0,Al.mk h.regs nx 0 0,O4 m 18 th.toNat rb1)):=Lib.hid hX3
    clear CSN hX3
    go_upto_region 42 with(first
     |(go_at_call 26;(with_reducible refine(CSS.out _ hAa rfl).mono ?_);rintro e w2 ⟨v,rfl,hb2,hownS⟩;obtain⟨A',cap',rfl⟩:=Bb hownS;replace S:=S.ext hb2;clear d0 c32;have d0:=S.i.cell 0;have c32:=(S.h.cell 32).trans p1;clear hb2)
     |(go_at_call 27;(with_reducible refine(CZ.out _).mono ?_);rintro e w3 ⟨rfl,rfl⟩))
    try go_simp
    clear hAa CSS
    have q6:=(S.at_ 6).1.trans (show _=some (Value.int .u32 0) from rfl)
    have f6:=(S.at_ 6).2
    go_upto_region 43 with(fail)
    try go_simp
    replace S:=S.adr th
    clear q6 f6
    have q7:=(S.at_ 7).1.trans (show _=some (Value.int .i64 0) from rfl)
    have f7:=(S.at_ 7).2
    go_upto_region 44 with(fail)
    try go_simp
    replace S:=S.mny 4
    clear q7 f7
    have q8:=(S.at_ 8).1.trans (show _=some (Value.int .u32 0) from rfl)
    have f8:=(S.at_ 8).2
    go_upto_region 45 with(fail)
    try go_simp
    replace S:=S.dat rb1
    clear q8 f8
    clear h32
    have hoo:=S.o
    go_wp2_with(fail)
    go_meet
    case rel=>exact⟨A',cap',O4 m 18 th.toNat rb1,nx,false,0,_,_,_,rfl,rfl,rfl,rfl,S,Lib.hid (fun wz hb hf=>⟨Aq.own (hf.own hownS (by omega) (by omega) (by omega)),Sq hownS,Or.inl (fun ad h=>by subst h;have:=(hownS.lt _ rfl).1;omega)⟩),Lib.hid (by rw [HX2.out];unfold Y0;simp [hst,hca]<;>omega)⟩
  by_cases k27:op≤27
  ·as_aux_lemma=>
    have CP:=Lib.hid (fun W=>Vg op W ⟨by omega,by omega⟩)
    have CA:=Lib.hid (fun W=>O5 (Tx op) ra1 (imm%4294967296) W ra.1 ra.2 (by omega) (by omega))
    have tt0:(op==1)=false:=by first | exact decide_eq_true (by omega) | exact decide_eq_false (by omega) | (simp;omega)
    have tt1:(op==2)=false:=by first | exact decide_eq_true (by omega) | exact decide_eq_false (by omega) | (simp;omega)
    have tt2:(op==3)=false:=by first | exact decide_eq_true (by omega) | exact decide_eq_false (by omega) | (simp;omega)
    have tt3:(op==4)=false:=by first | exact decide_eq_true (by omega) | exact decide_eq_false (by omega) | (simp;omega)
    have tt4:decide (5≤op)=true:=by first | exact decide_eq_true (by omega) | exact decide_eq_false (by omega) | (simp;omega)
    have tt5:decide (op≤10)=false:=by first | exact decide_eq_true (by omega) | exact decide_eq_false (by omega) | (simp;omega)
    have tt6:decide (11≤op)=true:=by first | exact decide_eq_true (by omega) | exact decide_eq_false (by omega) | (simp;omega)
    have tt7:decide (op≤15)=false:=by first | exact decide_eq_true (by omega) | exact decide_eq_false (by omega) | (simp;omega)
    have tt8:decide (16≤op)=true:=by first | exact decide_eq_true (by omega) | exact decide_eq_false (by omega) | (simp;omega)
    have tt9:decide (op≤18)=false:=by first | exact decide_eq_true (by omega) | exact decide_eq_false (by omega) | (simp;omega)
    have tt10:decide (19≤op)=true:=by first | exact decide_eq_true (by omega) | exact decide_eq_false (by omega) | (simp;omega)
    have tt11:decide (op≤27)=true:=by first | exact decide_eq_true (by omega) | exact decide_eq_false (by omega) | (simp;omega)
    clear k1 k2 k3 k4 k5 k6 k16 k17 k18
    have hlo2:¬ op≤18:=by have:=of_decide_eq_false tt9;omega
    go_wp2_with(first
     |(go_at_call 30;(with_reducible refine(CP.out _).mono ?_);rintro e w3 ⟨rfl,rfl⟩)
     |(go_at_call 29;(with_reducible refine(CA.out _).mono ?_);rintro e w2 ⟨rfl,hb2⟩;replace S:=S.ext hb2;clear d0 c32;have d0:=S.i.cell 0;have c32:=(S.h.cell 32).trans p1;clear hb2))
    go_meet
    case rel=>exact⟨A,cap,m,nx,g0,Mw (Tx op) ra1 (imm%4294967296),_,_,_,rfl,rfl,rfl,rfl,S,Lib.hid (fun wz hb hf=>⟨(hA.below hb).mono hb.size,hnil,Or.inr HA0.out.symm⟩),Lib.hid (by rw [←HX.out];unfold Iv;dsimp only;rw [if_neg (by omega),if_neg (by omega),if_neg (by omega),if_neg (by omega),if_neg (by omega),if_neg (by omega),if_neg (by omega),if_pos (by omega)];simp only [hun,hnxe,hthe,hae,hbe,hg];exact Ik hst hca)⟩
  by_cases k45:op≤45
  ·as_aux_lemma=>
    have CA:=Lib.hid (fun W=>O5 op ra1 rb1 W ra.1 ra.2 rb.1 rb.2)
    have tt0:(op==1)=false:=by first | exact decide_eq_true (by omega) | exact decide_eq_false (by omega) | (simp;omega)
    have tt1:(op==2)=false:=by first | exact decide_eq_true (by omega) | exact decide_eq_false (by omega) | (simp;omega)
    have tt2:(op==3)=false:=by first | exact decide_eq_true (by omega) | exact decide_eq_false (by omega) | (simp;omega)
    have tt3:(op==4)=false:=by first | exact decide_eq_true (by omega) | exact decide_eq_false (by omega) | (simp;omega)
    have tt4:decide (5≤op)=true:=by first | exact decide_eq_true (by omega) | exact decide_eq_false (by omega) | (simp;omega)
    have tt5:decide (op≤10)=false:=by first | exact decide_eq_true (by omega) | exact decide_eq_false (by omega) | (simp;omega)
    have tt6:decide (11≤op)=true:=by first | exact decide_eq_true (by omega) | exact decide_eq_false (by omega) | (simp;omega)
    have tt7:decide (op≤15)=false:=by first | exact decide_eq_true (by omega) | exact decide_eq_false (by omega) | (simp;omega)
    have tt8:decide (16≤op)=true:=by first | exact decide_eq_true (by omega) | exact decide_eq_false (by omega) | (simp;omega)
    have tt9:decide (op≤18)=false:=by first | exact decide_eq_true (by omega) | exact decide_eq_false (by omega) | (simp;omega)
    have tt10:decide (19≤op)=true:=by first | exact decide_eq_true (by omega) | exact decide_eq_false (by omega) | (simp;omega)
    have tt11:decide (op≤27)=false:=by first | exact decide_eq_true (by omega) | exact decide_eq_false (by omega) | (simp;omega)
    have tt12:decide (28≤op)=true:=by first | exact decide_eq_true (by omega) | exact decide_eq_false (by omega) | (simp;omega)
    have tt13:decide (op≤45)=true:=by first | exact decide_eq_true (by omega) | exact decide_eq_false (by omega) | (simp;omega)
    clear k1 k2 k3 k4 k5 k6 k16 k17 k18
    go_wp2_with(go_at_call 29;(with_reducible refine(CA.out _).mono ?_);rintro e w2 ⟨rfl,hb2⟩;replace S:=S.ext hb2;clear d0 c32;have d0:=S.i.cell 0;have c32:=(S.h.cell 32).trans p1;clear hb2)
    go_meet
    case rel=>exact⟨A,cap,m,nx,g0,Mw op ra1 rb1,_,_,_,rfl,rfl,rfl,rfl,S,Lib.hid (fun wz hb hf=>⟨(hA.below hb).mono hb.size,hnil,Or.inr HA0.out.symm⟩),Lib.hid (by rw [←HX.out];unfold Iv;dsimp only;rw [if_neg (by omega),if_neg (by omega),if_neg (by omega),if_neg (by omega),if_neg (by omega),if_neg (by omega),if_neg (by omega),if_neg (by omega),if_pos (by omega)];simp only [hun,hnxe,hthe,hae,hbe,hg];exact Ik hst hca)⟩
  by_cases k46:op=46
  ·as_aux_lemma=>
    subst k46
    go_wp2_with(fail)
    go_meet
    case rel=>exact⟨A,cap,m,nx,false,0,_,_,_,rfl,rfl,rfl,rfl,S,Lib.hid (fun wz hb hf=>⟨(hA.below hb).mono hb.size,hnil,Or.inr HA0.out.symm⟩),Lib.hid (by rw [←HX.out];unfold Iv;dsimp only;rw [if_neg (by omega),if_neg (by omega),if_neg (by omega),if_neg (by omega),if_neg (by omega),if_neg (by omega),if_neg (by omega),if_neg (by omega),if_neg (by omega),if_neg (by omega),if_neg (by omega)];simp only [hun,hnxe,hthe,hae,hbe,hg];exact Ik hst hca)⟩
  by_cases k47:op=47
  ·as_aux_lemma=>
    subst k47
    have r10:=hh.reg 10
    have e17:h.cells[17]? = some (.int .u32 (h.reg 17)):=Al.cells_reg (i:=17) (by have:=hh.len;omega)
    have e10:h.cells[10]? = some (.int .u32 (h.reg 10)):=Al.cells_reg (i:=10) (by have:=hh.len;omega)
    have c17:=(S.h.cell 17).trans e17
    have hX3:X=if h.reg 17=0 then (Com.mk h.pc h.pc 1 0 0 0 0 0 0 false 0,Al.mk h.regs h.pc 1 0,m) else if h.reg 17=1 then (Com.mk h.pc nx 0 0 0 0 0 0 0 true (h.reg 10),Al.mk h.regs nx 0 0,m) else H5 h m 5:=by
     rw [←HX.out]
     unfold Iv J7
     simp [hun,hnxe,hthe]
    clear HX
    generalize h.reg 17=a7 at *
    by_cases c0:a7=0
    ·subst c0
     have HX2:Hid (X=(Com.mk h.pc h.pc 1 0 0 0 0 0 0 false 0,Al.mk h.regs h.pc 1 0,m)):=Lib.hid (by simpa using hX3)
     clear hX3
     go_upto_region 54 with(fail)
     try go_simp
     clear c17
     have q33:=S.h33.1
     have f33:=S.h33.2
     go_upto_region 55 with(fail)
     try go_simp
     replace S:=S.hst 1
     clear f33 q33 c32
     have c32:=S.h32.1
     go_wp2_with(fail)
     go_meet
     case rel=>exact⟨A,cap,m,h.pc,false,0,_,_,_,rfl,rfl,rfl,rfl,S,Lib.hid (fun wz hb hf=>⟨(hA.below hb).mono hb.size,hnil,Or.inr HA0.out.symm⟩),Lib.hid (by rw [HX2.out];unfold Y0;simp [hst,hca]<;>omega)⟩
    by_cases c1:a7=1
    ·subst c1
     have HX2:Hid (X=(Com.mk h.pc nx 0 0 0 0 0 0 0 true (h.reg 10),Al.mk h.regs nx 0 0,m)):=Lib.hid (by simpa using hX3)
     clear hX3 c0
     generalize h.reg 10=told at *
     go_upto_region 57 with(fail)
     try go_simp
     clear c17
     have q9:=(S.at_ 9).1.trans (show _=some (Value.bool false) from rfl)
     have f9:=(S.at_ 9).2
     go_upto_region 58 with(fail)
     try go_simp
     replace S:=S.out true
     clear f9 q9
     have c10:=(S.h.cell 10).trans e10
     have q10:=(S.at_ 10).1.trans (show _=some (Value.int .u32 0) from rfl)
     have f10:=(S.at_ 10).2
     go_wp2_with(fail)
     replace S:=S.tld told
     clear f10 q10 c10
     go_meet
     case rel=>exact⟨A,cap,m,nx,false,0,_,_,_,rfl,rfl,rfl,rfl,S,Lib.hid (fun wz hb hf=>⟨(hA.below hb).mono hb.size,hnil,Or.inr HA0.out.symm⟩),Lib.hid (by rw [HX2.out];unfold Y0;simp [hst,hca]<;>omega)⟩
    ·obtain rfl:X=H5 h m 5:=by rw [if_neg c0,if_neg c1] at hX3;exact hX3
     clear hX3
     have t0:(a7==0)=false:=by simpa using c0
     have t1:(a7==1)=false:=by simpa using c1
     clear c0 c1
     have CL:=Lib.hid trivial
     have hAa:=trivial
     have hH:=S.h
     have hR:=S.r
     have hbl:=S.b
     have hdi:=Ge (c:=Aw h.pc 5) (h:=⟨h.regs,h.pc,2,5⟩) (v := .slice A m.length cap) hh.len
     have hds:(Fg (Aw h.pc 5) ⟨h.regs,h.pc,2,5⟩ (.slice A m.length cap)).size=M8.size:=by rw [Dy (h:=⟨h.regs,h.pc,2,5⟩) hh.len];rfl
     have hdo:=G4 (Aw h.pc 5) ⟨h.regs,h.pc,2,5⟩ (v := .slice A m.length cap) rfl
     have CT:=Lib.hid (fun W=>H6 h A m.length cap 5 W hh.len)
     obtain⟨D,hD⟩:∃ D,D=Fg (Aw h.pc 5) ⟨h.regs,h.pc,2,5⟩ (.slice A m.length cap):=⟨_,rfl⟩
     rw [←hD] at hdi hds hdo CT
     have HD:=Lib.hid hD
     clear hD
     go_wp2_with(first
      |(refine Ac rfl 27 _ rfl w.heap.size rfl 27 _ _ hH Tryz.underlying27 rfl (B7 hh.len) ?_)
      |(go_at_call 20;(with_reducible refine(CL.out _ hAa).mono ?_);rintro e w2 ⟨rfl,rfl⟩)
      |(go_at_call 21;(with_reducible refine(CT.out _).mono ?_);rintro e w9 ⟨rfl,hb9⟩;replace hR:=hR.ext hb9;replace hbl:=hbl.trans (hb9.mono hbl.size))
      |(refine Ab rfl 69 _ _ rfl (w.heap.size+1) D rfl rfl 69 _ hR hdi hds hdo ?_;intro w5 hB5 hg5;simp only [Act.put,sA,sS,sZ];(repeat go_step);refine bodyPost_ret (v := .agg D) (Az rfl _ _ (w.heap.size+1) 69 _ _ rfl hB5 Tryz.underlying69 rfl hdi) rfl ?_;have hb5:=below_grown hbl hg5 hbl.size (Nat.le_succ _);rw [HPO.out];exact⟨A,cap,by rw [HD.out];rfl,hb5,(hA.below hb5).mono hb5.size,hnil,Or.inr HA0.out.symm⟩))
  as_aux_lemma=>
   obtain rfl:op=48:=by omega
   have hX2:X=H5 h m 6:=by
    rw [←HX.out]
    unfold Iv
    simp
   subst hX2
   clear HX
   have CL:=Lib.hid trivial
   have hAa:=trivial
   have hH:=S.h
   have hR:=S.r
   have hbl:=S.b
   have hdi:=Ge (c:=Aw h.pc 6) (h:=⟨h.regs,h.pc,2,6⟩) (v := .slice A m.length cap) hh.len
   have hds:(Fg (Aw h.pc 6) ⟨h.regs,h.pc,2,6⟩ (.slice A m.length cap)).size=M8.size:=by rw [Dy (h:=⟨h.regs,h.pc,2,6⟩) hh.len];rfl
   have hdo:=G4 (Aw h.pc 6) ⟨h.regs,h.pc,2,6⟩ (v := .slice A m.length cap) rfl
   have CT:=Lib.hid (fun W=>H6 h A m.length cap 6 W hh.len)
   obtain⟨D,hD⟩:∃ D,D=Fg (Aw h.pc 6) ⟨h.regs,h.pc,2,6⟩ (.slice A m.length cap):=⟨_,rfl⟩
   rw [←hD] at hdi hds hdo CT
   have HD:=Lib.hid hD
   clear hD
   go_wp2_with(first
    |(refine Ac rfl 27 _ rfl w.heap.size rfl 27 _ _ hH Tryz.underlying27 rfl (B7 hh.len) ?_)
    |(go_at_call 20;(with_reducible refine(CL.out _ hAa).mono ?_);rintro e w2 ⟨rfl,rfl⟩)
    |(go_at_call 21;(with_reducible refine(CT.out _).mono ?_);rintro e w9 ⟨rfl,hb9⟩;replace hR:=hR.ext hb9;replace hbl:=hbl.trans (hb9.mono hbl.size))
    |(refine Ab rfl 69 _ _ rfl (w.heap.size+1) D rfl rfl 69 _ hR hdi hds hdo ?_;intro w5 hB5 hg5;simp only [Act.put,sA,sS,sZ];(repeat go_step);refine bodyPost_ret (v := .agg D) (Az rfl _ _ (w.heap.size+1) 69 _ _ rfl hB5 Tryz.underlying69 rfl hdi) rfl ?_;have hb5:=below_grown hbl hg5 hbl.size (Nat.le_succ _);rw [HPO.out];exact⟨A,cap,by rw [HD.out];rfl,hb5,(hA.below hb5).mono hb5.size,hnil,Or.inr HA0.out.symm⟩))
 case rest=>
  clear HX S d0 c32
  obtain⟨A9,cap9,M9,NX,g9,VV,C9,H9,wF,e1,e12,e15,e16,S,KA,HXE⟩:=hcut
  subst e1 e12 e15 e16
  rcases g9 with _ | _
  ·as_aux_lemma=>
    go_upto_region 66 with(fail)
    try go_simp
    have q1:=(S.at_ 1).1.trans (show _=some (Value.int .u32 C9.next) from rfl)
    have f1:=(S.at_ 1).2
    go_upto_region 67 with(fail)
    try go_simp
    replace S:=S.next NX
    clear q1 f1
    have q2:=(S.at_ 2).1.trans (show _=some (Value.int .i64 C9.state) from rfl)
    have f2:=(S.at_ 2).2
    have q33:=S.h33.1
    go_upto_region 68 with(fail)
    try go_simp
    replace S:=S.st H9.state
    clear q2 f2 q33
    have q32:=S.h32.1
    have f32:=S.h32.2
    go_upto_region 69 with(fail)
    try go_simp
    replace S:=S.pc NX
    clear q32 f32
    rcases(⟨_,rfl,S⟩:∃ c:Com,c=_∧S9 _ _ _ _ _ c _ _ _ _) with⟨CF,hCF,S⟩
    rcases(⟨_,rfl,S⟩:∃ x:Al,x=_∧S9 _ _ _ _ _ _ x _ _ _) with⟨HF,hHF,S⟩
    have HXF:Hid (X=(CF,HF,M9)):=Lib.hid (by rw [HXE.out,hCF,hHF];rfl)
    have hb:=Qz CF HF A9 m.length cap9 S.l
    have hdi:=Ge (c:=CF) (h:=HF) (v := .slice A9 m.length cap9) S.l
    have hds:(Fg CF HF (.slice A9 m.length cap9)).size=M8.size:=by rw [Dy S.l];rfl
    have hdo:=G4 CF HF (v := .slice A9 m.length cap9) rfl
    obtain⟨D,hD⟩:∃ D,D=Fg CF HF (.slice A9 m.length cap9):=⟨_,rfl⟩
    rw [←hD] at hdi hds hdo hb
    have HD:=Lib.hid hD
    clear hD hCF hHF HXE
    obtain⟨V,hV⟩:∃ V:Value,V = .agg HF.cells:=⟨_,rfl⟩
    rw [←hV] at hb
    have HV:=Lib.hid hV
    clear hV
    go_step
    refine Ac rfl 67 _ rfl gC rfl 67 _ _ S.c Tryz.underlying67 rfl Ar ?_
    simp only [Act.put,sA,sS,sZ]
    refine Ke V rfl 27 _ rfl w.heap.size rfl 27 _ _ S.h Tryz.underlying27 rfl (B7 (h:=HF) S.l) HV.out ?_
    simp only [Act.put,sA,sS,sZ]
    refine Ia rfl _ rfl (.slice A9 m.length cap9) rfl ?_
    simp only [Act.put,sA,sS,sZ]
    refine Ao rfl 69 _ rfl [(0, .agg CF.cells),(1,V),(2, .slice A9 m.length cap9)] (by kernel_rfl) _ hb ?_
    simp only [Act.put,sA,sS,sZ]
    refine Ab rfl 69 _ _ rfl (w.heap.size+1) D rfl rfl 69 _ S.r hdi hds hdo ?_
    intro w5 hB5 hg5
    simp only [Act.put,sA,sS,sZ]
    go_step
    go_step
    go_step
    go_step
    refine bodyPost_ret (v := .agg D) (Az rfl _ _ (w.heap.size+1) 69 _ _ rfl hB5 Tryz.underlying69 rfl hdi) rfl ?_
    have hb5:=below_grown S.b hg5 S.b.size (Nat.le_succ _)
    obtain⟨k1,k2,k3⟩:=KA.out w5 hb5 (S.f.grown hg5 (by omega))
    rw [HPO.out,HXF.out]
    exact⟨A9,cap9,by rw [HD.out],hb5,k1,k2,k3⟩
  ·as_aux_lemma=>
    go_upto_region 63 with(fail)
    try go_simp
    have q4:=(S.at_ 4).1.trans (show _=some (Value.int .i64 C9.rd) from rfl)
    have f4:=(S.at_ 4).2
    have d1:=S.i.cell 1
    go_upto_region 64 with(fail)
    try go_simp
    replace S:=S.rd rd
    clear q4 f4
    have q5:=(S.at_ 5).1.trans (show _=some (Value.int .u32 C9.value) from rfl)
    have f5:=(S.at_ 5).2
    go_upto_region 65 with(fail)
    try go_simp
    replace S:=S.val VV
    clear q5 f5 d1
    obtain⟨qr,fr⟩:=S.hr rd (by omega)
    have i1:=S.i.cell 1
    go_upto_region 66 with(fail)
    try go_simp
    replace S:=S.reg rd (by omega) VV
    clear qr fr i1
    have q1:=(S.at_ 1).1.trans (show _=some (Value.int .u32 C9.next) from rfl)
    have f1:=(S.at_ 1).2
    go_upto_region 67 with(fail)
    try go_simp
    replace S:=S.next NX
    clear q1 f1
    have q2:=(S.at_ 2).1.trans (show _=some (Value.int .i64 C9.state) from rfl)
    have f2:=(S.at_ 2).2
    have q33:=S.h33.1
    go_upto_region 68 with(fail)
    try go_simp
    replace S:=S.st H9.state
    clear q2 f2 q33
    have q32:=S.h32.1
    have f32:=S.h32.2
    go_upto_region 69 with(fail)
    try go_simp
    replace S:=S.pc NX
    clear q32 f32
    rcases(⟨_,rfl,S⟩:∃ c:Com,c=_∧S9 _ _ _ _ _ c _ _ _ _) with⟨CF,hCF,S⟩
    rcases(⟨_,rfl,S⟩:∃ x:Al,x=_∧S9 _ _ _ _ _ _ x _ _ _) with⟨HF,hHF,S⟩
    have HXF:Hid (X=(CF,HF,M9)):=Lib.hid (by rw [HXE.out,hCF,hHF];rfl)
    have hb:=Qz CF HF A9 m.length cap9 S.l
    have hdi:=Ge (c:=CF) (h:=HF) (v := .slice A9 m.length cap9) S.l
    have hds:(Fg CF HF (.slice A9 m.length cap9)).size=M8.size:=by rw [Dy S.l];rfl
    have hdo:=G4 CF HF (v := .slice A9 m.length cap9) rfl
    obtain⟨D,hD⟩:∃ D,D=Fg CF HF (.slice A9 m.length cap9):=⟨_,rfl⟩
    rw [←hD] at hdi hds hdo hb
    have HD:=Lib.hid hD
    clear hD hCF hHF HXE
    obtain⟨V,hV⟩:∃ V:Value,V = .agg HF.cells:=⟨_,rfl⟩
    rw [←hV] at hb
    have HV:=Lib.hid hV
    clear hV
    go_step
    refine Ac rfl 67 _ rfl gC rfl 67 _ _ S.c Tryz.underlying67 rfl Ar ?_
    simp only [Act.put,sA,sS,sZ]
    refine Ke V rfl 27 _ rfl w.heap.size rfl 27 _ _ S.h Tryz.underlying27 rfl (B7 (h:=HF) S.l) HV.out ?_
    simp only [Act.put,sA,sS,sZ]
    refine Ia rfl _ rfl (.slice A9 m.length cap9) rfl ?_
    simp only [Act.put,sA,sS,sZ]
    refine Ao rfl 69 _ rfl [(0, .agg CF.cells),(1,V),(2, .slice A9 m.length cap9)] (by kernel_rfl) _ hb ?_
    simp only [Act.put,sA,sS,sZ]
    refine Ab rfl 69 _ _ rfl (w.heap.size+1) D rfl rfl 69 _ S.r hdi hds hdo ?_
    intro w5 hB5 hg5
    simp only [Act.put,sA,sS,sZ]
    go_step
    go_step
    go_step
    go_step
    refine bodyPost_ret (v := .agg D) (Az rfl _ _ (w.heap.size+1) 69 _ _ rfl hB5 Tryz.underlying69 rfl hdi) rfl ?_
    have hb5:=below_grown S.b hg5 S.b.size (Nat.le_succ _)
    obtain⟨k1,k2,k3⟩:=KA.out w5 hb5 (S.f.grown hg5 (by omega))
    rw [HPO.out,HXF.out]
    exact⟨A9,cap9,by rw [HD.out],hb5,k1,k2,k3⟩
end Go.Proofs.YtapgojgcmlnbgacGreat
