/- Parts of a proof. -/
import Derived.Test.YtapgojgcmlnbgaaGreatDoorTZ
import Derived.Test.YtapgojgcmlnbgaaGreatDoorT02
import Derived.Test.YtapgojgcmlnbgaaGreatDoorT10
set_option linter.unusedSimpArgs false
set_option linter.unusedVariables false
set_option maxRecDepth 100000
set_option maxHeartbeats 16000000
namespace Go.Proofs.YtapgojgcmlnbgaaGreatDoor
open Go.RowKit
section
variable {B:Nat} {w:World} {g p:Nat} {C:Core} {L:Lay} {ps:List Nat} {cs:Array Value}
theorem Afb (h:Af B w g C L ps cs) {k:Nat} (hp:ps[k]? = some p) {b:Nat} (hH:Blk w b 30 (Ed C (C.op k)).cells) (hR:(Ed C (C.op k)).Wf) (hl:Bp (C.op k).ins=true) (hf:UF (C.op k))
  (hwf:∀ a∈C.access,a.Wf) (hby:Bytes C.mem) (hroom:C.mem.length≤4096) (hac:C.access.length≤1000) {j:Nat} (hj:Jh C.access (C.op k).seq=(j:Int)) (hjl:j<C.access.length) :
  Calls Tryz.prog 66 #[.pointer (some ⟨g,0,none⟩), .pointer (some ⟨p,0,none⟩), .pointer (some ⟨b,0,none⟩)] w fun e w'=>e = .returned (.tuple #[])∧Ah B w w' ∧
   Af B w' g { C with access:=(M3 C (C.op k)).2,ops:=C.ops.set k { C.op k with commit:=(M3 C (C.op k)).1 } } L ps cs:=by
 obtain⟨hu,hBp,hk,hg⟩:=h.uop_at hp
 have hlop:=D5.1 hl
 unfold M3
 dsimp only
 rw [hj]
 simp only [Int.toNat_natCast]
 generalize C.op k=u at *
 generalize Ed C u=hh at *
 have c0:w.cell? ⟨p,0,none⟩=some (.int .i64 u.seq):=hu.cell 0
 have c3:w.cell? ⟨p,3,none⟩=some (.int .u32 u.pc):=hu.cell 3
 have c5:w.cell? ⟨p,5,none⟩=some (.int .i64 u.ins.op):=hu.cell 5
 have c7:w.cell? ⟨p,7,none⟩=some (.int .i64 u.ins.rs1):=hu.cell 7
 have c9:w.cell? ⟨p,9,none⟩=some (.int .i32 u.ins.imm):=hu.cell 9
 unfold Aq.reg
 obtain⟨r1,hr1e⟩:∃ r1,r1=u.ins.rs1.toNat:=⟨_,rfl⟩
 have e1:u.ins.rs1=(r1:Int):=by have:=hf.rs1.1;omega
 have hr1:r1<32:=by have:=hf.rs1.2;omega
 rw [e1] at c7
 rw [←hr1e]
 have cr:w.cell? ⟨b,r1,none⟩=some (.int .u32 (hh.regs.getD r1 0)):=(hH.cell r1).trans (Aq.cells_reg (by rw [hR.len];exact hr1))
 generalize hh.regs.getD r1 0=x at *
 have zp:=hu.lt
 have zg:=h.lt
 have zb:=hH.lt
 have hub:=Da (x+u.ins.imm)
 unfold u32 at hub ⊢
 obtain⟨AT,hAT⟩:∃ AT,AT=(x+u.ins.imm)%4294967296:=⟨_,rfl⟩
 rw [←hAT] at hub ⊢
 have hAT2:(x+u.ins.imm%4294967296)%4294967296=AT:=by rw [hAT];omega
 have HOP:=qA hg
 have HI:=qA h
 have HP:=qA hu
 have CBY:=qA (fun W=>Wq u.ins.op W hlop.1 hlop.2)
 have CS0:=qA (fun A cA M cM W h1 h2=>Tx A cA C.access M cM C.mem u.seq AT (loadBytes u.ins.op) W (by omega) (by omega) hwf hby h1 h2 hub.1 (by omega))
 have CA0:∀ W L3 cs3,Af B W g C L3 ps cs3→Calls Tryz.prog 97 #[.pointer (some ⟨g,0,none⟩), .int .i64 u.seq] W fun e w'=>e = .returned (.int .i64 (j:Int))∧Below W.heap.size W w':=fun W L3 cs3 h=>by
  rw [←hj]
  exact Ahc h u.seq hac
 replace CA0:=qA CA0
 obtain⟨a0,hja⟩:∃ a0,C.access[j]? = some a0:=⟨_,qI hjl⟩
 have hjd:C.access.getD j default=a0:=by simp [List.getD,hja]
 rw [hjd]
 generalize Eb C.access C.mem u.seq AT (loadBytes u.ins.op)=S at *
 obtain⟨sw,so,ss⟩:=S
 dsimp only at CS0 ⊢
 clear h hu hH hR e1 hr1e hg hj hjd hwf hby hAT
 obtain⟨cX,hcX⟩:∃ c,c=Cl ⟨u.ins.op,u.ins.rd,u.ins.rs1,u.ins.rs2,0⟩ ⟨List.replicate 32 0,u.pc,0,0⟩ (bytesOf sw):=⟨_,rfl⟩
 have CD0:∀ hb mb W,Blk W hb 30 (Aq.cells ⟨List.replicate 32 0,u.pc,0,0⟩)→Blk W mb 151 #[.int .u8 (sw%256), .int .u8 (sw / 256%256), .int .u8 (sw / 65536%256), .int .u8 (sw / 16777216%256)] →
   Calls Tryz.prog 35 #[.agg (Ins.cells ⟨u.ins.op,u.ins.rd,u.ins.rs1,u.ins.rs2,0⟩), .pointer (some ⟨hb,0,none⟩), .slice (some ⟨mb,0,none⟩) 4 4] W fun e w'=>e = .returned (.agg cX.cells)∧Below W.heap.size W w':=fun hb mb W h1 h2=>by
  rw [hcX]
  exact Ui ⟨u.ins.op,u.ins.rd,u.ins.rs1,u.ins.rs2,0⟩ ⟨List.replicate 32 0,u.pc,0,0⟩ hb 0 (some ⟨mb,0,none⟩) 4 (bytesOf sw) W ⟨rfl,fun x hx=>by simp at hx;omega,hf.pc.1,hf.pc.2⟩ hf.rs1.1 hf.rs1.2 hf.rs2.1 hf.rs2.2 (F8.of_blk rfl h1) (by show 4≤9223372036854775807;decide) (Gz sw) (fun _=>⟨mb,0,rfl,h2.lt,fun i v hi=>by
   rw [Nat.zero_add,h2.cell]
   match i with
   |0=>cases hi;rfl
   |1=>cases hi;rfl
   |2=>cases hi;rfl
   |3=>cases hi;rfl
   |i+4=>cases hi⟩)
 replace CD0:=qA CD0
 rw [←hcX]
 clear hcX
 rcases so with _ | _
 focus
  rw [if_neg (by decide)]
  dsimp only
  generalize hX0:({ C with access:=_,ops:=C.ops.set k { u with commit:=_ } }:Core)=X0
  have HX0:=qA hX0
  clear hX0
 rotate_left 1
 focus
  rw [if_pos rfl]
  dsimp only
  generalize hX0:({ C with access:=_,ops:=C.ops.set k { u with commit:=_ } }:Core)=X0
  have HX0:=qA hX0
  clear hX0
 rotate_left 1
 all_goals
  go_enter Tryz.func66,Tryz.ntmps66
  go_upto_region 0 with(fail)
  go_simp
  refine Ad 245215 16928 262143 [0,1,2,3,4,5,6,7,8,9,10,11,12,13,14,15,16,17] (by kernel_rfl) (by kernel_rfl) (by kernel_rfl) rfl ?_
  refine rR (fun wq hwq=>i2 (hwq.at_ zp c7) (i2 (hwq.at_ zp c9) (hwq.at_ zb cr))) ?_
  refine Aj ?_
  intro w1 hw1
  replace hw1:Below w.heap.size w w1:=by first | exact hw1 | (rw [hw1];exact(qB _ _).drew)
  rw [hAT2]
  have HI1:=qA (HI.out.ext hw1)
  have HP1:=qA (HP.out.ext hw1)
  have HT1:=qA (Ah.below (B:=B) hw1)
  have d5:w1.cell? ⟨p,5,none⟩=some (.int .i64 u.ins.op):=HP1.out.cell 5
  have z1:=HP1.out.lt
  clear c0 c3 c5 c7 c9 zp zg zb cr hw1 HI HP
  go_upto_region 2 with(go_at_call 96;(with_reducible refine(CBY.out _).mono ?_);rintro e w2 ⟨rfl,rfl⟩)
  go_simp
  clear d5
  obtain⟨ga,cA,cur,hAv,hbA,hBA,hrA,hszA⟩:=W3 HI1.out.rows.access (by omega)
  obtain⟨MA,cM,hMv,hMl,hMn,hMI,hMc,hMb⟩:=Fs HI1.out.rows.mem
  have hS:Ee w1 w1.heap.size (some ⟨ga,0,none⟩) C.access:=by
   have h1:=HI1.out.rows.access
   rw [hAv] at h1
   exact Ee.own h1
  have c336:w1.cell? ⟨g,336,none⟩=some (.slice (some ⟨ga,0,none⟩) C.access.length cA):=by rw [←hAv];exact HI1.out.access
  have c39:w1.cell? ⟨g,39,none⟩=some (.slice MA C.mem.length cM):=by rw [←hMv];exact HI1.out.mem
  have d0:w1.cell? ⟨p,0,none⟩=some (.int .i64 u.seq):=HP1.out.cell 0
  have zg:=HI1.out.lt
  have CS:=qA (fun W (hb:Below w1.heap.size w1 W)=>CS0.out (some ⟨ga,0,none⟩) cA MA cM W ((hS.below hb).mono hb.size) ((hMI.below hb).mono hb.size))
  have HAV:=qA hAv
  clear hAv hbA hBA hrA hszA hMv hMl hMn hMI hMc hMb hS
  refine Ad 8351479 4360 8355839 [0,1,2,3,4,5,6,7,8,9,10,11,12,13,14,15,16,17,18,19,20,21,22] (by kernel_rfl) (by kernel_rfl) (by kernel_rfl) rfl ?_
  refine rR (fun wq hwq=>i2 (hwq.at_ zg c336) (i2 (hwq.at_ zg c39) (hwq.at_ z1 d0))) ?_
  refine oS (fun w3 hw3 K1 hK1=>?_)
  have hb3:Below w1.heap.size w1 w3:=by rw [hw3];exact(qB _ _).drew
  clear hw3
  go_wp2_with(go_at_call 75;(with_reducible refine(CS.out w3 hb3).mono ?_);rintro e w4 ⟨rfl,hb4⟩)
  refine hK1 _ _ (fun _=>True) trivial ?_
  simp only [Act.put,sA,sS,sZ]
  clear hK1 K1
  refine rO ?_
  refine Aj ?_
  rintro w5 hw5
  replace hb4:=hb3.trans (hb4.mono hb3.size)
  rw [←hw5] at hb4
  clear hw5 hb3 CS c336 c39 d0 z1 zg
  have HI5:=qA (HI1.out.ext hb4)
  have HP5:=qA (HP1.out.ext hb4)
  have HT5:=qA (HT1.out.trans (Ah.below (B:=B) hb4))
  clear hb4 HI1 HP1 HT1
 ·skip
  have c3:w5.cell? ⟨p,3,none⟩=some (.int .u32 u.pc):=HP5.out.cell 3
  have z5:=HP5.out.lt
  go_upto_region 4 with(fail)
  go_simp
  refine Ad 3311 784 4095 [0,1,2,3,4,5,6,7,8,9,10,11,12] (by kernel_rfl) (by kernel_rfl) (by kernel_rfl) rfl ?_
  repeat'(first
   |refine rZ ?_
   |(refine' oR _ (by decide) (by decide) (by decide) (fun wq hwq K hK=>?_) ?_ ?_;rotate_left 1;(· have k3:=hwq.at_ z5 c3;first | ((refine Dw 65 _ rfl [(0, .int .u32 u.pc),(1, .int .u32 u.pc),(2, .int .i64 2),(3, .int .i64 3)] rfl _ (Z6 u.pc) ?_;exact hK)) | (go_wp2_with(fail);all_goals exact hK));rfl)
   |fail)
  refine oS (fun w6 hw6 K1 hK1=>?_)
  have hb6:Below w5.heap.size w5 w6:=by rw [hw6];exact(qB _ _).drew
  clear hw6
  have hP6:=HP5.out.ext hb6
  refine Ch 65 _ _ rfl p 16 (By u.pc 3).cells rfl rfl 107 u.cells hP6 (Kc _) (by rw [Uop.size,Mb];decide) (cells_one _) ?_
  intro w7 hB7 hg7
  refine hK1 undef _ (fun _=>True) trivial ?_
  simp only [Act.put,sA,sS,sZ]
  clear hK1 K1
  refine Aj ?_
  rintro w8 rfl
  go_wp2_with(fail)
  refine bodyPost_ret (results_none rfl _ _ _) rfl ?_
  refine⟨rfl,(HT5.out.trans (Ah.below (B:=B) hb6)).trans (Cc hP6 hBp hg7),?_⟩
  rw [←HX0.out]
  exact(HI5.out.ext hb6).uopall hp hP6 hg7 (u':={ u with commit:=By u.pc 3 }) (by rw [←P0];exact hB7)
 ·skip
  have c336:w5.cell? ⟨g,336,none⟩=some (.slice (some ⟨ga,0,none⟩) C.access.length cA):=by rw [←HAV.out];exact HI5.out.access
  have c0:w5.cell? ⟨p,0,none⟩=some (.int .i64 u.seq):=HP5.out.cell 0
  have z5:=HP5.out.lt
  have zg5:=HI5.out.lt
  have CA:=qA (fun W (hb:Below w5.heap.size w5 W)=>CA0.out W _ _ (HI5.out.ext hb))
  go_upto_region 5 with(fail)
  go_simp
  refine Ad 3319 264 3583 [0,1,2,3,4,5,6,7,8,9,10,11] (by kernel_rfl) (by kernel_rfl) (by kernel_rfl) rfl ?_
  refine rR (fun wq hwq=>i2 (hwq.at_ zg5 c336) (hwq.at_ z5 c0)) ?_
  refine oB (fun w6 hw6 K1 hK1=>?_)
  have hb6:Below w5.heap.size w5 w6:=by rw [hw6];exact(qB _ _).drew
  clear hw6
  go_wp2_with(go_at_call 97;(with_reducible refine(CA.out w6 hb6).mono ?_);rintro e w7 ⟨rfl,hb7⟩)
  replace hb7:=hb6.trans (hb7.mono hb6.size)
  refine hK1 _ _ hb7 ?_
  simp only [Act.put,sA,sS,sZ]
  clear hK1 K1
  refine rO ?_
  refine Aj ?_
  rintro w8 hw8
  rw [←hw8] at hb7
  clear hw8 hb6 CA c336 c0 z5 zg5
  have h8:=HI5.out.ext hb7
  obtain⟨k2,f2,z8⟩:=Jy h8 HAV.out hja (i:=2) (by decide)
  obtain⟨k3,f3,_⟩:=Jy h8 HAV.out hja (i:=3) (by decide)
  obtain⟨k4,f4,_⟩:=Jy h8 HAV.out hja (i:=4) (by decide)
  obtain⟨k6,f6,_⟩:=Jy h8 HAV.out hja (i:=6) (by decide)
  have s8:=h8.setacc4 HAV.out hja AT (loadBytes u.ins.op) (i4:=6) (by decide) (x4 := .bool true) (a':={ a0 with known:=true,at_:=AT,many:=loadBytes u.ins.op,done:=true }) rfl
  have HJ8:=qA (qL s8.1 ((HT5.out.trans (Ah.below (B:=B) hb7)).trans s8.2))
  have HP8:=qA (HP5.out.ext hb7)
  clear h8 s8 hb7 HI5 HP5 HT5
  go_upto_region 7 with(fail)
  go_simp
  clear k2 k3 k4 k6 f2 f3 f4 f6 z8
  generalize (((w8.setCell ⟨ga,j*7+2,none⟩ (.bool true)).setCell ⟨ga,j*7+3,none⟩ (.int .u32 AT)).setCell ⟨ga,j*7+4,none⟩ (.int .i64 (loadBytes u.ins.op))).setCell ⟨ga,j*7+6,none⟩ (.bool true)=w9 at *
  have HP9:=qA (HJ8.out.1.rows.uops.at_ k u p HOP.out hp).1
  clear HP8
  go_upto_region 8 with(first
   |(refine Am rfl 151 _ rfl [(0, .int .u8 _),(1, .int .u8 _),(2, .int .u8 _),(3, .int .u8 _)] rfl _ (Qc _ _ _ _) ?_)
   |(refine Ae rfl 151 _ _ rfl w9.heap.size _ rfl rfl 151 _ (Blk.new w9 _ _) Ts rfl Y8 ?_;intro w10 hB10 hg10))
  go_simp
  have hb10:Below w9.heap.size w9 w10:=below_grown ((qB _ _).alloc (qC _) _) hg10 (by simp) (qC _)
  have hP10:=HP9.out.ext hb10
  clear hg10
  go_upto_region 10 with(first
   |(refine Ai rfl 53 _ rfl p 5 rfl 107 u.cells 5 _ hP10 Tryz.underlying53 rfl Au (by rw [Uop.size];decide) ?_;rw [Uop.insX])
   |(refine Ae rfl 53 _ _ rfl w10.heap.size u.ins.cells rfl rfl 53 _ (Blk.new w10 _ _) (Ll _) rfl (Qt _) ?_;intro w11 hB11 hg11;have c4:w11.cell? ⟨w10.heap.size,4,none⟩=some (.int .i32 u.ins.imm):=hB11.cell 4;have f4:=hB11.frozen 4;have z11:=hB11.lt))
  go_simp
  have hB12:Blk (w11.setCell ⟨w10.heap.size,4,none⟩ (.int .i32 0)) w10.heap.size 53 (Ins.cells ⟨u.ins.op,u.ins.rd,u.ins.rs1,u.ins.rs2,0⟩):=hB11.set 4 (.int .i32 0)
  have hb12:Below w10.heap.size w10 (w11.setCell ⟨w10.heap.size,4,none⟩ (.int .i32 0)):=Ap (qC _) (below_grown ((qB _ _).alloc (qC _) _) hg11 (by simp) (qC _))
  clear c4 f4 z11 hB11 hg11
  generalize w11.setCell ⟨w10.heap.size,4,none⟩ (.int .i32 0)=w12 at *
  have hP12:=hP10.ext hb12
  have hM12:=hB10.ext hb12
  have HB12:=qA hB12
  have HP12:=qA hP12
  have HM12:=qA hM12
  have hb912:=hb10.trans (hb12.mono hb10.size)
  have HI12:=qA (HJ8.out.1.ext hb912)
  have HT12:=qA (HJ8.out.2.trans (Ah.below (B:=B) hb912))
  have c3:w12.cell? ⟨p,3,none⟩=some (.int .u32 u.pc):=hP12.cell 3
  have z12:=hP12.lt
  clear hB12 hP12 hM12 hb912 hb12 hb10 hP10 hB10 HJ8 HP9
  refine Ad 3357 98 3455 [0,1,2,3,4,5,6,8,7,9,10,11,12] (by kernel_rfl) (by kernel_rfl) (by kernel_rfl) rfl ?_
  repeat'(first
   |refine rZ ?_
   |(refine' oR _ (by decide) (by decide) (by decide) (fun wq hwq K hK=>?_) ?_ ?_;rotate_left 1;(· have k3:=hwq.at_ z12 c3;first | ((first | (refine Dw 30 _ rfl [(1, .int .u32 u.pc)] rfl _ (Ae6 u.pc) ?_;exact hK) | (refine E3 53 _ rfl w10.heap.size rfl 53 _ _ (HB12.out.ext hwq) Tryz.underlying53 rfl (Ll _) ?_;exact hK))) | (go_wp2_with(fail);all_goals exact hK));rfl)
   |fail)
  refine oB (fun w13 hw13 K1 hK1=>?_)
  have hb13:Below w12.heap.size w12 w13:=by rw [hw13];exact(qB _ _).drew
  clear hw13
  go_wp2_with(fail)
  have hb14:=hb13.alloc hb13.size (.cells (Aq.cells ⟨List.replicate 32 0,u.pc,0,0⟩) 30)
  have hH14:=Blk.new w13 30 (Aq.cells ⟨List.replicate 32 0,u.pc,0,0⟩)
  refine hK1 _ _ hb14 ?_
  simp only [Act.put,sA,sS,sZ]
  clear hK1 K1
  refine rO ?_
  refine oS (fun w15 hw15 K1 hK1=>?_)
  replace hb14:Below w12.heap.size w12 w15:=by rw [hw15];exact hb14
  replace hH14:Blk w15 w13.heap.size 30 (Aq.cells ⟨List.replicate 32 0,u.pc,0,0⟩):=by rw [hw15];exact hH14
  clear hw15 hb13
  have hM15:=HM12.out.ext hb14
  go_wp2_with(go_at_call 35;(with_reducible refine(CD0.out w13.heap.size w9.heap.size w15 hH14 hM15).mono ?_);rintro e w16 ⟨rfl,hb16⟩)
  refine hK1 _ _ (fun _=>True) trivial ?_
  simp only [Act.put,sA,sS,sZ]
  clear hK1 K1
  refine rO ?_
  refine oS (fun w17 hw17 K1 hK1=>?_)
  have hb17:=hb14.trans (hb16.mono hb14.size)
  rw [←hw17] at hb17
  clear hw17
  have hP17:=HP12.out.ext hb17
  refine Ch 65 _ _ rfl p 16 cX.cells rfl rfl 107 u.cells hP17 (Kc _) (by rw [Uop.size,Mb];decide) (cells_one _) ?_
  intro w18 hB18 hg18
  refine hK1 undef _ (fun _=>True) trivial ?_
  simp only [Act.put,sA,sS,sZ]
  clear hK1 K1
  refine Aj ?_
  rintro w19 rfl
  go_wp2_with(fail)
  refine bodyPost_end (results_none rfl _ _ _) rfl ?_
  refine⟨rfl,(HT12.out.trans (Ah.below (B:=B) hb17)).trans (Cc hP17 hBp hg18),?_⟩
  rw [←HX0.out]
  exact(HI12.out.ext hb17).uopall hp hP17 hg18 (u':={ u with commit:=cX }) (by rw [←P0];exact hB18)
end
end Go.Proofs.YtapgojgcmlnbgaaGreatDoor
