/- Parts of a proof. -/
import Derived.Test.YtapgojgcmlnbgaaGreatDoorTZ
import Derived.Test.YtapgojgcmlnbgaaGreatDoorT02
import Derived.Handy
import Derived.WalkKit
import Derived.DeepKeys
import Derived.Test.YtapgojgcmlnbgaaGreatDoorT00
import Derived.Test.YtapgojgcmlnbgaaGreatDoorT01
set_option linter.unusedSimpArgs false
set_option linter.unusedVariables false
set_option maxRecDepth 100000
set_option maxHeartbeats 16000000
namespace Go.Proofs.YtapgojgcmlnbgaaGreatDoor
open Go.RowKit
theorem Uj (i:Ins) (h:Aq) (b o:Nat) (A:Option Addr) (cap:Nat) (m:List Int) (w:World) (hh:h.Wf) (ha0:0≤i.rs1) (ha1:i.rs1≤31) (hb0:0≤i.rs2) (hb1:i.rs2≤31) (hH:F8 w b o h) (hl:m.length≤9223372036854775807) (hb:Bytes m) (hA:Ar w w.heap.size .u8 A m) (cA:¬ (11≤i.op∧i.op≤15)) (cB:16≤i.op∧i.op≤18) :
  Calls Tryz.prog 35 #[.agg i.cells, .pointer (some ⟨b,o,none⟩), .slice A m.length cap] w fun e w'=>e = .returned (.agg (Cl i h m).cells)∧Below w.heap.size w w':=by
 generalize hX:Cl i h m=X
 have HX:=qA hX
 clear hX
 have ra:=hh.reg i.rs1
 have rb:=hh.reg i.rs2
 have cr:=hH.reg
 have cpc:=hH.pc
 have zb:=hH.lt
 have hrd:∀ k:Nat,h.reg (k:Int)=h.regs.getD k 0:=fun k=>rfl
 have CG:=qA (fun W=>Jq i W)
 have CR:=qA (fun W=>Mq i h.pc (h.reg i.rs1) (h.reg i.rs2) W ra.1 ra.2 rb.1 rb.2)
 obtain⟨op,rd,rs1,rs2,imm⟩:=i
 dsimp only at *
 obtain⟨r1,rfl⟩:=qH ha0
 obtain⟨r2,rfl⟩:=qH hb0
 have c1:=cr r1 (by omega)
 have c2:=cr r2 (by omega)
 have c17:=cr 17 (by omega)
 have c10:=cr 10 (by omega)
 have h17:=hrd 17
 have h10:=hrd 10
 rw [←hrd] at c1 c2 c17 c10
 clear cr hrd
 go_enter Tryz.func35,Tryz.ntmps35
 go_upto_region 1 with(fail)
 go_simp
 refine A1 fun wa hq=>?_
 have hB:Blk wa w.heap.size 53 #[.int .i64 op, .int .i64 rd, .int .i64 r1, .int .i64 r2, .int .i32 imm]:=by rw [hq];exact(Blk.new w _ _).alloc _
 have hR:Blk wa (w.heap.size+1) 65 #[.int .u32 0, .int .u32 0, .int .i64 0, .int .i64 0, .int .i64 0, .int .u32 0, .int .u32 0, .int .i64 0, .int .u32 0, .bool false, .int .u32 0]:=by rw [hq];exact Blk.newAt (w.alloc _) 65 _ (by simp)
 have hbl:Below w.heap.size w wa:=by rw [hq];exact((qB _ _).alloc (qC _) _).alloc (by simp) _
 clear hq
 have zB:=hB.lt
 have zR:=hR.lt
 have hHa:=hH.ext hbl
 refine Aw (by kernel_rfl) (by kernel_rfl) ?_
 repeat'(first
  |refine Bt rfl ?_
  |(refine' Bh _ (fun wq hwq K hK=>?_) ?_ ?_;rotate_left 1;(· have e1:=(hbl.trans (hwq.mono hbl.size)).cell (p:=⟨b,o+r1,none⟩) zb;rw [c1] at e1;have e2:=(hbl.trans (hwq.mono hbl.size)).cell (p:=⟨b,o+r2,none⟩) zb;rw [c2] at e2;have d2:=(hB.ext hwq).cell 2;have d3:=(hB.ext hwq).cell 3;go_wp2_with(fail);all_goals exact hK _ hwq);rfl)
  |((first | refine Bj rfl rfl rfl ?_ ?_ | refine Bi rfl rfl rfl ?_ ?_)<;>intro hc<;>first | (cases hc;done) | ((try cases hc);simp only [Act.put,sA,sS,sZ]))
  |refine Bl rfl rfl rfl ?_)
 refine Ck ?_
 intro w4 hw4
 replace hbl:=hbl.trans (hw4.mono hbl.size)
 replace hB:=hB.ext hw4
 replace hR:=hR.ext hw4
 have hpcq:w4.cell? ⟨b,o+32,none⟩=some (.int .u32 h.pc):=(hbl.cell (p:=⟨b,o+32,none⟩) zb).trans cpc
 have built_c:Tryz.prog.built 65 [(0, .int .u32 h.pc),(1, .int .u32 ((h.pc+4)%4294967296))]=some #[.int .u32 h.pc, .int .u32 ((h.pc+4)%4294967296), .int .i64 0, .int .i64 0, .int .i64 0, .int .u32 0, .int .u32 0, .int .i64 0, .int .u32 0, .bool false, .int .u32 0]:=by kernel_rfl
 clear hw4 zB zR hHa
 have zb4:=qE zb hbl.size
 go_upto_region 2 with(fail)
 try go_simp
 refine Ad 375 648 1023 [0,1,2,3,4,5,6,7,8,9,10,11] (by kernel_rfl) (by kernel_rfl) (by kernel_rfl) rfl ?_
 refine rR (fun wq hwq=>hwq.at_ zb4 hpcq) ?_
 refine oB (fun w1 hw1 K hK=>?_)
 have hbw:Below w4.heap.size w4 w1:=by rw [hw1];exact(qB _ _).drew
 clear hw1
 replace hbl:=hbl.trans (hbw.mono hbl.size)
 replace hB:=hB.ext hbw
 replace hR:=hR.ext hbw
 clear hpcq
 go_wp2_with(fail)
 refine hK _ _ (hbw.alloc hbw.size _) ?_
 simp only [Act.put,sA,sS,sZ]
 clear hK K
 refine oQ rfl rfl ?_
 refine oS (fun wx hwx K hK=>?_)
 subst hwx
 have hgt:w.heap.size+1<w1.heap.size:=hR.lt
 have hC:=Blk.new w1 65 #[.int .u32 0, .int .u32 0, .int .i64 0, .int .i64 0, .int .i64 0, .int .u32 0, .int .u32 0, .int .i64 0, .int .u32 0, .bool false, .int .u32 0]
 replace hB:=hB.alloc (.cells #[.int .u32 0, .int .u32 0, .int .i64 0, .int .i64 0, .int .i64 0, .int .u32 0, .int .u32 0, .int .i64 0, .int .u32 0, .bool false, .int .u32 0] 65)
 replace hR:=hR.alloc (.cells #[.int .u32 0, .int .u32 0, .int .i64 0, .int .i64 0, .int .i64 0, .int .u32 0, .int .u32 0, .int .i64 0, .int .u32 0, .bool false, .int .u32 0] 65)
 have hs1:=hbl.size
 replace hbl:=hbl.alloc hbl.size (.cells #[.int .u32 0, .int .u32 0, .int .i64 0, .int .i64 0, .int .i64 0, .int .u32 0, .int .u32 0, .int .i64 0, .int .u32 0, .bool false, .int .u32 0] 65)
 refine De 65 _ _ rfl w1.heap.size #[.int .u32 h.pc, .int .u32 ((h.pc+4)%4294967296), .int .i64 0, .int .i64 0, .int .i64 0, .int .u32 0, .int .u32 0, .int .i64 0, .int .u32 0, .bool false, .int .u32 0] rfl rfl 65 _ hC Ao rfl Dl ?_
 intro w5 hB5 hg5
 have hB1:=hB.grown hg5 (by simp;omega)
 have hR1:=hR.grown hg5 (by simp;omega)
 have hb1:=below_grown hbl hg5 hbl.size hs1
 refine hK _ _ (fun _=>True) trivial ?_
 simp only [Act.put,sA,sS,sZ]
 clear hK K hB hR hbl hs1 hC hg5 zb4 hbw built_c
 refine Aj ?_
 rintro w6 rfl
 have hH6:=hH.ext hb1
 have hA6:Ar w6 w6.heap.size .u8 A m:=(hA.below hb1).mono hb1.size
 generalize w1.heap.size=g at *
 clear cpc c1 c2 c17 c10 hH hA
 have d0:=hB1.cell 0
 have d4:=hB1.cell 4
 have hat:u32 (h.reg r1+imm)=(h.reg r1+imm)%4294967296:=rfl
 obtain⟨at',hat'⟩:∃ x,x=(h.reg r1+imm)%4294967296:=⟨_,rfl⟩
 have at0:0≤at':=by omega
 have at1:at'≤4294967295:=by omega
 have Hat:=qA hat'
 obtain rfl | rfl | rfl:op=16∨op=17∨op=18:=by omega
 ·clear cB
  have CB:Hid (∀ W,Calls Tryz.prog 53 #[.int .i64 16] W fun e w'=>e = .returned (.int .i64 1)∧W=w'):=qA (fun W=>Rs 16 W (by decide))
  have CT:=qA (fun W=>Dv A m.length cap at' 1 W at0 at1 (by decide) (by decide) hl)
  have CW:=qA (fun W=>Y7 (h.reg r2) 1 W (by decide) rb.1 rb.2)
  have HX2:Hid (X=if Cu m.length at' 1=true then (⟨h.pc,u32 (h.pc+4),0,0,0,0,at',1,R8 (h.reg r2) 1,false,0⟩:Com) else By h.pc 4):=by
   refine qA ?_
   rw [←HX.out,hat']
   rfl
  have hg0:Bg ⟨16,rd,r1,r2,imm⟩=false:=by simp [Bg]
  rw [hg0] at CG
  clear HX cA hg0
  generalize Cu m.length at' 1=ok at *
  generalize R8 (h.reg r2) 1=lw at *
  subst hat'
  rcases ok with _ | _
  ·obtain rfl:X=By h.pc 4:=HX2.out
   clear HX2 CG CR
   go_wp2_with(first
    |(go_at_call 52;(with_reducible refine(CL.out _ hA6).mono ?_);rintro e w2 ⟨rfl,rfl⟩)
    |(go_at_call 53;(with_reducible refine(CB.out _).mono ?_);rintro e w2 ⟨rfl,rfl⟩)
    |(go_at_call 54;(with_reducible refine(CT.out _).mono ?_);rintro e w2 ⟨rfl,rfl⟩)
    |(refine Ab rfl 65 _ rfl g rfl 65 _ _ hB5 Tryz.underlying65 rfl Ao ?_)
    |(go_at_call 34;(with_reducible refine(Kb ⟨h.pc,(h.pc+4)%4294967296,0,0,0,0,0,0,0,false,0⟩ 4 _).mono ?_);rintro e w7 ⟨rfl,hb7⟩;replace hR1:=hR1.ext hb7;replace hb1:=hb1.trans (hb7.mono hb1.size))
    |(refine Ae rfl 65 _ _ rfl (w.heap.size+1) (By h.pc 4).cells rfl rfl 65 _ hR1 Ao rfl Dl ?_;intro w8 hB8 hg8))
   exact bodyPost_ret (v := .agg (By h.pc 4).cells) (Bo rfl _ _ (w.heap.size+1) 65 _ _ rfl hB8 Tryz.underlying65 rfl Ao) rfl ⟨rfl,below_grown hb1 hg8 hb1.size (Nat.le_succ _)⟩
  ·obtain rfl:X=(⟨h.pc,u32 (h.pc+4),0,0,0,0,(h.reg r1+imm)%4294967296,1,lw,false,0⟩:Com):=HX2.out
   clear HX2 CR
   have c6:=hB5.cell 6
   have f6:=hB5.frozen 6
   have c7:=hB5.cell 7
   have f7:=hB5.frozen 7
   have c8:=hB5.cell 8
   have f8:=hB5.frozen 8
   go_upto_region 26 with(first
    |(go_at_call 53;(with_reducible refine(CB.out _).mono ?_);rintro e w2 ⟨rfl,rfl⟩)
    |(go_at_call 54;(with_reducible refine(CT.out _).mono ?_);rintro e w2 ⟨rfl,rfl⟩)
    |(go_at_call 55;(with_reducible refine(CW.out _).mono ?_);rintro e w2 ⟨rfl,rfl⟩))
   try go_simp
   refine R6 fun wa hq=>?_
   have hC:Blk wa g 65 #[.int .u32 h.pc, .int .u32 ((h.pc+4)%4294967296), .int .i64 0, .int .i64 0, .int .i64 0, .int .u32 0, .int .u32 ((h.reg r1+imm)%4294967296), .int .i64 1, .int .u32 lw, .bool false, .int .u32 0]:=by rw [hq];exact((hB5.set 6 _).set 7 _).set 8 _
   have hBw:Blk wa w.heap.size 53 #[.int .i64 16, .int .i64 rd, .int .i64 r1, .int .i64 r2, .int .i32 imm]:=by rw [hq];exact((hB1.farAt (by omega) _).farAt (by omega) _).farAt (by omega) _
   have hRw:Blk wa (w.heap.size+1) 65 #[.int .u32 0, .int .u32 0, .int .i64 0, .int .i64 0, .int .i64 0, .int .u32 0, .int .u32 0, .int .i64 0, .int .u32 0, .bool false, .int .u32 0]:=by rw [hq];exact((hR1.farAt (by omega) _).farAt (by omega) _).farAt (by omega) _
   have hbl:Below w.heap.size w wa:=by rw [hq];exact Ap (by omega) (Ap (by omega) (Ap (by omega) hb1))
   clear hq c6 f6 c7 f7 c8 f8 hB5 hB1 hR1 hb1 hH6 hA6 CB CT CW
   go_upto_region 28 with(first
    |(refine Ab rfl 53 _ rfl w.heap.size rfl 53 _ _ hBw Tryz.underlying53 rfl Cs ?_)
    |(go_at_call 57;(with_reducible refine(CG.out _).mono ?_);rintro e w7 ⟨rfl,hb7⟩;replace hC:=hC.ext hb7;replace hRw:=hRw.ext hb7;replace hBw:=hBw.ext hb7;replace hbl:=hbl.trans (hb7.mono hbl.size)))
   try go_simp
   have f5:=hC.frozen 5
   have c5:=hC.cell 5
   replace hRw:=hRw.farAt (b:=g) (off:=5) (Nat.ne_of_lt hgt) (.int .u32 0)
   replace hbl:=Ap (off:=5) (u := .int .u32 0) (qD (Nat.le_succ _) (qS hgt)) hbl
   replace hC:=hC.set 5 (.int .u32 0)
   go_wp2_with(first
    |(refine Ab rfl 65 _ rfl g rfl 65 _ _ hC Tryz.underlying65 rfl Ao ?_)
    |(refine Ae rfl 65 _ _ rfl (w.heap.size+1) (Com.mk h.pc (u32 (h.pc+4)) 0 0 0 0 ((h.reg r1+imm)%4294967296) 1 lw false 0).cells rfl rfl 65 _ hRw Ao rfl Dl ?_;intro w8 hB8 hg8))
   exact bodyPost_ret (v := .agg (Com.mk h.pc (u32 (h.pc+4)) 0 0 0 0 ((h.reg r1+imm)%4294967296) 1 lw false 0).cells) (Bo rfl _ _ (w.heap.size+1) 65 _ _ rfl hB8 Tryz.underlying65 rfl Ao) rfl ⟨rfl,below_grown hbl hg8 hbl.size (Nat.le_succ _)⟩
 ·clear cB
  have CB:Hid (∀ W,Calls Tryz.prog 53 #[.int .i64 17] W fun e w'=>e = .returned (.int .i64 2)∧W=w'):=qA (fun W=>Rs 17 W (by decide))
  have CT:=qA (fun W=>Dv A m.length cap at' 2 W at0 at1 (by decide) (by decide) hl)
  have CW:=qA (fun W=>Y7 (h.reg r2) 2 W (by decide) rb.1 rb.2)
  have HX2:Hid (X=if Cu m.length at' 2=true then (⟨h.pc,u32 (h.pc+4),0,0,0,0,at',2,R8 (h.reg r2) 2,false,0⟩:Com) else By h.pc 4):=by
   refine qA ?_
   rw [←HX.out,hat']
   rfl
  have hg0:Bg ⟨17,rd,r1,r2,imm⟩=false:=by simp [Bg]
  rw [hg0] at CG
  clear HX cA hg0
  generalize Cu m.length at' 2=ok at *
  generalize R8 (h.reg r2) 2=lw at *
  subst hat'
  rcases ok with _ | _
  ·obtain rfl:X=By h.pc 4:=HX2.out
   clear HX2 CG CR
   go_wp2_with(first
    |(go_at_call 52;(with_reducible refine(CL.out _ hA6).mono ?_);rintro e w2 ⟨rfl,rfl⟩)
    |(go_at_call 53;(with_reducible refine(CB.out _).mono ?_);rintro e w2 ⟨rfl,rfl⟩)
    |(go_at_call 54;(with_reducible refine(CT.out _).mono ?_);rintro e w2 ⟨rfl,rfl⟩)
    |(refine Ab rfl 65 _ rfl g rfl 65 _ _ hB5 Tryz.underlying65 rfl Ao ?_)
    |(go_at_call 34;(with_reducible refine(Kb ⟨h.pc,(h.pc+4)%4294967296,0,0,0,0,0,0,0,false,0⟩ 4 _).mono ?_);rintro e w7 ⟨rfl,hb7⟩;replace hR1:=hR1.ext hb7;replace hb1:=hb1.trans (hb7.mono hb1.size))
    |(refine Ae rfl 65 _ _ rfl (w.heap.size+1) (By h.pc 4).cells rfl rfl 65 _ hR1 Ao rfl Dl ?_;intro w8 hB8 hg8))
   exact bodyPost_ret (v := .agg (By h.pc 4).cells) (Bo rfl _ _ (w.heap.size+1) 65 _ _ rfl hB8 Tryz.underlying65 rfl Ao) rfl ⟨rfl,below_grown hb1 hg8 hb1.size (Nat.le_succ _)⟩
  ·obtain rfl:X=(⟨h.pc,u32 (h.pc+4),0,0,0,0,(h.reg r1+imm)%4294967296,2,lw,false,0⟩:Com):=HX2.out
   clear HX2 CR
   have c6:=hB5.cell 6
   have f6:=hB5.frozen 6
   have c7:=hB5.cell 7
   have f7:=hB5.frozen 7
   have c8:=hB5.cell 8
   have f8:=hB5.frozen 8
   go_upto_region 26 with(first
    |(go_at_call 53;(with_reducible refine(CB.out _).mono ?_);rintro e w2 ⟨rfl,rfl⟩)
    |(go_at_call 54;(with_reducible refine(CT.out _).mono ?_);rintro e w2 ⟨rfl,rfl⟩)
    |(go_at_call 55;(with_reducible refine(CW.out _).mono ?_);rintro e w2 ⟨rfl,rfl⟩))
   try go_simp
   refine R6 fun wa hq=>?_
   have hC:Blk wa g 65 #[.int .u32 h.pc, .int .u32 ((h.pc+4)%4294967296), .int .i64 0, .int .i64 0, .int .i64 0, .int .u32 0, .int .u32 ((h.reg r1+imm)%4294967296), .int .i64 2, .int .u32 lw, .bool false, .int .u32 0]:=by rw [hq];exact((hB5.set 6 _).set 7 _).set 8 _
   have hBw:Blk wa w.heap.size 53 #[.int .i64 17, .int .i64 rd, .int .i64 r1, .int .i64 r2, .int .i32 imm]:=by rw [hq];exact((hB1.farAt (by omega) _).farAt (by omega) _).farAt (by omega) _
   have hRw:Blk wa (w.heap.size+1) 65 #[.int .u32 0, .int .u32 0, .int .i64 0, .int .i64 0, .int .i64 0, .int .u32 0, .int .u32 0, .int .i64 0, .int .u32 0, .bool false, .int .u32 0]:=by rw [hq];exact((hR1.farAt (by omega) _).farAt (by omega) _).farAt (by omega) _
   have hbl:Below w.heap.size w wa:=by rw [hq];exact Ap (by omega) (Ap (by omega) (Ap (by omega) hb1))
   clear hq c6 f6 c7 f7 c8 f8 hB5 hB1 hR1 hb1 hH6 hA6 CB CT CW
   go_upto_region 28 with(first
    |(refine Ab rfl 53 _ rfl w.heap.size rfl 53 _ _ hBw Tryz.underlying53 rfl Cs ?_)
    |(go_at_call 57;(with_reducible refine(CG.out _).mono ?_);rintro e w7 ⟨rfl,hb7⟩;replace hC:=hC.ext hb7;replace hRw:=hRw.ext hb7;replace hBw:=hBw.ext hb7;replace hbl:=hbl.trans (hb7.mono hbl.size)))
   try go_simp
   have f5:=hC.frozen 5
   have c5:=hC.cell 5
   replace hRw:=hRw.farAt (b:=g) (off:=5) (Nat.ne_of_lt hgt) (.int .u32 0)
   replace hbl:=Ap (off:=5) (u := .int .u32 0) (qD (Nat.le_succ _) (qS hgt)) hbl
   replace hC:=hC.set 5 (.int .u32 0)
   go_wp2_with(first
    |(refine Ab rfl 65 _ rfl g rfl 65 _ _ hC Tryz.underlying65 rfl Ao ?_)
    |(refine Ae rfl 65 _ _ rfl (w.heap.size+1) (Com.mk h.pc (u32 (h.pc+4)) 0 0 0 0 ((h.reg r1+imm)%4294967296) 2 lw false 0).cells rfl rfl 65 _ hRw Ao rfl Dl ?_;intro w8 hB8 hg8))
   exact bodyPost_ret (v := .agg (Com.mk h.pc (u32 (h.pc+4)) 0 0 0 0 ((h.reg r1+imm)%4294967296) 2 lw false 0).cells) (Bo rfl _ _ (w.heap.size+1) 65 _ _ rfl hB8 Tryz.underlying65 rfl Ao) rfl ⟨rfl,below_grown hbl hg8 hbl.size (Nat.le_succ _)⟩
 ·clear cB
  have CB:Hid (∀ W,Calls Tryz.prog 53 #[.int .i64 18] W fun e w'=>e = .returned (.int .i64 4)∧W=w'):=qA (fun W=>Rs 18 W (by decide))
  have CT:=qA (fun W=>Dv A m.length cap at' 4 W at0 at1 (by decide) (by decide) hl)
  have CW:=qA (fun W=>Y7 (h.reg r2) 4 W (by decide) rb.1 rb.2)
  have HX2:Hid (X=if Cu m.length at' 4=true then (⟨h.pc,u32 (h.pc+4),0,0,0,0,at',4,R8 (h.reg r2) 4,false,0⟩:Com) else By h.pc 4):=by
   refine qA ?_
   rw [←HX.out,hat']
   rfl
  have hg0:Bg ⟨18,rd,r1,r2,imm⟩=false:=by simp [Bg]
  rw [hg0] at CG
  clear HX cA hg0
  generalize Cu m.length at' 4=ok at *
  generalize R8 (h.reg r2) 4=lw at *
  subst hat'
  rcases ok with _ | _
  ·obtain rfl:X=By h.pc 4:=HX2.out
   clear HX2 CG CR
   go_wp2_with(first
    |(go_at_call 52;(with_reducible refine(CL.out _ hA6).mono ?_);rintro e w2 ⟨rfl,rfl⟩)
    |(go_at_call 53;(with_reducible refine(CB.out _).mono ?_);rintro e w2 ⟨rfl,rfl⟩)
    |(go_at_call 54;(with_reducible refine(CT.out _).mono ?_);rintro e w2 ⟨rfl,rfl⟩)
    |(refine Ab rfl 65 _ rfl g rfl 65 _ _ hB5 Tryz.underlying65 rfl Ao ?_)
    |(go_at_call 34;(with_reducible refine(Kb ⟨h.pc,(h.pc+4)%4294967296,0,0,0,0,0,0,0,false,0⟩ 4 _).mono ?_);rintro e w7 ⟨rfl,hb7⟩;replace hR1:=hR1.ext hb7;replace hb1:=hb1.trans (hb7.mono hb1.size))
    |(refine Ae rfl 65 _ _ rfl (w.heap.size+1) (By h.pc 4).cells rfl rfl 65 _ hR1 Ao rfl Dl ?_;intro w8 hB8 hg8))
   exact bodyPost_ret (v := .agg (By h.pc 4).cells) (Bo rfl _ _ (w.heap.size+1) 65 _ _ rfl hB8 Tryz.underlying65 rfl Ao) rfl ⟨rfl,below_grown hb1 hg8 hb1.size (Nat.le_succ _)⟩
  ·obtain rfl:X=(⟨h.pc,u32 (h.pc+4),0,0,0,0,(h.reg r1+imm)%4294967296,4,lw,false,0⟩:Com):=HX2.out
   clear HX2 CR
   have c6:=hB5.cell 6
   have f6:=hB5.frozen 6
   have c7:=hB5.cell 7
   have f7:=hB5.frozen 7
   have c8:=hB5.cell 8
   have f8:=hB5.frozen 8
   go_upto_region 26 with(first
    |(go_at_call 53;(with_reducible refine(CB.out _).mono ?_);rintro e w2 ⟨rfl,rfl⟩)
    |(go_at_call 54;(with_reducible refine(CT.out _).mono ?_);rintro e w2 ⟨rfl,rfl⟩)
    |(go_at_call 55;(with_reducible refine(CW.out _).mono ?_);rintro e w2 ⟨rfl,rfl⟩))
   try go_simp
   refine R6 fun wa hq=>?_
   have hC:Blk wa g 65 #[.int .u32 h.pc, .int .u32 ((h.pc+4)%4294967296), .int .i64 0, .int .i64 0, .int .i64 0, .int .u32 0, .int .u32 ((h.reg r1+imm)%4294967296), .int .i64 4, .int .u32 lw, .bool false, .int .u32 0]:=by rw [hq];exact((hB5.set 6 _).set 7 _).set 8 _
   have hBw:Blk wa w.heap.size 53 #[.int .i64 18, .int .i64 rd, .int .i64 r1, .int .i64 r2, .int .i32 imm]:=by rw [hq];exact((hB1.farAt (by omega) _).farAt (by omega) _).farAt (by omega) _
   have hRw:Blk wa (w.heap.size+1) 65 #[.int .u32 0, .int .u32 0, .int .i64 0, .int .i64 0, .int .i64 0, .int .u32 0, .int .u32 0, .int .i64 0, .int .u32 0, .bool false, .int .u32 0]:=by rw [hq];exact((hR1.farAt (by omega) _).farAt (by omega) _).farAt (by omega) _
   have hbl:Below w.heap.size w wa:=by rw [hq];exact Ap (by omega) (Ap (by omega) (Ap (by omega) hb1))
   clear hq c6 f6 c7 f7 c8 f8 hB5 hB1 hR1 hb1 hH6 hA6 CB CT CW
   go_upto_region 28 with(first
    |(refine Ab rfl 53 _ rfl w.heap.size rfl 53 _ _ hBw Tryz.underlying53 rfl Cs ?_)
    |(go_at_call 57;(with_reducible refine(CG.out _).mono ?_);rintro e w7 ⟨rfl,hb7⟩;replace hC:=hC.ext hb7;replace hRw:=hRw.ext hb7;replace hBw:=hBw.ext hb7;replace hbl:=hbl.trans (hb7.mono hbl.size)))
   try go_simp
   have f5:=hC.frozen 5
   have c5:=hC.cell 5
   replace hRw:=hRw.farAt (b:=g) (off:=5) (Nat.ne_of_lt hgt) (.int .u32 0)
   replace hbl:=Ap (off:=5) (u := .int .u32 0) (qD (Nat.le_succ _) (qS hgt)) hbl
   replace hC:=hC.set 5 (.int .u32 0)
   go_wp2_with(first
    |(refine Ab rfl 65 _ rfl g rfl 65 _ _ hC Tryz.underlying65 rfl Ao ?_)
    |(refine Ae rfl 65 _ _ rfl (w.heap.size+1) (Com.mk h.pc (u32 (h.pc+4)) 0 0 0 0 ((h.reg r1+imm)%4294967296) 4 lw false 0).cells rfl rfl 65 _ hRw Ao rfl Dl ?_;intro w8 hB8 hg8))
   exact bodyPost_ret (v := .agg (Com.mk h.pc (u32 (h.pc+4)) 0 0 0 0 ((h.reg r1+imm)%4294967296) 4 lw false 0).cells) (Bo rfl _ _ (w.heap.size+1) 65 _ _ rfl hB8 Tryz.underlying65 rfl Ao) rfl ⟨rfl,below_grown hbl hg8 hbl.size (Nat.le_succ _)⟩
theorem Aai (i:Ins) (h:Aq) (b o:Nat) (A:Option Addr) (cap:Nat) (m:List Int) (w:World) (hh:h.Wf) (ha0:0≤i.rs1) (ha1:i.rs1≤31) (hb0:0≤i.rs2) (hb1:i.rs2≤31) (hH:F8 w b o h) (hl:m.length≤9223372036854775807) (hb:Bytes m) (hA:Ar w w.heap.size .u8 A m) (cA:¬ (11≤i.op∧i.op≤15)) (cB:¬ (16≤i.op∧i.op≤18)) (cS:i.op=48∨i.op=47∨i.op=46) :
  Calls Tryz.prog 35 #[.agg i.cells, .pointer (some ⟨b,o,none⟩), .slice A m.length cap] w fun e w'=>e = .returned (.agg (Cl i h m).cells)∧Below w.heap.size w w':=by
 generalize hX:Cl i h m=X
 have HX:=qA hX
 clear hX
 have ra:=hh.reg i.rs1
 have rb:=hh.reg i.rs2
 have cr:=hH.reg
 have cpc:=hH.pc
 have zb:=hH.lt
 have hrd:∀ k:Nat,h.reg (k:Int)=h.regs.getD k 0:=fun k=>rfl
 have CG:=qA (fun W=>Jq i W)
 have CR:=qA (fun W=>Mq i h.pc (h.reg i.rs1) (h.reg i.rs2) W ra.1 ra.2 rb.1 rb.2)
 obtain⟨op,rd,rs1,rs2,imm⟩:=i
 dsimp only at *
 obtain⟨r1,rfl⟩:=qH ha0
 obtain⟨r2,rfl⟩:=qH hb0
 have c1:=cr r1 (by omega)
 have c2:=cr r2 (by omega)
 have c17:=cr 17 (by omega)
 have c10:=cr 10 (by omega)
 have h17:=hrd 17
 have h10:=hrd 10
 rw [←hrd] at c1 c2 c17 c10
 clear cr hrd
 go_enter Tryz.func35,Tryz.ntmps35
 go_upto_region 1 with(fail)
 go_simp
 refine A1 fun wa hq=>?_
 have hB:Blk wa w.heap.size 53 #[.int .i64 op, .int .i64 rd, .int .i64 r1, .int .i64 r2, .int .i32 imm]:=by rw [hq];exact(Blk.new w _ _).alloc _
 have hR:Blk wa (w.heap.size+1) 65 #[.int .u32 0, .int .u32 0, .int .i64 0, .int .i64 0, .int .i64 0, .int .u32 0, .int .u32 0, .int .i64 0, .int .u32 0, .bool false, .int .u32 0]:=by rw [hq];exact Blk.newAt (w.alloc _) 65 _ (by simp)
 have hbl:Below w.heap.size w wa:=by rw [hq];exact((qB _ _).alloc (qC _) _).alloc (by simp) _
 clear hq
 have zB:=hB.lt
 have zR:=hR.lt
 have hHa:=hH.ext hbl
 refine Aw (by kernel_rfl) (by kernel_rfl) ?_
 repeat'(first
  |refine Bt rfl ?_
  |(refine' Bh _ (fun wq hwq K hK=>?_) ?_ ?_;rotate_left 1;(· have e1:=(hbl.trans (hwq.mono hbl.size)).cell (p:=⟨b,o+r1,none⟩) zb;rw [c1] at e1;have e2:=(hbl.trans (hwq.mono hbl.size)).cell (p:=⟨b,o+r2,none⟩) zb;rw [c2] at e2;have d2:=(hB.ext hwq).cell 2;have d3:=(hB.ext hwq).cell 3;go_wp2_with(fail);all_goals exact hK _ hwq);rfl)
  |((first | refine Bj rfl rfl rfl ?_ ?_ | refine Bi rfl rfl rfl ?_ ?_)<;>intro hc<;>first | (cases hc;done) | ((try cases hc);simp only [Act.put,sA,sS,sZ]))
  |refine Bl rfl rfl rfl ?_)
 refine Ck ?_
 intro w4 hw4
 replace hbl:=hbl.trans (hw4.mono hbl.size)
 replace hB:=hB.ext hw4
 replace hR:=hR.ext hw4
 have hpcq:w4.cell? ⟨b,o+32,none⟩=some (.int .u32 h.pc):=(hbl.cell (p:=⟨b,o+32,none⟩) zb).trans cpc
 have built_c:Tryz.prog.built 65 [(0, .int .u32 h.pc),(1, .int .u32 ((h.pc+4)%4294967296))]=some #[.int .u32 h.pc, .int .u32 ((h.pc+4)%4294967296), .int .i64 0, .int .i64 0, .int .i64 0, .int .u32 0, .int .u32 0, .int .i64 0, .int .u32 0, .bool false, .int .u32 0]:=by kernel_rfl
 clear hw4 zB zR hHa
 have zb4:=qE zb hbl.size
 go_upto_region 2 with(fail)
 try go_simp
 refine Ad 375 648 1023 [0,1,2,3,4,5,6,7,8,9,10,11] (by kernel_rfl) (by kernel_rfl) (by kernel_rfl) rfl ?_
 refine rR (fun wq hwq=>hwq.at_ zb4 hpcq) ?_
 refine oB (fun w1 hw1 K hK=>?_)
 have hbw:Below w4.heap.size w4 w1:=by rw [hw1];exact(qB _ _).drew
 clear hw1
 replace hbl:=hbl.trans (hbw.mono hbl.size)
 replace hB:=hB.ext hbw
 replace hR:=hR.ext hbw
 clear hpcq
 go_wp2_with(fail)
 refine hK _ _ (hbw.alloc hbw.size _) ?_
 simp only [Act.put,sA,sS,sZ]
 clear hK K
 refine oQ rfl rfl ?_
 refine oS (fun wx hwx K hK=>?_)
 subst hwx
 have hgt:w.heap.size+1<w1.heap.size:=hR.lt
 have hC:=Blk.new w1 65 #[.int .u32 0, .int .u32 0, .int .i64 0, .int .i64 0, .int .i64 0, .int .u32 0, .int .u32 0, .int .i64 0, .int .u32 0, .bool false, .int .u32 0]
 replace hB:=hB.alloc (.cells #[.int .u32 0, .int .u32 0, .int .i64 0, .int .i64 0, .int .i64 0, .int .u32 0, .int .u32 0, .int .i64 0, .int .u32 0, .bool false, .int .u32 0] 65)
 replace hR:=hR.alloc (.cells #[.int .u32 0, .int .u32 0, .int .i64 0, .int .i64 0, .int .i64 0, .int .u32 0, .int .u32 0, .int .i64 0, .int .u32 0, .bool false, .int .u32 0] 65)
 have hs1:=hbl.size
 replace hbl:=hbl.alloc hbl.size (.cells #[.int .u32 0, .int .u32 0, .int .i64 0, .int .i64 0, .int .i64 0, .int .u32 0, .int .u32 0, .int .i64 0, .int .u32 0, .bool false, .int .u32 0] 65)
 refine De 65 _ _ rfl w1.heap.size #[.int .u32 h.pc, .int .u32 ((h.pc+4)%4294967296), .int .i64 0, .int .i64 0, .int .i64 0, .int .u32 0, .int .u32 0, .int .i64 0, .int .u32 0, .bool false, .int .u32 0] rfl rfl 65 _ hC Ao rfl Dl ?_
 intro w5 hB5 hg5
 have hB1:=hB.grown hg5 (by simp;omega)
 have hR1:=hR.grown hg5 (by simp;omega)
 have hb1:=below_grown hbl hg5 hbl.size hs1
 refine hK _ _ (fun _=>True) trivial ?_
 simp only [Act.put,sA,sS,sZ]
 clear hK K hB hR hbl hs1 hC hg5 zb4 hbw built_c
 refine Aj ?_
 rintro w6 rfl
 have hH6:=hH.ext hb1
 have hA6:Ar w6 w6.heap.size .u8 A m:=(hA.below hb1).mono hb1.size
 generalize w1.heap.size=g at *
 clear cpc c1 c2 c17 c10 hH hA
 have d0:=hB1.cell 0
 have d4:=hB1.cell 4
 have hat:u32 (h.reg r1+imm)=(h.reg r1+imm)%4294967296:=rfl
 obtain⟨at',hat'⟩:∃ x,x=(h.reg r1+imm)%4294967296:=⟨_,rfl⟩
 have at0:0≤at':=by omega
 have at1:at'≤4294967295:=by omega
 have Hat:=qA hat'
 by_cases c48:op=48
 ·subst c48
  clear cS
  obtain rfl:X=By h.pc 6:=HX.out.symm
  clear HX CG CR cA cB
  go_wp2_with(first
   |(go_at_call 52;(with_reducible refine(CL.out _ hA6).mono ?_);rintro e w2 ⟨rfl,rfl⟩)
   |(go_at_call 53;(with_reducible refine(CB.out _).mono ?_);rintro e w2 ⟨rfl,rfl⟩)
   |(go_at_call 54;(with_reducible refine(CT.out _).mono ?_);rintro e w2 ⟨rfl,rfl⟩)
   |(refine Ab rfl 65 _ rfl g rfl 65 _ _ hB5 Tryz.underlying65 rfl Ao ?_)
   |(go_at_call 34;(with_reducible refine(Kb ⟨h.pc,(h.pc+4)%4294967296,0,0,0,0,0,0,0,false,0⟩ 6 _).mono ?_);rintro e w7 ⟨rfl,hb7⟩;replace hR1:=hR1.ext hb7;replace hb1:=hb1.trans (hb7.mono hb1.size))
   |(refine Ae rfl 65 _ _ rfl (w.heap.size+1) (By h.pc 6).cells rfl rfl 65 _ hR1 Ao rfl Dl ?_;intro w8 hB8 hg8))
  exact bodyPost_ret (v := .agg (By h.pc 6).cells) (Bo rfl _ _ (w.heap.size+1) 65 _ _ rfl hB8 Tryz.underlying65 rfl Ao) rfl ⟨rfl,below_grown hb1 hg8 hb1.size (Nat.le_succ _)⟩
 by_cases c47:op=47
 ·subst c47
  clear cS
  have HX2:Hid (X=if h.reg 17=0 then (⟨h.pc,h.pc,1,0,0,0,0,0,0,false,0⟩:Com) else if h.reg 17=1 then ⟨h.pc,u32 (h.pc+4),0,0,0,0,0,0,0,true,h.reg 10⟩ else By h.pc 5):=qA HX.out.symm
  have e17:w6.cell? ⟨b,o+17,none⟩=some (.int .u32 (h.reg 17)):=hH6.reg 17 (by omega)
  have e10:w6.cell? ⟨b,o+10,none⟩=some (.int .u32 (h.reg 10)):=hH6.reg 10 (by omega)
  have zb6:=hH6.lt
  have hg0:Bg ⟨47,rd,r1,r2,imm⟩=false:=by simp [Bg]
  rw [hg0] at CG
  clear HX cA cB c48 hg0 CR h17 h10 hH6 hat hat' Hat at0 at1
  generalize h.reg 17=a7 at *
  generalize h.reg 10=a0 at *
  by_cases u0:a7=0
  ·subst u0
   obtain rfl:X=(⟨h.pc,h.pc,1,0,0,0,0,0,0,false,0⟩:Com):=HX2.out
   clear HX2
   have c0:=hB5.cell 0
   have c1:=hB5.cell 1
   have c2:=hB5.cell 2
   have f1:=hB5.frozen 1
   have f2:=hB5.frozen 2
   go_upto_region 26 with(fail)
   try go_simp
   refine R6 fun wa hq=>?_
   have hC:Blk wa g 65 #[.int .u32 h.pc, .int .u32 h.pc, .int .i64 1, .int .i64 0, .int .i64 0, .int .u32 0, .int .u32 0, .int .i64 0, .int .u32 0, .bool false, .int .u32 0]:=by rw [hq];exact(hB5.set 2 _).set 1 _
   have hBw:Blk wa w.heap.size 53 #[.int .i64 47, .int .i64 rd, .int .i64 r1, .int .i64 r2, .int .i32 imm]:=by rw [hq];exact(hB1.farAt (by omega) _).farAt (by omega) _
   have hRw:Blk wa (w.heap.size+1) 65 #[.int .u32 0, .int .u32 0, .int .i64 0, .int .i64 0, .int .i64 0, .int .u32 0, .int .u32 0, .int .i64 0, .int .u32 0, .bool false, .int .u32 0]:=by rw [hq];exact(hR1.farAt (by omega) _).farAt (by omega) _
   have hbl:Below w.heap.size w wa:=by rw [hq];exact Ap (by omega) (Ap (by omega) hb1)
   clear hq c0 c1 c2 f1 f2 hB5 hB1 hR1 hb1 hA6 e17 e10 zb6
   go_upto_region 28 with(first
    |(refine Ab rfl 53 _ rfl w.heap.size rfl 53 _ _ hBw Tryz.underlying53 rfl Cs ?_)
    |(go_at_call 57;(with_reducible refine(CG.out _).mono ?_);rintro e w7 ⟨rfl,hb7⟩;replace hC:=hC.ext hb7;replace hRw:=hRw.ext hb7;replace hBw:=hBw.ext hb7;replace hbl:=hbl.trans (hb7.mono hbl.size)))
   try go_simp
   have f5:=hC.frozen 5
   have c5:=hC.cell 5
   replace hRw:=hRw.farAt (b:=g) (off:=5) (Nat.ne_of_lt hgt) (.int .u32 0)
   replace hbl:=Ap (off:=5) (u := .int .u32 0) (qD (Nat.le_succ _) (qS hgt)) hbl
   replace hC:=hC.set 5 (.int .u32 0)
   go_wp2_with(first
    |(refine Ab rfl 65 _ rfl g rfl 65 _ _ hC Tryz.underlying65 rfl Ao ?_)
    |(refine Ae rfl 65 _ _ rfl (w.heap.size+1) (Com.mk h.pc h.pc 1 0 0 0 0 0 0 false 0).cells rfl rfl 65 _ hRw Ao rfl Dl ?_;intro w8 hB8 hg8))
   exact bodyPost_ret (v := .agg (Com.mk h.pc h.pc 1 0 0 0 0 0 0 false 0).cells) (Bo rfl _ _ (w.heap.size+1) 65 _ _ rfl hB8 Tryz.underlying65 rfl Ao) rfl ⟨rfl,below_grown hbl hg8 hbl.size (Nat.le_succ _)⟩
  by_cases u1:a7=1
  ·subst u1
   obtain rfl:X=(⟨h.pc,u32 (h.pc+4),0,0,0,0,0,0,0,true,a0⟩:Com):=HX2.out
   clear HX2
   go_upto_region 23 with(fail)
   try go_simp
   refine Db 175 16 191 [0,1,2,3,4,5,6,7,8] (fun w'=>w'.cell? ⟨b,o+10,none⟩=some (.int .u32 a0)) (fun w'=>w'=_) (by kernel_rfl) (by kernel_rfl) (by kernel_rfl) rfl (fun w' hw=>by rw [hw];exact((qB (b+1) w6).drew.cell (p:=⟨b,o+10,none⟩) (Nat.lt_succ_self _)).trans e10) rfl ?_
   repeat'(first
    |refine rZ ?_
    |(refine' oR _ (by decide) (by decide) (by decide) (fun wq hwq K hK=>?_) ?_ ?_;rotate_left 1;(· have e1:=hwq;go_wp2_with(fail);all_goals exact hK);rfl)
    |fail)
   refine oB (fun w1 hw1 K hK=>?_)
   have hbw:Below w6.heap.size w6 w1:=by rw [hw1];exact(qB _ _).drew
   clear hw1
   replace hb1:=hb1.trans (hbw.mono hb1.size)
   replace hB1:=hB1.ext hbw
   replace hB5:=hB5.ext hbw
   replace hR1:=hR1.ext hbw
   replace e10:=(hbw.cell (p:=⟨b,o+10,none⟩) zb6).trans e10
   have c9:=hB5.cell 9
   have f9:=hB5.frozen 9
   go_wp2_with(fail)
   replace hB1:=hB1.farAt (b:=g) (off:=9) (by omega) (.bool true)
   replace hR1:=hR1.farAt (b:=g) (off:=9) (by omega) (.bool true)
   replace hb1:=Ap (b:=g) (off:=9) (u := .bool true) (by omega) hb1
   replace hB5:=hB5.set 9 (.bool true)
   refine hK undef _ ((Ap (b:=g) (off:=9) (u := .bool true) (qS (by omega)) (qB (w.heap.size+1) w1) |>.cell (p:=⟨b,o+10,none⟩) (by show b<_;omega)).trans e10) ?_
   simp only [Act.put,sA,sS,sZ]
   clear hK K c9 f9 e10 e17 hbw
   repeat'(first
    |refine rZ ?_
    |(refine' oR _ (by decide) (by decide) (by decide) (fun wq hwq K hK=>?_) ?_ ?_;rotate_left 1;(· have e1:=hwq;go_wp2_with(fail);all_goals exact hK);rfl)
    |fail)
   refine oS (fun wx hwx K hK=>?_)
   subst hwx
   have c10:=hB5.cell 10
   have f10:=hB5.frozen 10
   go_wp2_with(fail)
   replace hB1:=hB1.farAt (b:=g) (off:=10) (by omega) (.int .u32 a0)
   replace hR1:=hR1.farAt (b:=g) (off:=10) (by omega) (.int .u32 a0)
   replace hb1:=Ap (b:=g) (off:=10) (u := .int .u32 a0) (by omega) hb1
   replace hB5:=hB5.set 10 (.int .u32 a0)
   refine hK undef _ (fun _=>True) trivial ?_
   simp only [Act.put,sA,sS,sZ]
   clear hK K c10 f10 zb6 hA6
   refine Aj ?_
   rintro wa rfl
   go_upto_region 26 with(fail)
   try go_simp
   have hC:=hB5
   have hBw:=hB1
   have hRw:=hR1
   have hbl:=hb1
   clear hB5 hB1 hR1 hb1
   go_upto_region 28 with(first
    |(refine Ab rfl 53 _ rfl w.heap.size rfl 53 _ _ hBw Tryz.underlying53 rfl Cs ?_)
    |(go_at_call 57;(with_reducible refine(CG.out _).mono ?_);rintro e w7 ⟨rfl,hb7⟩;replace hC:=hC.ext hb7;replace hRw:=hRw.ext hb7;replace hBw:=hBw.ext hb7;replace hbl:=hbl.trans (hb7.mono hbl.size)))
   try go_simp
   have f5:=hC.frozen 5
   have c5:=hC.cell 5
   replace hRw:=hRw.farAt (b:=g) (off:=5) (Nat.ne_of_lt hgt) (.int .u32 0)
   replace hbl:=Ap (off:=5) (u := .int .u32 0) (qD (Nat.le_succ _) (qS hgt)) hbl
   replace hC:=hC.set 5 (.int .u32 0)
   go_wp2_with(first
    |(refine Ab rfl 65 _ rfl g rfl 65 _ _ hC Tryz.underlying65 rfl Ao ?_)
    |(refine Ae rfl 65 _ _ rfl (w.heap.size+1) (Com.mk h.pc (u32 (h.pc+4)) 0 0 0 0 0 0 0 true a0).cells rfl rfl 65 _ hRw Ao rfl Dl ?_;intro w8 hB8 hg8))
   exact bodyPost_ret (v := .agg (Com.mk h.pc (u32 (h.pc+4)) 0 0 0 0 0 0 0 true a0).cells) (Bo rfl _ _ (w.heap.size+1) 65 _ _ rfl hB8 Tryz.underlying65 rfl Ao) rfl ⟨rfl,below_grown hbl hg8 hbl.size (Nat.le_succ _)⟩
  ·have t0:decide (a7=0)=false:=qG u0
   have t1:decide (a7=1)=false:=qG u1
   obtain rfl:X=By h.pc 5:=by have h:=HX2.out;rw [if_neg u0,if_neg u1] at h;exact h
   clear HX2 CG
   go_wp2_with(first
    |(go_at_call 52;(with_reducible refine(CL.out _ hA6).mono ?_);rintro e w2 ⟨rfl,rfl⟩)
    |(go_at_call 53;(with_reducible refine(CB.out _).mono ?_);rintro e w2 ⟨rfl,rfl⟩)
    |(go_at_call 54;(with_reducible refine(CT.out _).mono ?_);rintro e w2 ⟨rfl,rfl⟩)
    |(refine Ab rfl 65 _ rfl g rfl 65 _ _ hB5 Tryz.underlying65 rfl Ao ?_)
    |(go_at_call 34;(with_reducible refine(Kb ⟨h.pc,(h.pc+4)%4294967296,0,0,0,0,0,0,0,false,0⟩ 5 _).mono ?_);rintro e w7 ⟨rfl,hb7⟩;replace hR1:=hR1.ext hb7;replace hb1:=hb1.trans (hb7.mono hb1.size))
    |(refine Ae rfl 65 _ _ rfl (w.heap.size+1) (By h.pc 5).cells rfl rfl 65 _ hR1 Ao rfl Dl ?_;intro w8 hB8 hg8))
   exact bodyPost_ret (v := .agg (By h.pc 5).cells) (Bo rfl _ _ (w.heap.size+1) 65 _ _ rfl hB8 Tryz.underlying65 rfl Ao) rfl ⟨rfl,below_grown hb1 hg8 hb1.size (Nat.le_succ _)⟩
 by_cases c46:op=46
 ·subst c46
  clear cS
  have hg0:Bg ⟨46,rd,r1,r2,imm⟩=false:=by simp [Bg]
  rw [hg0] at CG
  obtain rfl:X=(⟨h.pc,u32 (h.pc+4),0,0,0,0,0,0,0,false,0⟩:Com):=HX.out.symm
  have hC:=hB5
  have hBw:=hB1
  have hRw:=hR1
  have hbl:=hb1
  clear HX hB5 hB1 hR1 hb1 cA cB c48 c47 CR hg0 hA6 hH6
  go_upto_region 28 with(first
   |(refine Ab rfl 53 _ rfl w.heap.size rfl 53 _ _ hBw Tryz.underlying53 rfl Cs ?_)
   |(go_at_call 57;(with_reducible refine(CG.out _).mono ?_);rintro e w7 ⟨rfl,hb7⟩;replace hC:=hC.ext hb7;replace hRw:=hRw.ext hb7;replace hBw:=hBw.ext hb7;replace hbl:=hbl.trans (hb7.mono hbl.size)))
  try go_simp
  have f5:=hC.frozen 5
  have c5:=hC.cell 5
  replace hRw:=hRw.farAt (b:=g) (off:=5) (Nat.ne_of_lt hgt) (.int .u32 0)
  replace hbl:=Ap (off:=5) (u := .int .u32 0) (qD (Nat.le_succ _) (qS hgt)) hbl
  replace hC:=hC.set 5 (.int .u32 0)
  go_wp2_with(first
   |(refine Ab rfl 65 _ rfl g rfl 65 _ _ hC Tryz.underlying65 rfl Ao ?_)
   |(refine Ae rfl 65 _ _ rfl (w.heap.size+1) (Com.mk h.pc (u32 (h.pc+4)) 0 0 0 0 0 0 0 false 0).cells rfl rfl 65 _ hRw Ao rfl Dl ?_;intro w8 hB8 hg8))
  exact bodyPost_ret (v := .agg (Com.mk h.pc (u32 (h.pc+4)) 0 0 0 0 0 0 0 false 0).cells) (Bo rfl _ _ (w.heap.size+1) 65 _ _ rfl hB8 Tryz.underlying65 rfl Ao) rfl ⟨rfl,below_grown hbl hg8 hbl.size (Nat.le_succ _)⟩
 exfalso
 omega
theorem Xd (i:Ins) (h:Aq) (b o:Nat) (A:Option Addr) (cap:Nat) (m:List Int) (w:World) (hh:h.Wf) (ha0:0≤i.rs1) (ha1:i.rs1≤31) (hb0:0≤i.rs2) (hb1:i.rs2≤31) (hH:F8 w b o h) (hl:m.length≤9223372036854775807) (hb:Bytes m) (hA:Ar w w.heap.size .u8 A m) (cA:¬ (11≤i.op∧i.op≤15)) (cB:¬ (16≤i.op∧i.op≤18)) (c48:¬ i.op=48) (c47:¬ i.op=47) (c46:¬ i.op=46) :
  Calls Tryz.prog 35 #[.agg i.cells, .pointer (some ⟨b,o,none⟩), .slice A m.length cap] w fun e w'=>e = .returned (.agg (Cl i h m).cells)∧Below w.heap.size w w':=by
 generalize hX:Cl i h m=X
 have HX:=qA hX
 clear hX
 have ra:=hh.reg i.rs1
 have rb:=hh.reg i.rs2
 have cr:=hH.reg
 have cpc:=hH.pc
 have zb:=hH.lt
 have hrd:∀ k:Nat,h.reg (k:Int)=h.regs.getD k 0:=fun k=>rfl
 have CG:=qA (fun W=>Jq i W)
 have CR:=qA (fun W=>Mq i h.pc (h.reg i.rs1) (h.reg i.rs2) W ra.1 ra.2 rb.1 rb.2)
 obtain⟨op,rd,rs1,rs2,imm⟩:=i
 dsimp only at *
 obtain⟨r1,rfl⟩:=qH ha0
 obtain⟨r2,rfl⟩:=qH hb0
 have c1:=cr r1 (by omega)
 have c2:=cr r2 (by omega)
 have c17:=cr 17 (by omega)
 have c10:=cr 10 (by omega)
 have h17:=hrd 17
 have h10:=hrd 10
 rw [←hrd] at c1 c2 c17 c10
 clear cr hrd
 go_enter Tryz.func35,Tryz.ntmps35
 go_upto_region 1 with(fail)
 go_simp
 refine A1 fun wa hq=>?_
 have hB:Blk wa w.heap.size 53 #[.int .i64 op, .int .i64 rd, .int .i64 r1, .int .i64 r2, .int .i32 imm]:=by rw [hq];exact(Blk.new w _ _).alloc _
 have hR:Blk wa (w.heap.size+1) 65 #[.int .u32 0, .int .u32 0, .int .i64 0, .int .i64 0, .int .i64 0, .int .u32 0, .int .u32 0, .int .i64 0, .int .u32 0, .bool false, .int .u32 0]:=by rw [hq];exact Blk.newAt (w.alloc _) 65 _ (by simp)
 have hbl:Below w.heap.size w wa:=by rw [hq];exact((qB _ _).alloc (qC _) _).alloc (by simp) _
 clear hq
 have zB:=hB.lt
 have zR:=hR.lt
 have hHa:=hH.ext hbl
 refine Aw (by kernel_rfl) (by kernel_rfl) ?_
 repeat'(first
  |refine Bt rfl ?_
  |(refine' Bh _ (fun wq hwq K hK=>?_) ?_ ?_;rotate_left 1;(· have e1:=(hbl.trans (hwq.mono hbl.size)).cell (p:=⟨b,o+r1,none⟩) zb;rw [c1] at e1;have e2:=(hbl.trans (hwq.mono hbl.size)).cell (p:=⟨b,o+r2,none⟩) zb;rw [c2] at e2;have d2:=(hB.ext hwq).cell 2;have d3:=(hB.ext hwq).cell 3;go_wp2_with(fail);all_goals exact hK _ hwq);rfl)
  |((first | refine Bj rfl rfl rfl ?_ ?_ | refine Bi rfl rfl rfl ?_ ?_)<;>intro hc<;>first | (cases hc;done) | ((try cases hc);simp only [Act.put,sA,sS,sZ]))
  |refine Bl rfl rfl rfl ?_)
 refine Ck ?_
 intro w4 hw4
 replace hbl:=hbl.trans (hw4.mono hbl.size)
 replace hB:=hB.ext hw4
 replace hR:=hR.ext hw4
 have hpcq:w4.cell? ⟨b,o+32,none⟩=some (.int .u32 h.pc):=(hbl.cell (p:=⟨b,o+32,none⟩) zb).trans cpc
 have built_c:Tryz.prog.built 65 [(0, .int .u32 h.pc),(1, .int .u32 ((h.pc+4)%4294967296))]=some #[.int .u32 h.pc, .int .u32 ((h.pc+4)%4294967296), .int .i64 0, .int .i64 0, .int .i64 0, .int .u32 0, .int .u32 0, .int .i64 0, .int .u32 0, .bool false, .int .u32 0]:=by kernel_rfl
 clear hw4 zB zR hHa
 have zb4:=qE zb hbl.size
 go_upto_region 2 with(fail)
 try go_simp
 refine Ad 375 648 1023 [0,1,2,3,4,5,6,7,8,9,10,11] (by kernel_rfl) (by kernel_rfl) (by kernel_rfl) rfl ?_
 refine rR (fun wq hwq=>hwq.at_ zb4 hpcq) ?_
 refine oB (fun w1 hw1 K hK=>?_)
 have hbw:Below w4.heap.size w4 w1:=by rw [hw1];exact(qB _ _).drew
 clear hw1
 replace hbl:=hbl.trans (hbw.mono hbl.size)
 replace hB:=hB.ext hbw
 replace hR:=hR.ext hbw
 clear hpcq
 go_wp2_with(fail)
 refine hK _ _ (hbw.alloc hbw.size _) ?_
 simp only [Act.put,sA,sS,sZ]
 clear hK K
 refine oQ rfl rfl ?_
 refine oS (fun wx hwx K hK=>?_)
 subst hwx
 have hgt:w.heap.size+1<w1.heap.size:=hR.lt
 have hC:=Blk.new w1 65 #[.int .u32 0, .int .u32 0, .int .i64 0, .int .i64 0, .int .i64 0, .int .u32 0, .int .u32 0, .int .i64 0, .int .u32 0, .bool false, .int .u32 0]
 replace hB:=hB.alloc (.cells #[.int .u32 0, .int .u32 0, .int .i64 0, .int .i64 0, .int .i64 0, .int .u32 0, .int .u32 0, .int .i64 0, .int .u32 0, .bool false, .int .u32 0] 65)
 replace hR:=hR.alloc (.cells #[.int .u32 0, .int .u32 0, .int .i64 0, .int .i64 0, .int .i64 0, .int .u32 0, .int .u32 0, .int .i64 0, .int .u32 0, .bool false, .int .u32 0] 65)
 have hs1:=hbl.size
 replace hbl:=hbl.alloc hbl.size (.cells #[.int .u32 0, .int .u32 0, .int .i64 0, .int .i64 0, .int .i64 0, .int .u32 0, .int .u32 0, .int .i64 0, .int .u32 0, .bool false, .int .u32 0] 65)
 refine De 65 _ _ rfl w1.heap.size #[.int .u32 h.pc, .int .u32 ((h.pc+4)%4294967296), .int .i64 0, .int .i64 0, .int .i64 0, .int .u32 0, .int .u32 0, .int .i64 0, .int .u32 0, .bool false, .int .u32 0] rfl rfl 65 _ hC Ao rfl Dl ?_
 intro w5 hB5 hg5
 have hB1:=hB.grown hg5 (by simp;omega)
 have hR1:=hR.grown hg5 (by simp;omega)
 have hb1:=below_grown hbl hg5 hbl.size hs1
 refine hK _ _ (fun _=>True) trivial ?_
 simp only [Act.put,sA,sS,sZ]
 clear hK K hB hR hbl hs1 hC hg5 zb4 hbw built_c
 refine Aj ?_
 rintro w6 rfl
 have hH6:=hH.ext hb1
 have hA6:Ar w6 w6.heap.size .u8 A m:=(hA.below hb1).mono hb1.size
 generalize w1.heap.size=g at *
 clear cpc c1 c2 c17 c10 hH hA
 have d0:=hB1.cell 0
 have d4:=hB1.cell 4
 have hat:u32 (h.reg r1+imm)=(h.reg r1+imm)%4294967296:=rfl
 obtain⟨at',hat'⟩:∃ x,x=(h.reg r1+imm)%4294967296:=⟨_,rfl⟩
 have at0:0≤at':=by omega
 have at1:at'≤4294967295:=by omega
 have Hat:=qA hat'
 have t11:(op==48)=false:=by simpa using c48
 have t12:(op==47)=false:=by simpa using c47
 have t13:(op != 46)=true:=by simpa using c46
 have e32:w6.cell? ⟨b,o+32,none⟩=some (.int .u32 h.pc):=hH6.pc
 have zb6:=hH6.lt
 have HX2:Hid (X=(⟨h.pc,(F6 ⟨op,rd,r1,r2,imm⟩ h.pc (h.reg r1) (h.reg r2)).2,0,0,if Bg ⟨op,rd,r1,r2,imm⟩=true then rd else 0,if Bg ⟨op,rd,r1,r2,imm⟩=true then (F6 ⟨op,rd,r1,r2,imm⟩ h.pc (h.reg r1) (h.reg r2)).1 else 0,0,0,0,false,0⟩:Com)):=by
  refine qA ?_
  rw [←HX.out]
  unfold Cl
  rw [if_neg cA,if_neg cB,if_neg c48,if_neg c47,if_neg c46]
 clear HX hat hat' Hat at0 at1
 generalize F6 ⟨op,rd,r1,r2,imm⟩ h.pc (h.reg r1) (h.reg r2)=RK at *
 obtain⟨rv,rn⟩:=RK
 dsimp only at CR HX2
 have hlt6:w.heap.size<w6.heap.size:=hB1.lt
 by_cases clow:op<11
 focus
  have u1:decide (11≤op)=false:=qG (by omega)
  have u2:decide (16≤op)=false:=qG (by omega)
  clear cA cB c48 c47 c46 clow
  go_upto_region 25 with(fail)
  try go_simp
  clear u1 u2 t11 t12 t13
 rotate_left 1
 focus
  have u1:decide (11≤op)=true:=qF (by omega)
  have u2:decide (op≤15)=false:=qG (by omega)
  have u3:decide (16≤op)=true:=qF (by omega)
  have u4:decide (op≤18)=false:=qG (by omega)
  clear cA cB c48 c47 c46 clow
  go_upto_region 25 with(fail)
  try go_simp
  clear u1 u2 u3 u4 t11 t12 t13
 all_goals
  refine Ad 12142 17 12287 [0,1,2,3,4,5,6,7,8,9,10,11,12,13,14] (by kernel_rfl) (by kernel_rfl) (by kernel_rfl) rfl ?_
  repeat'(first
   |refine rZ ?_
   |(refine' oR _ (by decide) (by decide) (by decide) (fun wq hwq K hK=>?_) ?_ ?_;rotate_left 1;(· have e1:=hwq.at_ zb6 e32;first | (refine E3 53 _ rfl w.heap.size rfl 53 _ _ (hB1.ext hwq) Tryz.underlying53 rfl Cs ?_;(simp only [Act.put,sA,sS,sZ]);exact hK) | (go_wp2_with(go_at_call 56;(with_reducible refine(CR.out _).mono ?_);rintro e w7 ⟨rfl,hb7⟩;replace hwq:=hwq.trans (hb7.mono hwq.size));all_goals exact hK));rfl)
   |(refine' oC _ (by decide) (by decide) (by decide) (fun wq hwq K hK=>?_) ?_ ?_;rotate_left 1;(· have e1:=hwq.at_ zb6 e32;first | (refine E3 53 _ rfl w.heap.size rfl 53 _ _ (hB1.ext hwq) Tryz.underlying53 rfl Cs ?_;(simp only [Act.put,sA,sS,sZ]);exact hK) | (go_wp2_with(go_at_call 56;(with_reducible refine(CR.out _).mono ?_);rintro e w7 ⟨rfl,hb7⟩;replace hwq:=hwq.trans (hb7.mono hwq.size));all_goals exact hK _ hwq));rfl)
   |fail)
  refine oS (fun w1 hbw K hK=>?_)
  replace hb1:=hb1.trans (hbw.mono hb1.size)
  replace hB1:=hB1.ext hbw
  replace hB5:=hB5.ext hbw
  replace hR1:=hR1.ext hbw
  have c5:=hB5.cell 5
  have f5:=hB5.frozen 5
  have c1:=hB5.cell 1
  have f1:=hB5.frozen 1
  go_wp2_with(fail)
  refine hK undef _ (fun _=>True) trivial ?_
  simp only [Act.put,sA,sS,sZ]
  clear hK K
  repeat'(first
   |refine rZ ?_
   |(refine' oC _ (by decide) (by decide) (by decide) (fun wq hwq K hK=>?_) ?_ ?_;rotate_left 1;(· go_wp2_with(fail);all_goals exact hK _ hwq);rfl)
   |fail)
  refine oS (fun wx hwx K hK=>?_)
  subst hwx
  go_wp2_with(fail)
  refine hK undef _ (fun _=>True) trivial ?_
  simp only [Act.put,sA,sS,sZ]
  clear hK K
  refine Aj ?_
  rintro wa hq
  have hC:Blk wa g 65 #[.int .u32 h.pc, .int .u32 rn, .int .i64 0, .int .i64 0, .int .i64 0, .int .u32 rv, .int .u32 0, .int .i64 0, .int .u32 0, .bool false, .int .u32 0]:=by rw [hq];exact(hB5.set 5 _).set 1 _
  have hBw:Blk wa w.heap.size 53 #[.int .i64 op, .int .i64 rd, .int .i64 r1, .int .i64 r2, .int .i32 imm]:=by rw [hq];exact(hB1.farAt (by omega) _).farAt (by omega) _
  have hRw:Blk wa (w.heap.size+1) 65 #[.int .u32 0, .int .u32 0, .int .i64 0, .int .i64 0, .int .i64 0, .int .u32 0, .int .u32 0, .int .i64 0, .int .u32 0, .bool false, .int .u32 0]:=by rw [hq];exact(hR1.farAt (by omega) _).farAt (by omega) _
  have hbl:Below w.heap.size w wa:=by rw [hq];exact Ap (by omega) (Ap (by omega) hb1)
  clear hq c5 c1 f5 f1 hB5 hB1 hR1 hb1 hA6 CR d0 d4 hH6 zb6 e32 hlt6 hbw
  generalize Bg ⟨op,rd,r1,r2,imm⟩=gv at *
  go_upto_region 26 with(fail)
  try go_simp
  rcases gv with _ | _
  ·obtain rfl:X=⟨h.pc,rn,0,0,0,0,0,0,0,false,0⟩:=HX2.out
   clear HX2
   go_upto_region 28 with(first
    |(refine Ab rfl 53 _ rfl w.heap.size rfl 53 _ _ hBw Tryz.underlying53 rfl Cs ?_)
    |(go_at_call 57;(with_reducible refine(CG.out _).mono ?_);rintro e w7 ⟨rfl,hb7⟩;replace hC:=hC.ext hb7;replace hRw:=hRw.ext hb7;replace hBw:=hBw.ext hb7;replace hbl:=hbl.trans (hb7.mono hbl.size)))
   try go_simp
   have f5:=hC.frozen 5
   have c5:=hC.cell 5
   replace hRw:=hRw.farAt (b:=g) (off:=5) (Nat.ne_of_lt hgt) (.int .u32 0)
   replace hbl:=Ap (off:=5) (u := .int .u32 0) (qD (Nat.le_succ _) (qS hgt)) hbl
   replace hC:=hC.set 5 (.int .u32 0)
   go_wp2_with(first
    |(refine Ab rfl 65 _ rfl g rfl 65 _ _ hC Tryz.underlying65 rfl Ao ?_)
    |(refine Ae rfl 65 _ _ rfl (w.heap.size+1) (Com.mk h.pc rn 0 0 0 0 0 0 0 false 0).cells rfl rfl 65 _ hRw Ao rfl Dl ?_;intro w8 hB8 hg8))
   exact bodyPost_ret (v := .agg (Com.mk h.pc rn 0 0 0 0 0 0 0 false 0).cells) (Bo rfl _ _ (w.heap.size+1) 65 _ _ rfl hB8 Tryz.underlying65 rfl Ao) rfl ⟨rfl,below_grown hbl hg8 hbl.size (Nat.le_succ _)⟩
  ·obtain rfl:X=⟨h.pc,rn,0,0,rd,rv,0,0,0,false,0⟩:=HX2.out
   clear HX2
   go_upto_region 27 with(first
    |(refine Ab rfl 53 _ rfl w.heap.size rfl 53 _ _ hBw Tryz.underlying53 rfl Cs ?_)
    |(go_at_call 57;(with_reducible refine(CG.out _).mono ?_);rintro e w7 ⟨rfl,hb7⟩;replace hC:=hC.ext hb7;replace hRw:=hRw.ext hb7;replace hBw:=hBw.ext hb7;replace hbl:=hbl.trans (hb7.mono hbl.size)))
   try go_simp
   have f4:=hC.frozen 4
   have c4:=hC.cell 4
   have i1:=hBw.cell 1
   replace hRw:=hRw.farAt (b:=g) (off:=4) (Nat.ne_of_lt hgt) (.int .i64 rd)
   replace hbl:=Ap (off:=4) (u := .int .i64 rd) (qD (Nat.le_succ _) (qS hgt)) hbl
   replace hC:=hC.set 4 (.int .i64 rd)
   go_wp2_with(first
    |(refine Ab rfl 65 _ rfl g rfl 65 _ _ hC Tryz.underlying65 rfl Ao ?_)
    |(refine Ae rfl 65 _ _ rfl (w.heap.size+1) (Com.mk h.pc rn 0 0 rd rv 0 0 0 false 0).cells rfl rfl 65 _ hRw Ao rfl Dl ?_;intro w8 hB8 hg8))
   exact bodyPost_ret (v := .agg (Com.mk h.pc rn 0 0 rd rv 0 0 0 false 0).cells) (Bo rfl _ _ (w.heap.size+1) 65 _ _ rfl hB8 Tryz.underlying65 rfl Ao) rfl ⟨rfl,below_grown hbl hg8 hbl.size (Nat.le_succ _)⟩
theorem Ui (i:Ins) (h:Aq) (b o:Nat) (A:Option Addr) (cap:Nat) (m:List Int) (w:World) (hh:h.Wf) (ha0:0≤i.rs1) (ha1:i.rs1≤31) (hb0:0≤i.rs2) (hb1:i.rs2≤31) (hH:F8 w b o h) (hl:m.length≤9223372036854775807) (hb:Bytes m) (hA:Ar w w.heap.size .u8 A m) :
  Calls Tryz.prog 35 #[.agg i.cells, .pointer (some ⟨b,o,none⟩), .slice A m.length cap] w fun e w'=>e = .returned (.agg (Cl i h m).cells)∧Below w.heap.size w w':=by
 by_cases cA:11≤i.op∧i.op≤15
 ·exact Afo i h b o A cap m w hh ha0 ha1 hb0 hb1 hH hl hb hA cA
 by_cases cB:16≤i.op∧i.op≤18
 ·exact Uj i h b o A cap m w hh ha0 ha1 hb0 hb1 hH hl hb hA cA cB
 by_cases cS:i.op=48∨i.op=47∨i.op=46
 ·exact Aai i h b o A cap m w hh ha0 ha1 hb0 hb1 hH hl hb hA cA cB cS
 exact Xd i h b o A cap m w hh ha0 ha1 hb0 hb1 hH hl hb hA cA cB (by omega) (by omega) (by omega)
theorem grownBy_refl (w:World) (row:Option Nat):w.grownBy w row:=⟨rfl,rfl,rfl,qC _,fun _ _ _=>rfl⟩
theorem Aay {w w':World} (h:w.grownBy w' none) (row:Option Nat):w.grownBy w' row:=⟨h.os,h.tape,h.output,h.size,fun k hk _=>h.block k hk (by simp)⟩
theorem Cx {w w':World} (h:Below w.heap.size w w') (row:Option Nat):w.grownBy w' row:=Aay (Cg h) row
theorem Oi (w:World) (p:Addr) (u:Value):w.grownBy (w.setCell p u) (some p.block):=
 ⟨rfl,rfl,rfl,by simp,fun k _ hne=>Below.heap_setCell w p u k (fun e=>hne (by rw [e]))⟩
def Ou (hcs:Array Value) (ho:Nat) (c:Com):Array Value:=
 let l:=((hcs.setIfInBounds (ho+32) (.int .u32 c.next)).setIfInBounds (ho+33) (.int .i64 c.state)).setIfInBounds (ho+34) (.int .i64 c.cause)
 if 0<c.rd then l.setIfInBounds (ho+c.rd.toNat) (.int .u32 c.value) else l
theorem Aew (hcs:Array Value) (ho:Nat) (c:Com):(Ou hcs ho c).size=hcs.size:=by unfold Ou;split<;>simp
theorem W5 (h:Aq) (c:Com) (hl:h.regs.length=32) (h0:0≤c.rd) (h1:c.rd≤31):Ou h.cells 0 c=(Cw c h).cells:=by
 obtain⟨n,hn⟩:=qH h0
 obtain⟨regs,pc,st,ca⟩:=h
 unfold Ou Cw Aq.cells
 dsimp only at *
 rw [hn]
 by_cases hp:(0:Int)<(n:Int)
 ·rw [if_pos hp,if_pos hp]
  simp [List.setIfInBounds_toArray,List.set_append,hl,List.map_set]
  intro hx
  omega
 ·rw [if_neg hp,if_neg hp]
  simp [List.setIfInBounds_toArray,List.set_append,hl]
theorem G7 {w wx:World} (h:wx=w.drew) (B:Nat):Below B w wx:=by rw [h];exact(qB _ _).drew
theorem Rq (c:Com) (b o:Nat) (T:TypeId) (hcs:Array Value) (A:Option Addr) (base cap:Nat) (m:List Int) (w:World) (hH:Blk w b T hcs) (hsz:o+35≤hcs.size) (hr0:0≤c.rd) (hr1:c.rd≤31)
  (hown:w.ownsRow base 5 1 (.slice A m.length cap) m.length (m.map (.int .u8))) (hne:(Value.slice A m.length cap).ownBlock≠some b) (hl:m.length≤9223372036854775807)
  (hm:c.many=0∨c.many=1∨c.many=2∨c.many=4) (hf:c.many=0∨(0≤c.at_∧c.at_+c.many≤m.length∧c.at_≤4294967291)) (hd0:0≤c.data) (hd1:c.data≤4294967295) :
  Calls Tryz.prog 36 #[.agg c.cells, .pointer (some ⟨b,o,none⟩), .slice A m.length cap] w fun e w'=>e = .returned (.tuple #[]) ∧
   ∃ w1,w.grownBy w1 (some b)∧Blk w1 b T (Ou hcs o c)∧w'.ownsRow base 5 1 (.slice A m.length cap) m.length ((C4 c m).map (.int .u8))∧w1.grownBy w' (Value.slice A m.length cap).ownBlock:=by
 generalize hX:C4 c m=X
 have HX:=qA hX
 clear hX
 generalize hY:Ou hcs o c=Y
 have HY:=qA hY
 clear hY
 obtain⟨c0,c1,c2,c3,c4,c5,c6,c7,c8,c9,c10⟩:=c
 dsimp only at *
 go_enter Tryz.func36,Tryz.ntmps36
 go_upto_region 1 with(fail)
 go_simp
 refine A1 fun wa hq=>?_
 have hB:Blk wa w.heap.size 65 #[.int .u32 c0, .int .u32 c1, .int .i64 c2, .int .i64 c3, .int .i64 c4, .int .u32 c5, .int .u32 c6, .int .i64 c7, .int .u32 c8, .bool c9, .int .u32 c10]:=by rw [hq];exact Blk.new w _ _
 have hbl:Below w.heap.size w wa:=by rw [hq];exact(qB _ _).alloc (qC _) _
 clear hq
 have hlt:=hH.lt
 have hHa:=hH.ext hbl
 have hga:=Cx hbl (some b)
 clear hbl
 refine Db 112303 336 112639 [0,1,2,3,4,5,6,7,8,9,10,11,12,13,14,15,16,17] (fun w'=>Blk w' w.heap.size 65 #[.int .u32 c0, .int .u32 c1, .int .i64 c2, .int .i64 c3, .int .i64 c4, .int .u32 c5, .int .u32 c6, .int .i64 c7, .int .u32 c8, .bool c9, .int .u32 c10]) (fun w'=>w'=_) (by kernel_rfl) (by kernel_rfl) (by kernel_rfl) rfl (fun w' hw=>by rw [hw];exact hB.ext (qB _ _).drew) rfl ?_
 repeat'(first
  |refine rZ ?_
  |(refine' oR _ (by decide) (by decide) (by decide) (fun wq hwq K hK=>?_) ?_ ?_;rotate_left 1;(· have d1:=hwq.cell 1;have d2:=hwq.cell 2;have d3:=hwq.cell 3;go_wp2_with(fail);all_goals exact hK);rfl)
  |fail)
 refine oB (fun w1 hw1 K hK=>?_)
 replace hga:=grownBy_trans hga (Cx (show Below wa.heap.size wa w1 by rw [hw1];exact(qB _ _).drew) (some b))
 replace hB:=hB.ext (show Below wa.heap.size wa w1 by rw [hw1];exact(qB _ _).drew)
 replace hHa:=hHa.ext (show Below wa.heap.size wa w1 by rw [hw1];exact(qB _ _).drew)
 clear hw1
 have E0:=qA hsz
 obtain⟨v32,e32⟩:∃ v,hcs[o+32]? = some v:=⟨_,Array.getElem?_eq_getElem (by omega)⟩
 obtain⟨v33,e33⟩:∃ v,(hcs.setIfInBounds (o+32) (.int .u32 c1))[o+33]? = some v:=⟨_,Array.getElem?_eq_getElem (by simp;omega)⟩
 obtain⟨v34,e34⟩:∃ v,((hcs.setIfInBounds (o+32) (.int .u32 c1)).setIfInBounds (o+33) (.int .i64 c2))[o+34]? = some v:=⟨_,Array.getElem?_eq_getElem (by simp;omega)⟩
 have fc:=hHa.frozen (o+32)
 have fv:=hHa.cell (o+32)
 rw [e32] at fv
 go_wp2_with(fail)
 replace hHa:=hHa.set (o+32) (.int .u32 c1)
 replace hB:=hB.farAt (b:=b) (off:=o+32) (Nat.ne_of_gt hlt) (.int .u32 c1)
 replace hga:=grownBy_trans hga (Oi _ ⟨b,o+32,none⟩ (.int .u32 c1))
 refine hK undef _ hB ?_
 simp only [Act.put,sA,sS,sZ]
 clear hK K fc fv
 repeat'(first
  |refine rZ ?_
  |(refine' oR _ (by decide) (by decide) (by decide) (fun wq hwq K hK=>?_) ?_ ?_;rotate_left 1;(· have d1:=hwq.cell 1;have d2:=hwq.cell 2;have d3:=hwq.cell 3;go_wp2_with(fail);all_goals exact hK);rfl)
  |fail)
 refine oB (fun w1 hw1 K hK=>?_)
 subst hw1
 have fc:=hHa.frozen (o+33)
 have fv:=hHa.cell (o+33)
 rw [e33] at fv
 go_wp2_with(fail)
 replace hHa:=hHa.set (o+33) (.int .i64 c2)
 replace hB:=hB.farAt (b:=b) (off:=o+33) (Nat.ne_of_gt hlt) (.int .i64 c2)
 replace hga:=grownBy_trans hga (Oi _ ⟨b,o+33,none⟩ (.int .i64 c2))
 refine hK undef _ hB ?_
 simp only [Act.put,sA,sS,sZ]
 clear hK K fc fv
 repeat'(first
  |refine rZ ?_
  |(refine' oR _ (by decide) (by decide) (by decide) (fun wq hwq K hK=>?_) ?_ ?_;rotate_left 1;(· have d1:=hwq.cell 1;have d2:=hwq.cell 2;have d3:=hwq.cell 3;go_wp2_with(fail);all_goals exact hK);rfl)
  |fail)
 refine oB (fun w1 hw1 K hK=>?_)
 subst hw1
 have fc:=hHa.frozen (o+34)
 have fv:=hHa.cell (o+34)
 rw [e34] at fv
 go_wp2_with(fail)
 replace hHa:=hHa.set (o+34) (.int .i64 c3)
 replace hB:=hB.farAt (b:=b) (off:=o+34) (Nat.ne_of_gt hlt) (.int .i64 c3)
 replace hga:=grownBy_trans hga (Oi _ ⟨b,o+34,none⟩ (.int .i64 c3))
 refine hK undef _ hB ?_
 simp only [Act.put,sA,sS,sZ]
 clear hK K fc fv
 refine Aj ?_
 intro w2 hq
 rw [←hq] at hHa hB hga
 clear hq e32 e33 e34 v32 v33 v34
 try go_simp
 have d4:=hB.cell 4
 by_cases hp:0<c4
 focus
  obtain⟨n,rfl⟩:=qH hr0
  have hn:n<32:=by omega
  have HY2:Hid ((((hcs.setIfInBounds (o+32) (.int .u32 c1)).setIfInBounds (o+33) (.int .i64 c2)).setIfInBounds (o+34) (.int .i64 c3)).setIfInBounds (o+n) (.int .u32 c5)=Y):=by
   refine qA ?_
   rw [←HY.out]
   unfold Ou
   rw [if_pos hp]
   rfl
  have hs3:(((hcs.setIfInBounds (o+32) (.int .u32 c1)).setIfInBounds (o+33) (.int .i64 c2)).setIfInBounds (o+34) (.int .i64 c3)).size=hcs.size:=by simp
  generalize ((hcs.setIfInBounds (o+32) (.int .u32 c1)).setIfInBounds (o+33) (.int .i64 c2)).setIfInBounds (o+34) (.int .i64 c3)=hc3 at *
  obtain⟨vn,en⟩:∃ v,hc3[o+n]? = some v:=⟨_,Array.getElem?_eq_getElem (by have:=E0.out;omega)⟩
  clear HY hs3
  go_upto_region 3 with(fail)
  try go_simp
  refine Db 235 20 255 [0,1,2,3,4,5,6,7,8] (fun w'=>Blk w' w.heap.size 65 #[.int .u32 c0, .int .u32 c1, .int .i64 c2, .int .i64 c3, .int .i64 n, .int .u32 c5, .int .u32 c6, .int .i64 c7, .int .u32 c8, .bool c9, .int .u32 c10]) (fun w'=>w'=_) (by kernel_rfl) (by kernel_rfl) (by kernel_rfl) rfl (fun w' hw=>by rw [hw];exact hB.ext (qB _ _).drew) rfl ?_
  repeat'(first
   |refine rZ ?_
   |(refine' oR _ (by decide) (by decide) (by decide) (fun wq hwq K hK=>?_) ?_ ?_;rotate_left 1;(· have d4:=hwq.cell 4;have d5:=hwq.cell 5;go_wp2_with(fail);all_goals exact hK);rfl)
   |fail)
  refine oS (fun wx hwx K hK=>?_)
  replace hga:=grownBy_trans hga (Cx (show Below w2.heap.size w2 wx by rw [hwx];exact(qB _ _).drew) (some b))
  replace hB:=hB.ext (show Below w2.heap.size w2 wx by rw [hwx];exact(qB _ _).drew)
  replace hHa:=hHa.ext (show Below w2.heap.size w2 wx by rw [hwx];exact(qB _ _).drew)
  clear hwx d4
  have fc:=hHa.frozen (o+n)
  have fv:=hHa.cell (o+n)
  rw [en] at fv
  go_wp2_with(fail)
  replace hHa:=hHa.set (o+n) (.int .u32 c5)
  replace hB:=hB.farAt (b:=b) (off:=o+n) (Nat.ne_of_gt hlt) (.int .u32 c5)
  replace hga:=grownBy_trans hga (Oi _ ⟨b,o+n,none⟩ (.int .u32 c5))
  refine hK undef _ (fun _=>True) trivial ?_
  simp only [Act.put,sA,sS,sZ]
  clear hK K fc fv
  rw [HY2.out] at hHa
  clear HY2 en vn hn
  refine Aj ?_
  intro w2 hq
  rw [←hq] at hHa hB hga
  clear hq
  try go_simp
  generalize (n:Int)=c4 at *
 rotate_left 1
 focus
  have hY:Y=((hcs.setIfInBounds (o+32) (.int .u32 c1)).setIfInBounds (o+33) (.int .i64 c2)).setIfInBounds (o+34) (.int .i64 c3):=by
   rw [←HY.out]
   unfold Ou
   rw [if_neg hp]
  have hp':decide (0<c4)=false:=qG hp
  rw [←hY] at hHa
  clear HY hY
  go_upto_region 4 with(fail)
  try go_simp
  clear hp hp'
 all_goals
  have hM:=hown.kept hga (Or.inr hne)
  have hgm:=grownBy_refl w2 (Value.slice A m.length cap).ownBlock
  have d7:=hB.cell 7
  rcases hm with rfl | rfl | rfl | rfl
  ·go_wp2_with(fail)
   refine wp_loop_rounds 1 ?_
   repeat any_goals (rw [rounds_succ];go_wp2_with(fail))
   (try simp only [Exit.inBlock,Exit.then])
   first | (refine bodyPost_ret (results_none rfl _ _ _) rfl ?_) | (refine bodyPost_end (results_none rfl _ _ _) rfl ?_)
   exact⟨rfl,_,hga,hHa,by rw [←HX.out];exact hM,hgm⟩
  ·obtain⟨q0,q1,q2⟩:0≤c6∧c6+1≤m.length∧c6≤4294967291:=hf.resolve_left (by decide)
   obtain⟨p,rfl⟩:=qH q0
   obtain⟨g,cap',hv,hgb,hgl⟩:=hown.form (by omega)
   injection hv with hA hn' hcap
   subst hA
   have hcell:=fun(W:World) (l:List Int) (hW:W.ownsRow base 5 1 (.slice (some ⟨g,0,none⟩) m.length cap) m.length (l.map (.int .u8))) (hl:l.length=m.length) k (hk:k<1)=>(hW.cellAt (p+k) (by omega)).trans (show(l.map (Value.int .u8))[p+k]? = some (.int .u8 (l.getD (p+k) 0)) by rw [List.getElem?_map,qI (by omega),List.getD_eq_getElem?_getD,qI (by omega)];rfl)
   clear hown
   go_upto_region 5 with(fail)
   refine wp_loop_rounds 2 ?_
   rw [rounds_succ]
   go_upto_region 7 with(fail)
   try go_simp
   refine Db 8059 132 8191 [0,1,2,3,4,5,6,7,8,9,10,11,12,13] (fun w'=>Blk w' w.heap.size 65 #[.int .u32 c0, .int .u32 c1, .int .i64 c2, .int .i64 c3, .int .i64 c4, .int .u32 c5, .int .u32 (p:Int), .int .i64 1, .int .u32 c8, .bool c9, .int .u32 c10]) (fun w'=>w'=_) (by kernel_rfl) (by kernel_rfl) (by kernel_rfl) rfl (fun w' hw=>by rw [hw];exact hB.ext (qB _ _).drew) rfl ?_
   repeat'(first
    |refine rZ ?_
    |(refine' oR _ (by decide) (by decide) (by decide) (fun wq hwq K hK=>?_) ?_ ?_;rotate_left 1;(· have d6:=hwq.cell 6;have d8:=hwq.cell 8;go_wp2_with(fail);all_goals exact hK);rfl)
    |fail)
   refine oS (fun wx hwx K hK=>?_)
   have hbd:=fun B=>G7 hwx B
   replace hB:=hB.ext (hbd _)
   replace hM:=hM.kept (Cx (hbd _) none) (Or.inr (by simp [Value.ownBlock]))
   replace hgm:=grownBy_trans hgm (Cx (hbd _) (Value.slice (some ⟨g,0,none⟩) m.length cap).ownBlock)
   clear hwx hbd
   have cx:=hcell _ _ hM (by simp) 0 (by decide)
   have fx:=hM.frozenAt (p+0)
   try simp only [Nat.add_zero] at cx fx
   go_wp2_with(fail)
   have hst:=hM.stored (p+0) (.int .u8 (c8%256))
   try simp only [Nat.add_zero] at hst
   replace hM:=hst.1
   replace hgm:=grownBy_trans hgm hst.2
   replace hB:=hB.farAt (b:=g) (off:=p+0) (Nat.ne_of_gt hgl) (.int .u8 (c8%256))
   try simp only [Nat.add_zero] at hB
   refine hK undef _ (fun _=>True) trivial ?_
   simp only [Act.put,sA,sS,sZ]
   clear hK K cx fx hst
   refine Aj ?_
   intro wz hz
   rw [←hz] at hM hgm hB
   clear hz
   try go_simp
   try rw [←List.map_set] at hM
   go_wp2_with(fail)
   rw [rounds_succ]
   go_wp2_with(fail)
   (try simp only [Exit.inBlock,Exit.then])
   first | (refine bodyPost_ret (results_none rfl _ _ _) rfl ?_) | (refine bodyPost_end (results_none rfl _ _ _) rfl ?_)
   refine⟨rfl,_,hga,hHa,?_,hgm⟩
   rw [←HX.out]
   exact hM
  ·obtain⟨q0,q1,q2⟩:0≤c6∧c6+2≤m.length∧c6≤4294967291:=hf.resolve_left (by decide)
   obtain⟨p,rfl⟩:=qH q0
   obtain⟨g,cap',hv,hgb,hgl⟩:=hown.form (by omega)
   injection hv with hA hn' hcap
   subst hA
   have hcell:=fun(W:World) (l:List Int) (hW:W.ownsRow base 5 1 (.slice (some ⟨g,0,none⟩) m.length cap) m.length (l.map (.int .u8))) (hl:l.length=m.length) k (hk:k<2)=>(hW.cellAt (p+k) (by omega)).trans (show(l.map (Value.int .u8))[p+k]? = some (.int .u8 (l.getD (p+k) 0)) by rw [List.getElem?_map,qI (by omega),List.getD_eq_getElem?_getD,qI (by omega)];rfl)
   clear hown
   go_upto_region 5 with(fail)
   refine wp_loop_rounds 3 ?_
   rw [rounds_succ]
   go_upto_region 7 with(fail)
   try go_simp
   refine Db 8059 132 8191 [0,1,2,3,4,5,6,7,8,9,10,11,12,13] (fun w'=>Blk w' w.heap.size 65 #[.int .u32 c0, .int .u32 c1, .int .i64 c2, .int .i64 c3, .int .i64 c4, .int .u32 c5, .int .u32 (p:Int), .int .i64 2, .int .u32 c8, .bool c9, .int .u32 c10]) (fun w'=>w'=_) (by kernel_rfl) (by kernel_rfl) (by kernel_rfl) rfl (fun w' hw=>by rw [hw];exact hB.ext (qB _ _).drew) rfl ?_
   repeat'(first
    |refine rZ ?_
    |(refine' oR _ (by decide) (by decide) (by decide) (fun wq hwq K hK=>?_) ?_ ?_;rotate_left 1;(· have d6:=hwq.cell 6;have d8:=hwq.cell 8;go_wp2_with(fail);all_goals exact hK);rfl)
    |fail)
   refine oS (fun wx hwx K hK=>?_)
   have hbd:=fun B=>G7 hwx B
   replace hB:=hB.ext (hbd _)
   replace hM:=hM.kept (Cx (hbd _) none) (Or.inr (by simp [Value.ownBlock]))
   replace hgm:=grownBy_trans hgm (Cx (hbd _) (Value.slice (some ⟨g,0,none⟩) m.length cap).ownBlock)
   clear hwx hbd
   have cx:=hcell _ _ hM (by simp) 0 (by decide)
   have fx:=hM.frozenAt (p+0)
   try simp only [Nat.add_zero] at cx fx
   go_wp2_with(fail)
   have hst:=hM.stored (p+0) (.int .u8 (c8%256))
   try simp only [Nat.add_zero] at hst
   replace hM:=hst.1
   replace hgm:=grownBy_trans hgm hst.2
   replace hB:=hB.farAt (b:=g) (off:=p+0) (Nat.ne_of_gt hgl) (.int .u8 (c8%256))
   try simp only [Nat.add_zero] at hB
   refine hK undef _ (fun _=>True) trivial ?_
   simp only [Act.put,sA,sS,sZ]
   clear hK K cx fx hst
   refine Aj ?_
   intro wz hz
   rw [←hz] at hM hgm hB
   clear hz
   try go_simp
   try rw [←List.map_set] at hM
   go_wp2_with(fail)
   rw [rounds_succ]
   go_upto_region 7 with(fail)
   try go_simp
   refine Db 8059 132 8191 [0,1,2,3,4,5,6,7,8,9,10,11,12,13] (fun w'=>Blk w' w.heap.size 65 #[.int .u32 c0, .int .u32 c1, .int .i64 c2, .int .i64 c3, .int .i64 c4, .int .u32 c5, .int .u32 (p:Int), .int .i64 2, .int .u32 c8, .bool c9, .int .u32 c10]) (fun w'=>w'=_) (by kernel_rfl) (by kernel_rfl) (by kernel_rfl) rfl (fun w' hw=>by rw [hw];exact hB.ext (qB _ _).drew) rfl ?_
   repeat'(first
    |refine rZ ?_
    |(refine' oR _ (by decide) (by decide) (by decide) (fun wq hwq K hK=>?_) ?_ ?_;rotate_left 1;(· have d6:=hwq.cell 6;have d8:=hwq.cell 8;go_wp2_with(fail);all_goals exact hK);rfl)
    |fail)
   refine oS (fun wx hwx K hK=>?_)
   have hbd:=fun B=>G7 hwx B
   replace hB:=hB.ext (hbd _)
   replace hM:=hM.kept (Cx (hbd _) none) (Or.inr (by simp [Value.ownBlock]))
   replace hgm:=grownBy_trans hgm (Cx (hbd _) (Value.slice (some ⟨g,0,none⟩) m.length cap).ownBlock)
   clear hwx hbd
   have cx:=hcell _ _ hM (by simp) 1 (by decide)
   have fx:=hM.frozenAt (p+1)
   try simp only [Nat.add_zero] at cx fx
   go_wp2_with(fail)
   have hst:=hM.stored (p+1) (.int .u8 (c8 / 256%256))
   try simp only [Nat.add_zero] at hst
   replace hM:=hst.1
   replace hgm:=grownBy_trans hgm hst.2
   replace hB:=hB.farAt (b:=g) (off:=p+1) (Nat.ne_of_gt hgl) (.int .u8 (c8 / 256%256))
   try simp only [Nat.add_zero] at hB
   refine hK undef _ (fun _=>True) trivial ?_
   simp only [Act.put,sA,sS,sZ]
   clear hK K cx fx hst
   refine Aj ?_
   intro wz hz
   rw [←hz] at hM hgm hB
   clear hz
   try go_simp
   try rw [←List.map_set] at hM
   go_wp2_with(fail)
   rw [rounds_succ]
   go_wp2_with(fail)
   (try simp only [Exit.inBlock,Exit.then])
   first | (refine bodyPost_ret (results_none rfl _ _ _) rfl ?_) | (refine bodyPost_end (results_none rfl _ _ _) rfl ?_)
   refine⟨rfl,_,hga,hHa,?_,hgm⟩
   rw [←HX.out]
   exact hM
  ·obtain⟨q0,q1,q2⟩:0≤c6∧c6+4≤m.length∧c6≤4294967291:=hf.resolve_left (by decide)
   obtain⟨p,rfl⟩:=qH q0
   obtain⟨g,cap',hv,hgb,hgl⟩:=hown.form (by omega)
   injection hv with hA hn' hcap
   subst hA
   have hcell:=fun(W:World) (l:List Int) (hW:W.ownsRow base 5 1 (.slice (some ⟨g,0,none⟩) m.length cap) m.length (l.map (.int .u8))) (hl:l.length=m.length) k (hk:k<4)=>(hW.cellAt (p+k) (by omega)).trans (show(l.map (Value.int .u8))[p+k]? = some (.int .u8 (l.getD (p+k) 0)) by rw [List.getElem?_map,qI (by omega),List.getD_eq_getElem?_getD,qI (by omega)];rfl)
   clear hown
   go_upto_region 5 with(fail)
   refine wp_loop_rounds 5 ?_
   rw [rounds_succ]
   go_upto_region 7 with(fail)
   try go_simp
   refine Db 8059 132 8191 [0,1,2,3,4,5,6,7,8,9,10,11,12,13] (fun w'=>Blk w' w.heap.size 65 #[.int .u32 c0, .int .u32 c1, .int .i64 c2, .int .i64 c3, .int .i64 c4, .int .u32 c5, .int .u32 (p:Int), .int .i64 4, .int .u32 c8, .bool c9, .int .u32 c10]) (fun w'=>w'=_) (by kernel_rfl) (by kernel_rfl) (by kernel_rfl) rfl (fun w' hw=>by rw [hw];exact hB.ext (qB _ _).drew) rfl ?_
   repeat'(first
    |refine rZ ?_
    |(refine' oR _ (by decide) (by decide) (by decide) (fun wq hwq K hK=>?_) ?_ ?_;rotate_left 1;(· have d6:=hwq.cell 6;have d8:=hwq.cell 8;go_wp2_with(fail);all_goals exact hK);rfl)
    |fail)
   refine oS (fun wx hwx K hK=>?_)
   have hbd:=fun B=>G7 hwx B
   replace hB:=hB.ext (hbd _)
   replace hM:=hM.kept (Cx (hbd _) none) (Or.inr (by simp [Value.ownBlock]))
   replace hgm:=grownBy_trans hgm (Cx (hbd _) (Value.slice (some ⟨g,0,none⟩) m.length cap).ownBlock)
   clear hwx hbd
   have cx:=hcell _ _ hM (by simp) 0 (by decide)
   have fx:=hM.frozenAt (p+0)
   try simp only [Nat.add_zero] at cx fx
   go_wp2_with(fail)
   have hst:=hM.stored (p+0) (.int .u8 (c8%256))
   try simp only [Nat.add_zero] at hst
   replace hM:=hst.1
   replace hgm:=grownBy_trans hgm hst.2
   replace hB:=hB.farAt (b:=g) (off:=p+0) (Nat.ne_of_gt hgl) (.int .u8 (c8%256))
   try simp only [Nat.add_zero] at hB
   refine hK undef _ (fun _=>True) trivial ?_
   simp only [Act.put,sA,sS,sZ]
   clear hK K cx fx hst
   refine Aj ?_
   intro wz hz
   rw [←hz] at hM hgm hB
   clear hz
   try go_simp
   try rw [←List.map_set] at hM
   go_wp2_with(fail)
   rw [rounds_succ]
   go_upto_region 7 with(fail)
   try go_simp
   refine Db 8059 132 8191 [0,1,2,3,4,5,6,7,8,9,10,11,12,13] (fun w'=>Blk w' w.heap.size 65 #[.int .u32 c0, .int .u32 c1, .int .i64 c2, .int .i64 c3, .int .i64 c4, .int .u32 c5, .int .u32 (p:Int), .int .i64 4, .int .u32 c8, .bool c9, .int .u32 c10]) (fun w'=>w'=_) (by kernel_rfl) (by kernel_rfl) (by kernel_rfl) rfl (fun w' hw=>by rw [hw];exact hB.ext (qB _ _).drew) rfl ?_
   repeat'(first
    |refine rZ ?_
    |(refine' oR _ (by decide) (by decide) (by decide) (fun wq hwq K hK=>?_) ?_ ?_;rotate_left 1;(· have d6:=hwq.cell 6;have d8:=hwq.cell 8;go_wp2_with(fail);all_goals exact hK);rfl)
    |fail)
   refine oS (fun wx hwx K hK=>?_)
   have hbd:=fun B=>G7 hwx B
   replace hB:=hB.ext (hbd _)
   replace hM:=hM.kept (Cx (hbd _) none) (Or.inr (by simp [Value.ownBlock]))
   replace hgm:=grownBy_trans hgm (Cx (hbd _) (Value.slice (some ⟨g,0,none⟩) m.length cap).ownBlock)
   clear hwx hbd
   have cx:=hcell _ _ hM (by simp) 1 (by decide)
   have fx:=hM.frozenAt (p+1)
   try simp only [Nat.add_zero] at cx fx
   go_wp2_with(fail)
   have hst:=hM.stored (p+1) (.int .u8 (c8 / 256%256))
   try simp only [Nat.add_zero] at hst
   replace hM:=hst.1
   replace hgm:=grownBy_trans hgm hst.2
   replace hB:=hB.farAt (b:=g) (off:=p+1) (Nat.ne_of_gt hgl) (.int .u8 (c8 / 256%256))
   try simp only [Nat.add_zero] at hB
   refine hK undef _ (fun _=>True) trivial ?_
   simp only [Act.put,sA,sS,sZ]
   clear hK K cx fx hst
   refine Aj ?_
   intro wz hz
   rw [←hz] at hM hgm hB
   clear hz
   try go_simp
   try rw [←List.map_set] at hM
   go_wp2_with(fail)
   rw [rounds_succ]
   go_upto_region 7 with(fail)
   try go_simp
   refine Db 8059 132 8191 [0,1,2,3,4,5,6,7,8,9,10,11,12,13] (fun w'=>Blk w' w.heap.size 65 #[.int .u32 c0, .int .u32 c1, .int .i64 c2, .int .i64 c3, .int .i64 c4, .int .u32 c5, .int .u32 (p:Int), .int .i64 4, .int .u32 c8, .bool c9, .int .u32 c10]) (fun w'=>w'=_) (by kernel_rfl) (by kernel_rfl) (by kernel_rfl) rfl (fun w' hw=>by rw [hw];exact hB.ext (qB _ _).drew) rfl ?_
   repeat'(first
    |refine rZ ?_
    |(refine' oR _ (by decide) (by decide) (by decide) (fun wq hwq K hK=>?_) ?_ ?_;rotate_left 1;(· have d6:=hwq.cell 6;have d8:=hwq.cell 8;go_wp2_with(fail);all_goals exact hK);rfl)
    |fail)
   refine oS (fun wx hwx K hK=>?_)
   have hbd:=fun B=>G7 hwx B
   replace hB:=hB.ext (hbd _)
   replace hM:=hM.kept (Cx (hbd _) none) (Or.inr (by simp [Value.ownBlock]))
   replace hgm:=grownBy_trans hgm (Cx (hbd _) (Value.slice (some ⟨g,0,none⟩) m.length cap).ownBlock)
   clear hwx hbd
   have cx:=hcell _ _ hM (by simp) 2 (by decide)
   have fx:=hM.frozenAt (p+2)
   try simp only [Nat.add_zero] at cx fx
   go_wp2_with(fail)
   have hst:=hM.stored (p+2) (.int .u8 (c8 / 65536%256))
   try simp only [Nat.add_zero] at hst
   replace hM:=hst.1
   replace hgm:=grownBy_trans hgm hst.2
   replace hB:=hB.farAt (b:=g) (off:=p+2) (Nat.ne_of_gt hgl) (.int .u8 (c8 / 65536%256))
   try simp only [Nat.add_zero] at hB
   refine hK undef _ (fun _=>True) trivial ?_
   simp only [Act.put,sA,sS,sZ]
   clear hK K cx fx hst
   refine Aj ?_
   intro wz hz
   rw [←hz] at hM hgm hB
   clear hz
   try go_simp
   try rw [←List.map_set] at hM
   go_wp2_with(fail)
   rw [rounds_succ]
   go_upto_region 7 with(fail)
   try go_simp
   refine Db 8059 132 8191 [0,1,2,3,4,5,6,7,8,9,10,11,12,13] (fun w'=>Blk w' w.heap.size 65 #[.int .u32 c0, .int .u32 c1, .int .i64 c2, .int .i64 c3, .int .i64 c4, .int .u32 c5, .int .u32 (p:Int), .int .i64 4, .int .u32 c8, .bool c9, .int .u32 c10]) (fun w'=>w'=_) (by kernel_rfl) (by kernel_rfl) (by kernel_rfl) rfl (fun w' hw=>by rw [hw];exact hB.ext (qB _ _).drew) rfl ?_
   repeat'(first
    |refine rZ ?_
    |(refine' oR _ (by decide) (by decide) (by decide) (fun wq hwq K hK=>?_) ?_ ?_;rotate_left 1;(· have d6:=hwq.cell 6;have d8:=hwq.cell 8;go_wp2_with(fail);all_goals exact hK);rfl)
    |fail)
   refine oS (fun wx hwx K hK=>?_)
   have hbd:=fun B=>G7 hwx B
   replace hB:=hB.ext (hbd _)
   replace hM:=hM.kept (Cx (hbd _) none) (Or.inr (by simp [Value.ownBlock]))
   replace hgm:=grownBy_trans hgm (Cx (hbd _) (Value.slice (some ⟨g,0,none⟩) m.length cap).ownBlock)
   clear hwx hbd
   have cx:=hcell _ _ hM (by simp) 3 (by decide)
   have fx:=hM.frozenAt (p+3)
   try simp only [Nat.add_zero] at cx fx
   go_wp2_with(fail)
   have hst:=hM.stored (p+3) (.int .u8 (c8 / 16777216))
   try simp only [Nat.add_zero] at hst
   replace hM:=hst.1
   replace hgm:=grownBy_trans hgm hst.2
   replace hB:=hB.farAt (b:=g) (off:=p+3) (Nat.ne_of_gt hgl) (.int .u8 (c8 / 16777216))
   try simp only [Nat.add_zero] at hB
   refine hK undef _ (fun _=>True) trivial ?_
   simp only [Act.put,sA,sS,sZ]
   clear hK K cx fx hst
   refine Aj ?_
   intro wz hz
   rw [←hz] at hM hgm hB
   clear hz
   try go_simp
   try rw [←List.map_set] at hM
   go_wp2_with(fail)
   rw [rounds_succ]
   go_wp2_with(fail)
   (try simp only [Exit.inBlock,Exit.then])
   first | (refine bodyPost_ret (results_none rfl _ _ _) rfl ?_) | (refine bodyPost_end (results_none rfl _ _ _) rfl ?_)
   refine⟨rfl,_,hga,hHa,?_,hgm⟩
   rw [←HX.out]
   have ex:c8 / 16777216%256=c8 / 16777216:=by omega
   have e4:C4 ⟨c0,c1,c2,c3,c4,c5,(p:Int),4,c8,c9,c10⟩ m=(((m.set p (c8%256)).set (p+1) (c8 / 256%256)).set (p+2) (c8 / 65536%256)).set (p+3) (c8 / 16777216):=by
    show Adi m p c8=_
    unfold Adi Abj Zd
    rw [ex]
   rw [e4]
   exact hM
structure Two (x y:Option Nat) (w w':World):Prop where
 os:w'.os=w.os
 tape:w'.tape=w.tape
 output:w'.output=w.output
 size:w.heap.size≤w'.heap.size
 block:∀ k,k<w.heap.size→some k≠x→some k≠y→w'.heap[k]? = w.heap[k]?
theorem Two.of {x y:Option Nat} {w w1 w':World} (h:w.grownBy w1 x) (k:w1.grownBy w' y):Two x y w w':=
 ⟨k.os.trans h.os,k.tape.trans h.tape,k.output.trans h.output,qD h.size k.size,fun j hj h1 h2=>(k.block j (qE hj h.size) h2).trans (h.block j hj h1)⟩
theorem Two.refl (x y:Option Nat) (w:World):Two x y w w:=⟨rfl,rfl,rfl,qC _,fun _ _ _ _=>rfl⟩
theorem Two.trans {x y:Option Nat} {w w1 w':World} (h:Two x y w w1) (k:Two x y w1 w'):Two x y w w':=
 ⟨k.os.trans h.os,k.tape.trans h.tape,k.output.trans h.output,qD h.size k.size,fun j hj h1 h2=>(k.block j (qE hj h.size) h1 h2).trans (h.block j hj h1 h2)⟩
theorem Two.grown {x y:Option Nat} {w w1 w':World} (h:Two x y w w1) {r:Option Nat} (k:w1.grownBy w' r) (hr:∀ j,r=some j→w.heap.size≤j):Two x y w w':=
 ⟨k.os.trans h.os,k.tape.trans h.tape,k.output.trans h.output,qD h.size k.size,fun j hj h1 h2=>(k.block j (qE hj h.size) (fun e=>by have:=hr j e.symm;omega)).trans (h.block j hj h1 h2)⟩
theorem Two.after {x y:Option Nat} {w w1 w':World} {B:Nat} (hb:Below B w w1) (hB:w.heap.size≤B) (k:Two x y w1 w'):Two x y w w':=
 ⟨k.os.trans hb.os,k.tape.trans hb.tape,k.output.trans hb.output,qD hb.size k.size,fun j hj h1 h2=>(k.block j (qE hj hb.size) h1 h2).trans (hb.block j (by omega))⟩
theorem Two.blk {x y:Option Nat} {w w':World} {g:Nat} {t:TypeId} {cs:Array Value} (k:Two x y w w') (h:Blk w g t cs) (h1:some g≠x) (h2:some g≠y):Blk w' g t cs:=(k.block g h.lt h1 h2).trans h
theorem Two.below {x y:Option Nat} {w0 w w':World} {B:Nat} (hb:Below B w0 w) (k:Two x y w w') (hB:B≤w.heap.size) (h1:∀ j,x=some j→B≤j) (h2:∀ j,y=some j→B≤j):Below B w0 w':=
 ⟨k.os.trans hb.os,k.tape.trans hb.tape,k.output.trans hb.output,qD hb.size k.size,fun j hj=>(k.block j (by omega) (fun e=>by have:=h1 j e.symm;omega) (fun e=>by have:=h2 j e.symm;omega)).trans (hb.block j hj)⟩
theorem Ai8 {h:Aq} {m:List Int} {i:Ins} {cause:Int} (hf:Dn m h.pc=(i,cause)):K3 h m=if cause=0 then Cl i h m else By h.pc cause:=by
 unfold K3
 rw [hf]
theorem Cj {w w':World} {base:Nat} {e:TypeId} {size:Nat} {v:Value} {n:Nat} {xs:List Value} (h:w.ownsRow base e size v n xs) (hb:Below w.heap.size w w'):w'.ownsRow base e size v n xs:=by
 rcases hv:v.ownBlock with _ | k
 ·exact h.kept (Cx hb none) (Or.inl hv)
 ·exact h.kept (Cx hb none) (Or.inr (by rw [hv];simp))
theorem cells_one (c:Com):c.cells.all (·.oneCell')=true:=Dl
section
variable {P:Program} {fn:Func} {tmps:Array Value} {w:World} {ad ad2:Addr} {v u x y z:Value} {p q a b c:Tmp} {ty ty2:TypeId}
end
theorem Lp {w:World} {base base':Nat} {e:TypeId} {size:Nat} {v:Value} {n:Nat} {xs:List Value} (h:w.ownsRow base e size v n xs) (hb:base'≤base):w.ownsRow base' e size v n xs:=
 ⟨h.1,h.2.imp id fun⟨g,cap,cur,e,l,r⟩=>⟨g,cap,cur,e,qD hb l,r⟩⟩
def Eq:Aq:=⟨List.replicate 32 0,0,0,0⟩
def Aml:Com:=⟨0,0,0,0,0,0,0,0,0,false,0⟩
theorem Hi:Eq.regs.length=32:=rfl
theorem Jr {w:World} {g:Nat} {h:Aq} (hl:h.regs.length=32) (hB:Blk w g 30 h.cells):(loadVar 30 ⟨g,0,none⟩).run Tryz.prog w = .ok (.agg h.cells) w:=by
 rw [Ey w g 0 30 30 h.cells h.cells.size _ hB Tryz.underlying30 rfl (Ca hl) (by omega),I2 _ _ rfl]
theorem Ko:Tryz.prog.built 30 []=some Eq.cells:=by kernel_rfl
end Go.Proofs.YtapgojgcmlnbgaaGreatDoor
namespace Go.Proofs.YtapgojgcmlnbgaaGreatDoor
open Go
def Ajf:Option IntKind→Value→Prop
 |none,v=>∃ b,v = .bool b
 |some q,v=>∃ n,v = .int q n∧(Lit.int q n).wf=true
def Fits:List (Option IntKind)→List Value→Prop
 |[],[]=>True
 |k::ks,v::vs=>Ajf k v∧Fits ks vs
 |_,_=>False
theorem Fits.length:∀ {ks:List (Option IntKind)} {vs:List Value},Fits ks vs→vs.length=ks.length
 |[],[],_=>rfl
 |_::_,_::_,⟨_,h⟩=>by simp [h.length]
theorem Fits.drop:∀ {ks:List (Option IntKind)} {vs:List Value},Fits ks vs→∀ n,Fits (ks.drop n) (vs.drop n)
 |[],[],_,n=>by simp [Fits]
 |_::_,_::_,h,0=>h
 |_::_,_::_,⟨_,h⟩,n+1=>h.drop n
theorem Fits.take:∀ {ks:List (Option IntKind)} {vs:List Value},Fits ks vs→∀ n,Fits (ks.take n) (vs.take n)
 |[],[],_,n=>by simp [Fits]
 |_::_,_::_,_,0=>by simp [Fits]
 |_::_,_::_,⟨h0,h⟩,n+1=>⟨h0,h.take n⟩
theorem Fits.append:∀ {ks ls:List (Option IntKind)} {vs us:List Value},Fits ks vs→Fits ls us→Fits (ks++ls) (vs++us)
 |[],_,[],_,_,h=>h
 |_::_,_,_::_,_,⟨h0,h⟩,h'=>⟨h0,h.append h'⟩
theorem Fits.mk {ks:List (Option IntKind)}:∀ {vs:List Value},vs.length=ks.length→(∀ (i:Nat) k v,ks[i]? = some k→vs[i]? = some v→Ajf k v)→Fits ks vs:=by
 induction ks with
 |nil=>intro vs hl _;cases vs;exact trivial;cases hl
 |cons k ks ih=>
  intro vs hl h
  cases vs with
  |nil=>cases hl
  |cons v vs=>exact⟨h 0 k v rfl rfl,ih (by simpa using hl) (fun i k' v' h1 h2=>h (i+1) k' v' h1 h2)⟩
theorem Fits.get {ks:List (Option IntKind)}:∀ {vs:List Value},Fits ks vs→∀ (i:Nat) k v,ks[i]? = some k→vs[i]? = some v→Ajf k v:=by
 induction ks with
 |nil=>intro vs h i k v hk;cases hk
 |cons k ks ih=>
  intro vs h i k' v' hk hv
  cases vs with
  |nil=>cases hv
  |cons v vs=>
   obtain⟨h0,h1⟩:=h
   cases i with
   |zero=>simp at hk hv;subst hk hv;exact h0
   |succ i=>exact ih h1 i k' v' hk hv
theorem Fits.set {ks:List (Option IntKind)} {vs:List Value} (h:Fits ks vs) (i:Nat) (k:Option IntKind) (v:Value) (hk:ks[i]? = some k) (hv:Ajf k v):Fits ks (vs.set i v):=
 Fits.mk (by simp [h.length]) fun j k' v' h1 h2=>by
  by_cases hij:i=j
  ·subst hij
   rw [hk] at h1
   cases h1
   have:i<vs.length:=by
    have:=(qJ.1 h2).1
    simpa using this
   rw [List.getElem?_set_self this] at h2
   cases h2
   exact hv
  ·rw [List.getElem?_set_ne hij] at h2
   exact h.get j k' v' h1 h2
section
variable (P:Program)
end
end Go.Proofs.YtapgojgcmlnbgaaGreatDoor
namespace Go.Proofs.YtapgojgcmlnbgaaGreatDoor
open Go.RowKit
theorem M2 (h:Aq):h.cells.toList=h.regs.map (Value.int .u32)++[.int .u32 h.pc, .int .i64 h.state, .int .i64 h.cause]:=by
 unfold Aq.cells
 simp
theorem Aaz:Eq.Wf:=⟨rfl,fun x hx=>by unfold Eq at hx;simp at hx;omega,by decide,by decide⟩
def Ec (l:List Com):List Value:=l.flatMap fun c=>c.cells.toList
theorem Tq (c:Com):c.cells.toList.length=11:=rfl
theorem Oa:∀ l:List Com,(Ec l).length=l.length*11
 |[]=>rfl
 |c::l=>by
  have ih:=Oa l
  unfold Ec at ih ⊢
  rw [List.flatMap_cons,qO,ih,Tq,List.length_cons]
  omega
theorem Qg (l k:List Com):Ec (l++k)=Ec l++Ec k:=by unfold Ec;rw [List.flatMap_append]
theorem Ob (c:Com):Ec [c]=c.cells.toList:=by unfold Ec;simp
theorem Aac:∀ (l:List Com) (k:Nat) (c:Com),l[k]? = some c→((Ec l).drop (k*11)).take 11=c.cells.toList
 |[],_,_,h=>by cases h
 |d::l,0,c,h=>by
  cases h
  show((Ec (d::l)).drop 0).take 11=_
  have e:Ec (d::l)=d.cells.toList++Ec l:=by unfold Ec;rw [List.flatMap_cons]
  rw [e,List.drop_zero]
  exact List.take_left' (Tq d)
 |d::l,k+1,c,h=>by
  have e:Ec (d::l)=d.cells.toList++Ec l:=by unfold Ec;rw [List.flatMap_cons]
  rw [e,show(k+1)*11=11+k*11 by omega,←List.drop_drop,List.drop_left' (Tq d)]
  exact Aac l k c (by simpa using h)
theorem Oz (l:List Com):∀ u∈Ec l,u.oneCell'=true:=by
 intro u hu
 unfold Ec at hu
 obtain⟨c,_,hc⟩:=List.mem_flatMap.1 hu
 have:=cells_one c
 rw [Array.all_eq_true_iff_forall_mem] at this
 exact this u (by simpa using hc)
def Dq (w:World) (B:Nat) (A:Option Addr) (l:List Com):Prop:=
 l≠[]→∃ g cur,A=some ⟨g,0,none⟩∧g<B∧Blk w g 65 cur∧l.length*11≤cur.size∧cur.toList.take (l.length*11)=Ec l
theorem Dq.below {w w':World} {B:Nat} {A:Option Addr} {l:List Com} (h:Dq w B A l) (hb:Below B w w'):Dq w' B A l:=fun hne=>by
 obtain⟨g,cur,h1,h2,h3,h4,h5⟩:=h hne
 exact⟨g,cur,h1,h2,h3.below hb h2,h4,h5⟩
theorem Dq.mono {w:World} {B B':Nat} {A:Option Addr} {l:List Com} (h:Dq w B A l) (hB:B≤B'):Dq w B' A l:=fun hne=>by
 obtain⟨g,cur,h1,h2,h3,h4,h5⟩:=h hne
 exact⟨g,cur,h1,qE h2 hB,h3,h4,h5⟩
theorem Dq.own {w:World} {base:Nat} {A:Option Addr} {cap n:Nat} {l:List Com} (h:w.ownsRow base 65 11 (.slice A n cap) n (Ec l)):Dq w w.heap.size A l:=fun hne=>by
 have hn:n=l.length:=by have:=h.1;rw [Oa] at this;omega
 have h0:0<l.length:=List.length_pos_iff.2 hne
 subst hn
 rcases h.2 with⟨_,h2⟩ | ⟨g,c,cur,hv,_,hh,hc,_,hs,ht⟩
 ·omega
 ·injection hv with hv1 hv2 hv3
  subst hv1
  have hB:Blk w g 65 cur:=hh
  exact⟨g,cur,rfl,hB.lt,hB,by rw [hs];exact Nat.mul_le_mul_right 11 hc,ht⟩
theorem Dq.len {w:World} {base:Nat} {A:Option Addr} {cap n:Nat} {l:List Com} (h:w.ownsRow base 65 11 (.slice A n cap) n (Ec l)):n=l.length:=by
 have:=h.1;rw [Oa] at this;omega
theorem Dq.cells {w:World} {B:Nat} {A:Option Addr} {l:List Com} (h:Dq w B A l):∀ ad,A=some ad→∀ j u,(Ec l)[j]? = some u→w.cell? (ad.add j)=some u:=by
 intro ad hA j u hu
 have hne:l≠[]:=by intro e;subst e;cases hu
 obtain⟨g,cur,h1,h2,h3,h4,h5⟩:=h hne
 rw [h1] at hA
 cases hA
 rw [Addr.add_lit,Nat.zero_add,h3.cell,←Array.getElem?_toList,←hu,←h5,List.getElem?_take]
 rw [if_pos]
 have:=(qJ.1 hu).1
 rw [Oa] at this
 exact this
theorem Dq.at_ {w:World} {B:Nat} {A:Option Addr} {l:List Com} (h:Dq w B A l) {k:Nat} (hk:k<l.length) :
  ∃ g cur,A=some ⟨g,0,none⟩∧g<B∧Blk w g 65 cur∧k*11+11≤cur.size∧cur.extract (k*11) (k*11+11)=(l[k]'hk).cells:=by
 have hne:l≠[]:=by intro e;subst e;simp at hk
 obtain⟨g,cur,h1,h2,h3,h4,h5⟩:=h hne
 have hk11:k*11+11≤l.length*11:=by omega
 refine⟨g,cur,h1,h2,h3,by omega,?_⟩
 apply Array.toList_inj.1
 rw [Array.toList_extract,List.extract_eq_take_drop,show k*11+11 - k*11=11 by omega,←Aac l k _ (qI hk),←h5,List.drop_take,List.take_take]
 congr 1
 omega
theorem Js (w:World) (cs:Array Value) (t:TypeId):∀ ad,some (⟨w.heap.size,0,none⟩:Addr)=some ad→∀ j v,cs.toList[j]? = some v→(w.alloc (.cells cs t)).cell? (ad.add j)=some v:=by
 intro ad h j v hj
 cases h
 rw [Addr.add_lit,Nat.zero_add,World.cell?_alloc_new]
 simpa using hj
theorem Xa:(Tryz.prog.info? 65).map (fun i=>(i.zero,i.size,i.bytes))=some (some (.agg Aml.cells),11,64):=by kernel_rfl
theorem Aab:(Tryz.prog.info? 65).map (·.size)=some 11:=by kernel_rfl
end Go.Proofs.YtapgojgcmlnbgaaGreatDoor
namespace Go.Proofs.YtapgojgcmlnbgaaGreatDoor
open Go Go.RowKit
open Go.Lib (decDigits decDigits_length)
theorem Pt (s:List UInt8) (c:Com) (l:List Com):Kv s (c::l)=Kv (if c.out=true then s++32::decDigits c.told.toNat else s) l:=rfl
theorem Agn (n:Int) (l k:List Int):Dz (Dz [] (n::l)) k=32::Dz (decDigits n.toNat) (l++k):=by
 rw [S9,List.cons_append,Lt]
 exact Vs [32] (l++k) (decDigits n.toNat)
theorem X5:∀ (l:List Com) (s:List UInt8),(∀ c∈l,c.Wf)→(Kv s l).length≤s.length+21*l.length
 |[],s,_=>qC _
 |c::l,s,h=>by
  have h1:=(h c List.mem_cons_self)
  rw [Pt]
  have ih:=X5 l (if c.out=true then s++32::decDigits c.told.toNat else s) (fun x hx=>h x (qP _ hx))
  have h3:=Eo c.told.toNat (by have:=h1.told;omega)
  rw [←decDigits_length] at h3
  by_cases ho:c.out=true
  ·rw [if_pos ho] at ih ⊢
   simp only [qO,List.length_cons] at ih ⊢;omega
  ·rw [if_neg ho] at ih ⊢
   simp only [List.length_cons];omega
theorem Aiv {B:Nat} (A:Option Addr) (n cap:Nat) (cs:Array Value) (e:Int) (w:World) (V:Ig B w) (hB:B≤w.heap.size) (he0:0<e) (he1:e≤1000) :
  Calls Tryz.prog 31 #[.slice A n cap, .agg cs, .int .i64 e] w fun r w'=>r = .returned (sV (Dz Yl [e]))∧Below w.heap.size w w':=by
 have CI:=qA (fun W A (hW:Below w.heap.size w W) (hA:Ar W W.heap.size .i64 A [e])=>N2 Yl A [e] 1 W (V.ext (hW.mono hB)) (qD hB hW.size) (by simp) (by simp [Yl]) (by simp;omega) hA)
 have e1:(e != 0)=true:=by simp;omega
 go_enter Tryz.func31,Tryz.ntmps31
 go_wp2_with(go_at_call 49;(refine(CI.out _ _ (((qB _ _).alloc (qC _) _).alloc (by simp) _) (by exact Ct [e] (Blk.new2 w _ _ _))).mono ?_);rintro e w5 ⟨rfl,hb5⟩;have hq5:=(((qB _ _).alloc (qC w.heap.size) _).alloc (by simp) _).trans (hb5.mono (by simp;omega)))
 go_ret
 exact⟨rfl,hq5⟩
theorem Aka {B:Nat} (A:Option Addr) (l:List Com) (cap:Nat) (h:Aq) (w:World) (V:Ig B w) (hB:B≤w.heap.size) (hl:l.length≤1000000) (hw:∀ c∈l,c.Wf) (hh:h.Wf) (hs0:0≤h.state∧h.state≤1000) (hc0:0≤h.cause∧h.cause≤1000) (hA:Dq w w.heap.size A l) :
  Calls Tryz.prog 31 #[.slice A l.length cap, .agg h.cells, .int .i64 0] w fun r w'=>r = .returned (sV (Kv (Dz (decDigits l.length) [h.state,h.cause,h.pc]) l))∧Below w.heap.size w w':=by
 obtain⟨X,hX⟩:∃ X,Kv (Dz (decDigits l.length) [h.state,h.cause,h.pc]) l=X:=⟨_,rfl⟩
 rw [hX]
 obtain⟨p1,p2,p3⟩:=Aq.cells_pc hh.len
 have hp0:=hh.pc0
 have hp1:=hh.pc1
 have HX:=qA hX
 have HW:=qA hw
 have HA:=qA hA
 clear hX hw hA
 go_enter Tryz.func31,Tryz.ntmps31
 go_upto_region 3 with(fail)
 try go_simp
 refine A1 fun W1 hq=>?_
 have hB1:Blk W1 w.heap.size 30 h.cells:=by rw [hq];exact Blk.new w _ _
 have hb1:Below w.heap.size w W1:=by rw [hq];exact(qB _ _).alloc (qC _) _
 clear hq
 have c0:W1.cell? ⟨w.heap.size,33,none⟩=some (.int .i64 h.state):=(hB1.cell 33).trans p2
 have c1:W1.cell? ⟨w.heap.size,34,none⟩=some (.int .i64 h.cause):=(hB1.cell 34).trans p3
 have c2:W1.cell? ⟨w.heap.size,32,none⟩=some (.int .u32 h.pc):=(hB1.cell 32).trans p1
 have HSK:=qA (fun w' (q:Below W1.heap.size W1 w')=>(⟨q,((hB1.ext q).cell 33).trans p2,((hB1.ext q).cell 34).trans p3,((hB1.ext q).cell 32).trans p1⟩:Below W1.heap.size W1 w'∧w'.cell? ⟨w.heap.size,33,none⟩=some (.int .i64 h.state)∧w'.cell? ⟨w.heap.size,34,none⟩=some (.int .i64 h.cause)∧w'.cell? ⟨w.heap.size,32,none⟩=some (.int .u32 h.pc)))
 have CI:=qA (fun W A (hW:Below W1.heap.size W1 W) (hA:Ar W W.heap.size .i64 A [(l.length:Int),h.state,h.cause])=>N2 [] A [(l.length:Int),h.state,h.cause] 3 W (V.ext ((hb1.trans (hW.mono hb1.size)).mono hB)) (qD hB (qD hb1.size hW.size)) (by simp) (by simp) (by simp;omega) hA)
 have CU:=qA (fun W A s (hs:s.length≤1000) (hW:Below W1.heap.size W1 W) (hA:Ar W W.heap.size .u32 A [h.pc])=>Vt s A [h.pc] 1 W (V.ext ((hb1.trans (hW.mono hb1.size)).mono hB)) (qD hB (qD hb1.size hW.size)) (by simp) (by omega) (by simp;omega) hA)
 have CT:=qA (fun W=>Aiw (Dz (decDigits l.length) [h.state,h.cause,h.pc]) W)
 have hlen:=(I9 [(l.length:Int),h.state,h.cause] [] (by simp;omega)).2
 have hL:(Dz [] [(l.length:Int),h.state,h.cause]).length≤1000:=by simp only [List.length_cons,List.length_nil] at hlen;omega
 have htr:Dz (Dz [] [(l.length:Int),h.state,h.cause]) [h.pc]=32::Dz (decDigits l.length) [h.state,h.cause,h.pc]:=Agn _ _ _
 have hlen2:=(I9 [h.state,h.cause,h.pc] (decDigits l.length) (by simp;omega)).2
 have h20:=Eo l.length (by omega)
 rw [←decDigits_length] at h20
 have hL2:(Dz (decDigits l.length) [h.state,h.cause,h.pc]).length≤1000:=by simp only [List.length_cons,List.length_nil] at hlen2;omega
 have HTR:=qA htr
 have HP:=qA (qL p1 (qL p2 p3))
 clear hlen hlen2 htr p1 p2 p3
 have zB:=hB1.lt
 go_region_held3 (fun w'=>Below W1.heap.size W1 w'∧w'.cell? ⟨w.heap.size,33,none⟩=some (.int .i64 h.state)∧w'.cell? ⟨w.heap.size,34,none⟩=some (.int .i64 h.cause)∧w'.cell? ⟨w.heap.size,32,none⟩=some (.int .u32 h.pc))
   (first
    |(refine HSK.out _ ?_;(repeat (first | exact qB _ _ | exact hq5 | refine Below.drew ?_ | refine Below.alloc ?_ (by first | (simp;done) | exact hq5.size | (simp;exact hq5.size)) _))))
   ((first
    |(go_at_call 49;refine(CI.out _ _ (by(repeat (first | exact qB _ _ | refine Below.drew ?_ | refine Below.alloc ?_ (by first | (simp;done) | (simp;omega)) _))) (by first | exact Ct [(l.length:Int),h.state,h.cause] (Blk.new W1 _ _) | exact Ct [(l.length:Int),h.state,h.cause] ((Blk.new W1 _ _).alloc _) | exact Ct [(l.length:Int),h.state,h.cause] (Blk.new2 W1 _ _ _))).mono ?_;rintro e w5 ⟨rfl,hb5⟩;have hq5:Below W1.heap.size W1 w5:=Below.trans (by(repeat (first | exact qB _ _ | refine Below.drew ?_ | refine Below.alloc ?_ (by first | (simp;done) | (simp;omega)) _))) (hb5.mono (by first | (simp;done) | (simp;omega))))
    |(go_at_call 51;refine(CU.out _ _ _ hL (by(repeat (first | exact hq5 | refine Below.drew ?_ | refine Below.alloc ?_ hq5.size _))) (by first | exact Ct [h.pc] (Blk.new w5 _ _) | exact Ct [h.pc] (Blk.ext (by exact(Blk.new W1 _ _).alloc _) hb5) | exact Ct [h.pc] (Blk.ext (by exact Blk.new2 W1 _ _ _) hb5))).mono ?_;rintro e w7 ⟨rfl,hb7⟩;rw [HTR.out];have hq5:Below W1.heap.size W1 w7:=Below.trans (by(repeat (first | exact hq5 | refine Below.drew ?_ | refine Below.alloc ?_ hq5.size _))) (hb7.mono (by first | exact hq5.size | (simp;exact Nat.le_succ_of_le hq5.size) | (simp;omega))))
    |(go_at_call 50;refine(CT.out _).mono ?_;rintro e w8 ⟨rfl,rfl⟩)
    |fail))
 all_goals
  have hq9:=hb1.trans (hq5.mono hb1.size)
  clear hq5 HSK CI CU CT c0 c1 c2
  go_wp2_with(fail)
  go_loopw [7,30] (fun v7 v30 wr=>∃ (k:Nat) (s:List UInt8),v7=sV s∧v30 = .int .i64 k∧k≤l.length∧s.length≤1000+21*k∧Below w.heap.size w wr∧Hid (Kv s (l.drop k)=X)) (fun _ v _=>l.length - (intOf v).toNat)
  case atStart=>exact⟨0,_,rfl,rfl,Nat.zero_le _,by omega,hq9,HX⟩
  case round=>
   obtain⟨k,s,rfl,rfl,hk,hsl,hb,HS⟩:=hrel
   by_cases hlt:k<l.length
   ·obtain⟨g,cur,rfl,hgB,hB2,hs,he⟩:=(HA.out.below hb).at_ hlt
    have hcw:=HW.out _ (List.getElem_mem hlt)
    have hd:l.drop k=l[k]::l.drop (k+1):=qM hlt
    generalize l[k]=c at he hcw hd
    have He:=qA he
    have hbz:=hb.size
    obtain⟨t0,t1⟩:=hcw.told
    have CU:=qA (fun W A s (hs:s.length≤100000000) (hW:Below w.heap.size w W) (hA:Ar W W.heap.size .u32 A [c.told])=>Vt s A [c.told] 1 W (V.ext (hW.mono hB)) (qD hB hW.size) (by simp) (by omega) (by simp;omega) hA)
    have HS1:=HS.out
    rw [hd,Pt] at HS1
    have h20:=Eo c.told.toNat (by omega)
    rw [←decDigits_length] at h20
    clear he hd HS
    obtain⟨cpc,cnx,cst,cca,crd,cva,cat,cmn,cda,co,ct⟩:=c
    dsimp only at HS1 h20 CU He t0 t1
    rcases co with _ | _
    ·have HS2:Hid (Kv s (l.drop (k+1))=X):=qA HS1
     clear HS1 CU
     go_wp2_with(first
      |(refine Ai rfl 65 _ rfl g (k*11) rfl 65 cur 11 _ hB2 Tryz.underlying65 rfl Aab hs ?_;rw [He.out])
      |(refine Ae rfl 65 _ _ rfl wr.heap.size _ rfl rfl 65 _ (Blk.new wr _ _) Ao rfl Dl ?_;intro w3 hC hg3;have c9:=hC.cell 9;have c10:=hC.cell 10;have hb3:=(hb.alloc hb.size _).grown hg3 (qD hb.size (by simp)) (fun q hq=>by cases hq;exact hb.size)))
     go_roundw
     case rel=>exact⟨k+1,s,rfl,by go_num,by omega,by omega,hb3,HS2⟩
     case measure=>simp [intOf];omega
    ·have HS2:Hid (Kv (s++32::decDigits ct.toNat) (l.drop (k+1))=X):=qA HS1
     clear HS1
     go_wp2_with(first
      |(refine Ai rfl 65 _ rfl g (k*11) rfl 65 cur 11 _ hB2 Tryz.underlying65 rfl Aab hs ?_;rw [He.out])
      |(refine Ae rfl 65 _ _ rfl wr.heap.size _ rfl rfl 65 _ (Blk.new wr _ _) Ao rfl Dl ?_;intro w3 hC hg3;have c9:=hC.cell 9;have c10:=hC.cell 10;have hb3:=(hb.alloc hb.size _).grown hg3 (qD hb.size (by simp)) (fun q hq=>by cases hq;exact hb.size))
      |(go_at_call 51;(refine(CU.out _ _ s (by omega) (hb3.alloc hb3.size _) (Ct [ct] (Blk.new w3 _ _))).mono ?_);rintro e w5 ⟨rfl,hb5⟩;have hq5:=(hb3.alloc hb3.size _).trans (hb5.mono (qD hb3.size (by simp)))))
     go_roundw
     case rel=>exact⟨k+1,s++32::decDigits ct.toNat,rfl,by go_num,by omega,by simp;omega,hq5,HS2⟩
     case measure=>simp [intOf];omega
   ·obtain rfl:k=l.length:=by omega
    have e1:decide ((l.length:Int)<l.length)=false:=by simp
    have hX2:=HS.out
    rw [List.drop_length] at hX2
    have HX2:=qA hX2
    clear hX2 HX
    go_wp2_with(fail)
    go_ret
    exact⟨by rw [←HX2.out];rfl,hb⟩
end Go.Proofs.YtapgojgcmlnbgaaGreatDoor
namespace Go.Proofs.YtapgojgcmlnbgaaGreatDoor
open Go Go.RowKit
open Go.Lib (decDigits decDigits_length parseUintB)
def H4 (w:World) (B:Nat) (A:Option Addr) (l:List (List UInt8)):Prop:=
 l≠[]→∃ b o,A=some ⟨b,o,none⟩∧b<B∧∀ (i:Nat) (v:List UInt8),l[i]? = some v→w.cell? ⟨b,o+i,none⟩=some (sV v)
theorem H4.below {w w':World} {B:Nat} {A:Option Addr} {l:List (List UInt8)} (h:H4 w B A l) (hb:Below B w w'):H4 w' B A l:=fun hne=>by
 obtain⟨b,o,hA,hB,hc⟩:=h hne
 exact⟨b,o,hA,hB,fun i v hi=>(hb.cell (p:=⟨b,o+i,none⟩) hB).trans (hc i v hi)⟩
theorem H4.mono {w:World} {B B':Nat} {A:Option Addr} {l:List (List UInt8)} (h:H4 w B A l) (hB:B≤B'):H4 w B' A l:=fun hne=>by
 obtain⟨b,o,hA,hb,hc⟩:=h hne
 exact⟨b,o,hA,by omega,hc⟩
theorem Du {w w':World} {base:Nat} {e:TypeId} {size:Nat} {v:Value} {n:Nat} {xs:List Value} (h:w.ownsRow base e size v n xs) (hb:Below w.heap.size w w'):w'.ownsRow base e size v n xs:=
 h.kept (Cg hb) (by cases v.ownBlock<;>simp)
theorem Ab2:(Tryz.prog.info? 27).map (fun i=>(i.zero,i.size,i.bytes))=some (some (.int .u32 0),1,4):=by kernel_rfl
theorem S7 (ws:List (List UInt8)) (k:Nat) {done:List Int} (h:D2 (ws.take k)=some done) {w:List UInt8} (hw:ws[k]? = some w) :
  (∀ u,Jl w=some u→D2 (ws.take (k+1))=some (done++[(u:Int)]))∧(Jl w=none→D2 ws=none):=by
 have app:∀ (a b:List (List UInt8)),D2 (a++b)=(D2 a).bind fun x=>(D2 b).map fun y=>x++y:=by
  intro a
  induction a with
  |nil=>intro b;simp [D2]
  |cons w a ih=>
   intro b
   rw [List.cons_append]
   simp only [D2]
   cases Jl w with
   |none=>rfl
   |some u=>rw [ih b];cases D2 a<;>cases D2 b<;>simp
 have ht:ws.take (k+1)=ws.take k++[w]:=by rw [List.take_add_one,hw];rfl
 refine⟨fun u hu=>?_,fun hn=>?_⟩
 ·rw [ht,app,h]
  simp [D2,hu]
 ·rw [←List.take_append_drop (k+1) ws,ht,app,app,h]
  simp [D2,hn]
def Zw (ws:List (List UInt8)) (w:World) (e:Ending) (w':World):Prop:=
 Below w.heap.size w w'∧((D2 ws=none∧e = .returned (.tuple #[.slice none 0 0, .bool false]))∨∃ l v,D2 ws=some l∧e = .returned (.tuple #[v, .bool true])∧w'.ownsRow w.heap.size 27 1 v l.length (l.map (Value.int .u32)))
theorem S6 {B:Nat} (A:Option Addr) (ws:List (List UInt8)) (cap:Nat) (w:World) (V:Ig B w) (hB:B≤w.heap.size) (hl:ws.length≤4294967296) (hs:∀ x∈ws,x.length≤4294967296) (hA:H4 w w.heap.size A ws) :
  Calls Tryz.prog 27 #[.slice A ws.length cap] w (Zw ws w):=by
 obtain⟨Post,hPost⟩:∃ P,P=Zw ws w:=⟨_,rfl⟩
 rw [←hPost]
 have HP:=qA hPost
 obtain⟨i0,hi,hz0,hz1,hz2⟩:=info_parts Ab2
 have HS:=qA hs
 clear hPost hs
 go_enter Tryz.func27,Tryz.ntmps27
 go_wp2_with(fail)
 go_loopw [4,11] (fun v4 v11 wr=>∃ (k:Nat) (l:List Int),v11 = .int .i64 k∧k≤ws.length∧Below w.heap.size w wr∧Hid (D2 (ws.take k)=some l∧l.length=k∧wr.ownsRow w.heap.size 27 1 v4 k (l.map (Value.int .u32)))) (fun _ v _=>ws.length - (intOf v).toNat)
 case atStart=>exact⟨0,[],rfl,Nat.zero_le _,qB _ _,qA ⟨rfl,rfl,qT _ _ _ _⟩⟩
 case round=>
  obtain⟨k,l,rfl,hk,hb,HR⟩:=hrel
  by_cases hlt:k<ws.length
  ·obtain⟨x,hx⟩:∃ x,ws[k]? = some x:=⟨ws[k],by simp [hlt]⟩
   obtain⟨b,o,rfl,hbB,hc⟩:=(hA.below hb) (by intro e;simp [e] at hlt)
   have hck:=hc k x hx
   have hxl:=HS.out x (List.mem_of_getElem? hx)
   obtain⟨hyes,hno⟩:=S7 ws k HR.out.1 hx
   have hbz:=hb.size
   have HNO:=qA hno
   have HYES:=qA hyes
   clear hc hno hyes hx
   by_cases hp:∃ u,parseUintB 32 x = .ok u
   ·obtain⟨u,hu⟩:=hp
    have hnum:=Wu hu
    have hu32:=((R9 x u).1 hu).2
    have CP:=qA (fun W=>Aie x u W (by omega) hu)
    have CF:=qA (fun W (hW:Below w.heap.size w W)=>Yz u (by omega) W (V.ext (hW.mono hB)) (qD hB hW.size))
    clear hu
    by_cases hd:decDigits u=x
    ·have hnu:Jl x=some u:=by rw [hnum,if_pos hd]
     have HN:=qA (HYES.out u hnu)
     have hdd:decDigits u=x:=hd
     have hwu:(u:Int)%4294967296=u:=by omega
     clear hnum hnu hd
     go_wp2_with(first
      |(go_at_call 47;(with_reducible refine(CP.out _).mono ?_);rintro e w2 ⟨rfl,hb2⟩;have hb12:=hb.trans (hb2.mono hb.size))
      |(go_at_call 48;(with_reducible refine(CF.out _ hb12).mono ?_);rintro e w3 ⟨rfl,hb3⟩;have hown:=Du (Du HR.out.2.2 hb2) hb3;have hb13:=hb12.trans (hb3.mono hb12.size))
      |(at_builtin;go_loud (refine B0 rfl (.tmp 28) (.tmp 31) 38 rfl w.heap.size 27 i0 _ 1 4 Tryz.underlying38 hi hz0 hz1 hz2 rfl (by decide) _ k _ rfl (hown.alloc _) (some ⟨w3.heap.size,0,none⟩) 1 1 [.int .u32 u] rfl rfl (fun h=>by cases h) (H8 w3 _ _) (by simp;rfl) (by unfold maxLen;omega) (by omega) (by simp;exact qD hb13.size (Nat.le_succ _)) ?_;intro v7 w7 hown7 hg7;have hb7:=(hb13.alloc hb13.size _).grown hg7 (qD hb13.size (by simp)) (fun q hq=>(hown.lt q hq).1))))
     go_roundw
     case rel=>exact⟨k+1,l++[(u:Int)],by go_num,by omega,hb7,qA ⟨HN.out,by simp [HR.out.2.1],by simpa using hown7⟩⟩
     case measure=>simp [intOf];omega
    ·have hnu:Jl x=none:=by rw [hnum,if_neg hd]
     have HN:=qA (HNO.out hnu)
     have ne:(decDigits u==x)=false:=by simpa using hd
     clear hnum hnu hd
     go_wp2_with(first
      |(go_at_call 47;(with_reducible refine(CP.out _).mono ?_);rintro e w2 ⟨rfl,hb2⟩;have hb12:=hb.trans (hb2.mono hb.size))
      |(go_at_call 48;(with_reducible refine(CF.out _ hb12).mono ?_);rintro e w3 ⟨rfl,hb3⟩;have hb13:=hb12.trans (hb3.mono hb12.size)))
     rw [HP.out]
     exact⟨hb13,Or.inl ⟨HN.out,rfl⟩⟩
   ·have hp2:∀ u,parseUintB 32 x ≠ .ok u:=fun u hu=>hp ⟨u,hu⟩
    have HN:=qA (HNO.out (Add hp2))
    have CP:=qA (fun W (hW:Below w.heap.size w W)=>Aid x W (V.ext (hW.mono hB)) (by omega) hp2)
    clear hp hp2
    go_wp2_with(go_at_call 47;(with_reducible refine(CP.out _ hb).mono ?_);rintro e w2 ⟨n,t,p,rfl,hb2⟩)
    rw [HP.out]
    exact⟨hb.trans (hb2.mono hb.size),Or.inl ⟨HN.out,rfl⟩⟩
  ·obtain rfl:k=ws.length:=by omega
   have e1:decide ((ws.length:Int)<ws.length)=false:=by simp
   go_wp2_with(fail)
   rw [HP.out]
   have h:=HR.out
   rw [List.take_length] at h
   exact⟨hb,Or.inr ⟨l,_,h.1,rfl,by rw [h.2.1];exact h.2.2⟩⟩
end Go.Proofs.YtapgojgcmlnbgaaGreatDoor
