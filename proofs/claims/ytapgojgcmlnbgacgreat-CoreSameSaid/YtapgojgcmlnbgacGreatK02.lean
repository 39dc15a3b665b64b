/- Parts of a proof. -/
import Derived.Test.YtapgojgcmlnbgacGreatK01
import Derived.OwnWalk
import Derived.Test.YtapgojgcmlnbgacGreatK00
set_option linter.unusedSimpArgs false
set_option linter.unusedVariables false
set_option maxRecDepth 100000
set_option maxHeartbeats 16000000
namespace Go.Proofs.YtapgojgcmlnbgacGreat
open Go.RowKit
abbrev Ins.cells (i:Ins):Array Value:=#[.int .i64 i.op, .int .i64 i.rd, .int .i64 i.rs1, .int .i64 i.rs2, .int .i32 i.imm]
theorem A4 {a b c d e:Value}:(Tryz.prog.info? 73).map (·.size)=some (#[a,b,c,d,e]:Array Value).size:=by kernel_rfl
theorem Do {a b c d e:Int}:(#[.int .i64 a, .int .i64 b, .int .i64 c, .int .i64 d, .int .i32 e]:Array Value).all (·.oneCell')=true:=by kernel_rfl
theorem Gk (v:Int):Tryz.prog.built 73 [(0, .int .i64 v)]=some #[.int .i64 v, .int .i64 0, .int .i64 0, .int .i64 0, .int .i32 0]:=by kernel_rfl
theorem Ag1 (op f x:Int) (w:World) (h0:0≤x) (h1:x≤4294967295) (hf:0≤f∧f≤7) :
  Calls Tryz.prog 111 #[.int .i64 op, .int .i64 f, .int .u32 x] w fun e w'=>e = .returned (.agg (Cu op f x).cells)∧Below w.heap.size w w':=by
 obtain rfl | rfl | rfl | rfl | rfl | rfl | rfl | rfl:f=0∨f=1∨f=2∨f=3∨f=4∨f=5∨f=6∨f=7:=by omega
 focus
  have hn:bits .andNot .u32 x 4095=x - Ap x 0 11:=by rw [Afq x h0 h1,De x 0 11 1 4096 (by decide) (by decide)];omega
  have hw:wrap32 (x - Ap x 0 11)=Fx (x - Ap x 0 11) 32:=by
   have c:=De x 0 11 1 4096 (by decide) (by decide)
   unfold Fx wrap32
   rw [show(2:Int) ^ (32 - 1)=2147483648 by decide,show(2:Int) ^ 32=4294967296 by decide]
   split<;>omega
  have c0:=Av x 0 11 4096 (by decide)
  obtain⟨c00,c01⟩:=c0
 rotate_left 1
 focus
  obtain⟨d310,d311⟩:=Av x 31 31 2 (by decide)
  obtain⟨d120,d121⟩:=Av x 12 19 256 (by decide)
  obtain⟨d200,d201⟩:=Av x 20 20 2 (by decide)
  obtain⟨d210,d211⟩:=Av x 21 30 1024 (by decide)
  have ho1:=or_hi (Ap x 12 19*4096) (Ap x 31 31) 20 1048576 (by decide) (by omega) (by omega) (by omega) d310 (by omega)
  have ho2:bits .or .u32 (Ap x 31 31*1048576+Ap x 12 19*4096) (Ap x 20 20*2048)=Ap x 31 31*1048576+Ap x 12 19*4096+Ap x 20 20*2048:=by
   have:=or_hi (Ap x 20 20*2048) (Ap x 31 31*256+Ap x 12 19) 12 4096 (by decide) (by omega) (by omega) (by omega) (by omega) (by omega)
   rw [show(Ap x 31 31*256+Ap x 12 19)*4096=Ap x 31 31*1048576+Ap x 12 19*4096 by omega] at this
   exact this
  have ho3:bits .or .u32 (Ap x 31 31*1048576+Ap x 12 19*4096+Ap x 20 20*2048) (Ap x 21 30*2)=Ap x 31 31*1048576+Ap x 12 19*4096+Ap x 20 20*2048+Ap x 21 30*2:=by
   have:=or_hi (Ap x 21 30*2) (Ap x 31 31*512+Ap x 12 19*2+Ap x 20 20) 11 2048 (by decide) (by omega) (by omega) (by omega) (by omega) (by omega)
   rw [show(Ap x 31 31*512+Ap x 12 19*2+Ap x 20 20)*2048=Ap x 31 31*1048576+Ap x 12 19*4096+Ap x 20 20*2048 by omega] at this
   exact this
 rotate_left 1
 focus
  skip
 rotate_left 1
 focus
  skip
 rotate_left 1
 focus
  obtain⟨d310,d311⟩:=Av x 31 31 2 (by decide)
  obtain⟨d70,d71⟩:=Av x 7 7 2 (by decide)
  obtain⟨d250,d251⟩:=Av x 25 30 64 (by decide)
  obtain⟨d80,d81⟩:=Av x 8 11 16 (by decide)
  have ho1:=or_hi (Ap x 7 7*2048) (Ap x 31 31) 12 4096 (by decide) (by omega) (by omega) (by omega) d310 (by omega)
  have ho2:bits .or .u32 (Ap x 31 31*4096+Ap x 7 7*2048) (Ap x 25 30*32)=Ap x 31 31*4096+Ap x 7 7*2048+Ap x 25 30*32:=by
   have:=or_hi (Ap x 25 30*32) (Ap x 31 31*2+Ap x 7 7) 11 2048 (by decide) (by omega) (by omega) (by omega) (by omega) (by omega)
   rw [show(Ap x 31 31*2+Ap x 7 7)*2048=Ap x 31 31*4096+Ap x 7 7*2048 by omega] at this
   exact this
  have ho3:bits .or .u32 (Ap x 31 31*4096+Ap x 7 7*2048+Ap x 25 30*32) (Ap x 8 11*2)=Ap x 31 31*4096+Ap x 7 7*2048+Ap x 25 30*32+Ap x 8 11*2:=by
   have:=or_hi (Ap x 8 11*2) (Ap x 31 31*128+Ap x 7 7*64+Ap x 25 30) 5 32 (by decide) (by omega) (by omega) (by omega) (by omega) (by omega)
   rw [show(Ap x 31 31*128+Ap x 7 7*64+Ap x 25 30)*32=Ap x 31 31*4096+Ap x 7 7*2048+Ap x 25 30*32 by omega] at this
   exact this
 rotate_left 1
 focus
  obtain⟨d0,d1⟩:=Av x 25 31 128 (by decide)
  have ho:=or_hi (Ap x 7 11) (Ap x 25 31) 5 32 (by decide) (by omega) (Av x 7 11 32 (by decide)).1 (Av x 7 11 32 (by decide)).2 d0 (by omega)
 rotate_left 1
 focus
  skip
 rotate_left 1
 focus
  skip
 rotate_left 1
 all_goals
  have c7:=Av x 7 11 32 (by decide)
  have c15:=Av x 15 19 32 (by decide)
  have c20:=Av x 20 24 32 (by decide)
  obtain⟨c70,c71⟩:=c7
  obtain⟨c150,c151⟩:=c15
  obtain⟨c200,c201⟩:=c20
  go_enter Tryz.func111,Tryz.ntmps111
  go_upto_region 1 with(fail)
  refine Au fun wa hq=>?_
  have hR:Blk wa w.heap.size 73 #[.int .i64 0, .int .i64 0, .int .i64 0, .int .i64 0, .int .i32 0]:=by rw [hq];exact Blk.new w _ _
  have hb:Below w.heap.size w wa:=by rw [hq];exact(Below.refl _ _).alloc (Nat.le_refl _) _
  clear hq
  go_upto_region 2 with(first
   |(go_at_call 118;(with_reducible refine(Yn x _ h0 h1).mono ?_);rintro e w1 ⟨rfl,hb1⟩;replace hR:=hR.ext hb1;replace hb:=hb.trans (hb1.mono hb.size);clear hb1)
   |(go_at_call 118;(with_reducible refine(Adt x _ h0 h1).mono ?_);rintro e w1 ⟨rfl,hb1⟩;replace hR:=hR.ext hb1;replace hb:=hb.trans (hb1.mono hb.size);clear hb1)
   |(go_at_call 118;(with_reducible refine(Vr x _ h0 h1).mono ?_);rintro e w3 ⟨rfl,hb1⟩;replace hR:=hR.ext hb1;replace hb:=hb.trans (hb1.mono hb.size);clear hb1))
  refine Au fun wq hq=>?_
  have hI:Blk wq w3.heap.size 73 #[.int .i64 op, .int .i64 (Ap x 7 11), .int .i64 (Ap x 15 19), .int .i64 (Ap x 20 24), .int .i32 0]:=by rw [hq];exact Blk.new w3 _ _
  have zR:=hR.lt
  have hge:=hb.size
  replace hR:Blk wq w.heap.size 73 #[.int .i64 0, .int .i64 0, .int .i64 0, .int .i64 0, .int .i32 0]:=by rw [hq];exact hR.alloc _
  replace hb:Below w.heap.size w wq:=by rw [hq];exact hb.alloc hge _
  have Hne:=Lib.hid (show w.heap.size≠w3.heap.size by omega)
  have Hge:=Lib.hid hge
  clear hq zR hge
  have hIc:=hI.cell
  have hIf:=hI.frozen
  have zI:=hI.lt
  have zR:=hR.lt
 focus
  go_upto_region 19 with(fail)
  refine Au fun wr hq=>?_
  have hI2:Blk wr w3.heap.size 73 (Cu op 0 x).cells:=by rw [hq];exact(((hI).set 2 _).set 3 _).set 4 _
  have hR2:Blk wr w.heap.size 73 #[.int .i64 0, .int .i64 0, .int .i64 0, .int .i64 0, .int .i32 0]:=by rw [hq];exact(((hR).farAt Hne.out _).farAt Hne.out _).farAt Hne.out _
  have hb2:Below w.heap.size w wr:=by rw [hq];exact Ai Hge.out (Ai Hge.out (Ai Hge.out (hb)))
  clear hq hIc hIf zI zR hI hR hb
 rotate_left 1
 focus
  go_upto_region 7 with(fail)
  refine Au fun wr hq=>?_
  replace hI:Blk wr w3.heap.size 73 #[.int .i64 op, .int .i64 (Ap x 7 11), .int .i64 0, .int .i64 0, .int .i32 0]:=by rw [hq];exact(hI.set 2 _).set 3 _
  replace hR:Blk wr w.heap.size 73 #[.int .i64 0, .int .i64 0, .int .i64 0, .int .i64 0, .int .i32 0]:=by rw [hq];exact(hR.farAt Hne.out _).farAt Hne.out _
  replace hb:Below w.heap.size w wr:=by rw [hq];exact Ai Hge.out (Ai Hge.out hb)
  clear hq hIc hIf zI zR
  have hIc:=hI.cell
  have hIf:=hI.frozen
  have zI:=hI.lt
  have zR:=hR.lt
  go_upto_region 19 with(first | (go_at_call 118;(with_reducible refine(Vs x _ h0 h1).mono ?_);rintro e w1 ⟨rfl,hb1⟩;replace hI:=hI.ext hb1;replace hR:=hR.ext hb1;replace hb:=hb.trans (hb1.mono hb.size);clear hIc hIf zI zR;have hIc:=hI.cell;have hIf:=hI.frozen;have zI:=hI.lt;have zR:=hR.lt;clear hb1) | (go_at_call 118;(with_reducible refine(Ads x _ h0 h1).mono ?_);rintro e w1 ⟨rfl,hb1⟩;replace hI:=hI.ext hb1;replace hR:=hR.ext hb1;replace hb:=hb.trans (hb1.mono hb.size);clear hIc hIf zI zR;have hIc:=hI.cell;have hIf:=hI.frozen;have zI:=hI.lt;have zR:=hR.lt;clear hb1) | (go_at_call 118;(with_reducible refine(Adu x _ h0 h1).mono ?_);rintro e w1 ⟨rfl,hb1⟩;replace hI:=hI.ext hb1;replace hR:=hR.ext hb1;replace hb:=hb.trans (hb1.mono hb.size);clear hIc hIf zI zR;have hIc:=hI.cell;have hIf:=hI.frozen;have zI:=hI.lt;have zR:=hR.lt;clear hb1) | (go_at_call 118;(with_reducible refine(Adw x _ h0 h1).mono ?_);rintro e w1 ⟨rfl,hb1⟩;replace hI:=hI.ext hb1;replace hR:=hR.ext hb1;replace hb:=hb.trans (hb1.mono hb.size);clear hIc hIf zI zR;have hIc:=hI.cell;have hIf:=hI.frozen;have zI:=hI.lt;have zR:=hR.lt;clear hb1) | (go_at_call 119;(with_reducible refine(Ae8 _ _ ?_ ?_).mono ?_);omega;omega;rintro e w1 ⟨rfl,rfl⟩))
  refine Au fun wr hq=>?_
  have hI2:Blk wr w3.heap.size 73 (Cu op 1 x).cells:=by rw [hq];exact(hI).set 4 _
  have hR2:Blk wr w.heap.size 73 #[.int .i64 0, .int .i64 0, .int .i64 0, .int .i64 0, .int .i32 0]:=by rw [hq];exact(hR).farAt Hne.out _
  have hb2:Below w.heap.size w wr:=by rw [hq];exact Ai Hge.out (hb)
  clear hq hIc hIf zI zR hI hR hb
 rotate_left 1
 focus
  go_upto_region 19 with(first | (go_at_call 118;(with_reducible refine(Adv x _ h0 h1).mono ?_);rintro e w1 ⟨rfl,hb1⟩;replace hI:=hI.ext hb1;replace hR:=hR.ext hb1;replace hb:=hb.trans (hb1.mono hb.size);clear hIc hIf zI zR;have hIc:=hI.cell;have hIf:=hI.frozen;have zI:=hI.lt;have zR:=hR.lt;clear hb1) | (go_at_call 119;(with_reducible refine(Wl _ _ ?_ ?_).mono ?_);exact(Av x 20 31 4096 (by decide)).1;exact(Av x 20 31 4096 (by decide)).2;rintro e w1 ⟨rfl,rfl⟩))
  refine Au fun wr hq=>?_
  have hI2:Blk wr w3.heap.size 73 (Cu op 2 x).cells:=by rw [hq];exact((hI).set 3 _).set 4 _
  have hR2:Blk wr w.heap.size 73 #[.int .i64 0, .int .i64 0, .int .i64 0, .int .i64 0, .int .i32 0]:=by rw [hq];exact((hR).farAt Hne.out _).farAt Hne.out _
  have hb2:Below w.heap.size w wr:=by rw [hq];exact Ai Hge.out (Ai Hge.out (hb))
  clear hq hIc hIf zI zR hI hR hb
 rotate_left 1
 focus
  go_upto_region 19 with((go_at_call 118;(with_reducible refine(Vr x _ h0 h1).mono ?_);rintro e w1 ⟨rfl,hb1⟩;replace hI:=hI.ext hb1;replace hR:=hR.ext hb1;replace hb:=hb.trans (hb1.mono hb.size);clear hIc hIf zI zR;have hIc:=hI.cell;have hIf:=hI.frozen;have zI:=hI.lt;have zR:=hR.lt;clear hb1))
  refine Au fun wr hq=>?_
  have hI2:Blk wr w3.heap.size 73 (Cu op 3 x).cells:=by rw [hq];exact((hI).set 3 _).set 4 _
  have hR2:Blk wr w.heap.size 73 #[.int .i64 0, .int .i64 0, .int .i64 0, .int .i64 0, .int .i32 0]:=by rw [hq];exact((hR).farAt Hne.out _).farAt Hne.out _
  have hb2:Below w.heap.size w wr:=by rw [hq];exact Ai Hge.out (Ai Hge.out (hb))
  clear hq hIc hIf zI zR hI hR hb
 rotate_left 1
 focus
  go_upto_region 14 with(fail)
  refine Au fun wr hq=>?_
  replace hI:Blk wr w3.heap.size 73 #[.int .i64 op, .int .i64 0, .int .i64 (Ap x 15 19), .int .i64 (Ap x 20 24), .int .i32 0]:=by rw [hq];exact hI.set 1 _
  replace hR:Blk wr w.heap.size 73 #[.int .i64 0, .int .i64 0, .int .i64 0, .int .i64 0, .int .i32 0]:=by rw [hq];exact hR.farAt Hne.out _
  replace hb:Below w.heap.size w wr:=by rw [hq];exact Ai Hge.out hb
  clear hq hIc hIf zI zR
  have hIc:=hI.cell
  have hIf:=hI.frozen
  have zI:=hI.lt
  have zR:=hR.lt
  go_upto_region 19 with(first | (go_at_call 118;(with_reducible refine(Vs x _ h0 h1).mono ?_);rintro e w1 ⟨rfl,hb1⟩;replace hI:=hI.ext hb1;replace hR:=hR.ext hb1;replace hb:=hb.trans (hb1.mono hb.size);clear hIc hIf zI zR;have hIc:=hI.cell;have hIf:=hI.frozen;have zI:=hI.lt;have zR:=hR.lt;clear hb1) | (go_at_call 118;(with_reducible refine(Ahm x _ h0 h1).mono ?_);rintro e w1 ⟨rfl,hb1⟩;replace hI:=hI.ext hb1;replace hR:=hR.ext hb1;replace hb:=hb.trans (hb1.mono hb.size);clear hIc hIf zI zR;have hIc:=hI.cell;have hIf:=hI.frozen;have zI:=hI.lt;have zR:=hR.lt;clear hb1) | (go_at_call 118;(with_reducible refine(Adx x _ h0 h1).mono ?_);rintro e w1 ⟨rfl,hb1⟩;replace hI:=hI.ext hb1;replace hR:=hR.ext hb1;replace hb:=hb.trans (hb1.mono hb.size);clear hIc hIf zI zR;have hIc:=hI.cell;have hIf:=hI.frozen;have zI:=hI.lt;have zR:=hR.lt;clear hb1) | (go_at_call 118;(with_reducible refine(Afx x _ h0 h1).mono ?_);rintro e w1 ⟨rfl,hb1⟩;replace hI:=hI.ext hb1;replace hR:=hR.ext hb1;replace hb:=hb.trans (hb1.mono hb.size);clear hIc hIf zI zR;have hIc:=hI.cell;have hIf:=hI.frozen;have zI:=hI.lt;have zR:=hR.lt;clear hb1) | (go_at_call 119;(with_reducible refine(Ae7 _ _ ?_ ?_).mono ?_);omega;omega;rintro e w1 ⟨rfl,rfl⟩))
  refine Au fun wr hq=>?_
  have hI2:Blk wr w3.heap.size 73 (Cu op 4 x).cells:=by rw [hq];exact(hI).set 4 _
  have hR2:Blk wr w.heap.size 73 #[.int .i64 0, .int .i64 0, .int .i64 0, .int .i64 0, .int .i32 0]:=by rw [hq];exact(hR).farAt Hne.out _
  have hb2:Below w.heap.size w wr:=by rw [hq];exact Ai Hge.out (hb)
  clear hq hIc hIf zI zR hI hR hb
 rotate_left 1
 focus
  go_upto_region 19 with(first | (go_at_call 118;(with_reducible refine(Ns x _ h0 h1).mono ?_);rintro e w1 ⟨rfl,hb1⟩;replace hI:=hI.ext hb1;replace hR:=hR.ext hb1;replace hb:=hb.trans (hb1.mono hb.size);clear hIc hIf zI zR;have hIc:=hI.cell;have hIf:=hI.frozen;have zI:=hI.lt;have zR:=hR.lt;clear hb1) | (go_at_call 118;(with_reducible refine(Yn x _ h0 h1).mono ?_);rintro e w1 ⟨rfl,hb1⟩;replace hI:=hI.ext hb1;replace hR:=hR.ext hb1;replace hb:=hb.trans (hb1.mono hb.size);clear hIc hIf zI zR;have hIc:=hI.cell;have hIf:=hI.frozen;have zI:=hI.lt;have zR:=hR.lt;clear hb1) | (go_at_call 119;(with_reducible refine(Wl _ _ ?_ ?_).mono ?_);omega;omega;rintro e w1 ⟨rfl,rfl⟩))
  refine Au fun wr hq=>?_
  have hI2:Blk wr w3.heap.size 73 (Cu op 5 x).cells:=by rw [hq];exact((hI).set 1 _).set 4 _
  have hR2:Blk wr w.heap.size 73 #[.int .i64 0, .int .i64 0, .int .i64 0, .int .i64 0, .int .i32 0]:=by rw [hq];exact((hR).farAt Hne.out _).farAt Hne.out _
  have hb2:Below w.heap.size w wr:=by rw [hq];exact Ai Hge.out (Ai Hge.out (hb))
  clear hq hIc hIf zI zR hI hR hb
 rotate_left 1
 focus
  go_upto_region 19 with(fail)
  refine Au fun wr hq=>?_
  have hI2:Blk wr w3.heap.size 73 (Cu op 6 x).cells:=by rw [hq];exact hI
  have hR2:Blk wr w.heap.size 73 #[.int .i64 0, .int .i64 0, .int .i64 0, .int .i64 0, .int .i32 0]:=by rw [hq];exact hR
  have hb2:Below w.heap.size w wr:=by rw [hq];exact hb
  clear hq hIc hIf zI zR hI hR hb
 rotate_left 1
 focus
  go_upto_region 18 with(fail)
  go_upto_region 19 with(first
   |(refine Ao rfl 73 _ rfl [(0, .int .i64 op)] ?_ _ (Gk op) ?_;kernel_rfl)
   |(refine Ab rfl 73 _ _ rfl w3.heap.size _ rfl rfl 73 _ hI A4 rfl Do ?_;intro w5 hB5 hg5))
  have hneS:=Hne.out
  replace hR:=hR.grown hg5 (fun e=>hneS (by injection e))
  replace hb:=below_grown hb hg5 hb.size Hge.out
  clear hneS
  go_simp
  refine Au fun wr hq=>?_
  have hI2:Blk wr w3.heap.size 73 (Cu op 7 x).cells:=by rw [hq];exact hB5
  have hR2:Blk wr w.heap.size 73 #[.int .i64 0, .int .i64 0, .int .i64 0, .int .i64 0, .int .i32 0]:=by rw [hq];exact hR
  have hb2:Below w.heap.size w wr:=by rw [hq];exact hb
  clear hq hIc hIf zI zR hI hR hb
 rotate_left 1
 all_goals
  have hs2:=hb2.size
  go_wp2_with(first
   |(refine Ac rfl 73 _ rfl w3.heap.size rfl 73 _ _ hI2 Tryz.underlying73 rfl A4 ?_)
   |(refine Ab rfl 73 _ _ rfl w.heap.size _ rfl rfl 73 _ hR2 A4 rfl Do ?_;intro w5 hB5 hg5))
  exact bodyPost_ret (v := .agg _) (Az rfl _ _ w.heap.size 73 _ _ rfl hB5 Tryz.underlying73 rfl A4) rfl ⟨rfl,below_grown hb2 hg5 hs2 (Nat.le_refl _)⟩
theorem Ag2 (op form x:Int) (w:World) (hf:0≤form) (hf':form≤7) (h0:0≤x) (h1:x≤4294967295) :
  Calls Tryz.prog 111 #[.int .i64 op, .int .i64 form, .int .u32 x] w fun e w'=>e = .returned (.agg (Cu op form x).cells)∧Below w.heap.size w w':=Ag1 op form x w h0 h1 ⟨hf,hf'⟩
theorem V1 (op:Int):0≤Ly op∧Ly op≤7:=by unfold Ly;(repeat' split)<;>omega
def Q6:Ins:=⟨0,0,0,0,0⟩
theorem S6:Tryz.prog.built 73 []=some #[.int .i64 0, .int .i64 0, .int .i64 0, .int .i64 0, .int .i32 0]:=by kernel_rfl
theorem Aa0 (x:Int) (w:World) (h0:0≤x) (h1:x≤4294967295) :
  Calls Tryz.prog 90 #[.int .u32 x] w fun e w'=>e = .returned (.tuple #[.agg ((Ld x).getD Q6).cells, .bool (Ld x).isSome])∧Below w.heap.size w w':=by
 generalize hX:Ld x=X
 have HX:Hid (Km x 48 1=X):=Lib.hid hX
 clear hX
 go_enter Tryz.func90,Tryz.ntmps90
 go_wp2_with(fail)
 go_loopw [4] (fun v wr=>∃ n:Nat,v = .int .i64 ((n:Int)+1)∧n≤48∧Below w.heap.size w wr∧Blk wr w.heap.size 73 Q6.cells∧Hid (Km x (48 - n) ((n:Int)+1)=X)) (fun v _=>50 - (intOf v).toNat)
 case atStart=>exact⟨0,rfl,by omega,(Below.refl _ _).alloc (Nat.le_refl _) _,Blk.new w _ _,HX⟩
 case round=>
  obtain⟨n,rfl,hn,hb,hR,HR⟩:=hrel
  by_cases hlt:n<48
  ·obtain⟨k,hk,l0,l1,m0,m1,u0,u1,hf,_⟩:=Ahz ((n:Int)+1) (by omega) (by omega)
   have hstep:Km x (48 - n) ((n:Int)+1)=if Io k x=true then some (Cu ((n:Int)+1) k.form x) else Km x (48 - (n+1)) ((n:Int)+1+1):=by
    rw [show 48 - n=(48 - (n+1))+1 by omega]
    show(match Kn ((n:Int)+1) with | some k=>_ | none=>_)=_
    rw [hk]
   have CO:=Lib.hid (fun W=>Ahs ((n:Int)+1) k hk W)
   have CT:=Lib.hid (fun W=>Afc k x W h0 h1 l0 l1 u0 u1)
   have CR:=Lib.hid (fun W=>Ag2 ((n:Int)+1) k.form x W (by rw [hf];exact(V1 _).1) (by rw [hf];exact(V1 _).2) h0 h1)
   obtain⟨form,low,mid,up⟩:=k
   clear hk l0 l1 m0 m1 u0 u1 hf
   rcases ht:Io ⟨form,low,mid,up⟩ x with _ | _
   ·rw [ht] at hstep CT
    have HR2:Hid (Km x (48 - (n+1)) (((n+1:Nat):Int)+1)=X):=by
     have h:=HR.out
     rw [hstep,if_neg (by decide)] at h
     exact Lib.hid (by simpa using h)
    clear HR hstep ht CR
    go_wp2_with(first
     |(go_at_call 109;(with_reducible refine(CO.out _).mono ?_);rintro e w1 ⟨rfl,hb1⟩;replace hR:=(hR.ext hb1).alloc (.cells #[.int .i64 form, .int .u32 low, .int .u32 mid, .int .u32 up] 177);replace hb:=(hb.trans (hb1.mono hb.size)).alloc (Nat.le_trans hb.size hb1.size) (.cells #[.int .i64 form, .int .u32 low, .int .u32 mid, .int .u32 up] 177);clear hb1)
     |(go_at_call 110;(with_reducible refine(CT.out _).mono ?_);rintro e w2 ⟨rfl,hb2⟩;replace hR:=hR.ext hb2;replace hb:=hb.trans (hb2.mono hb.size);clear hb2))
    go_roundw
    case rel=>exact⟨n+1,by go_num,by omega,hb,hR,HR2⟩
    case measure=>simp [intOf];omega
   ·rw [ht] at hstep CT
    have hX:X=some (Cu ((n:Int)+1) form x):=by
     have h:=HR.out
     rw [hstep,if_pos rfl] at h
     exact h.symm
    dsimp only at CR
    generalize Cu ((n:Int)+1) form x=i at CR hX
    subst hX
    clear HR hstep ht
    go_upto_region 5 with(go_at_call 109;(with_reducible refine(CO.out _).mono ?_);rintro e w1 ⟨rfl,hb1⟩;replace hR:=(hR.ext hb1).alloc (.cells #[.int .i64 form, .int .u32 low, .int .u32 mid, .int .u32 up] 177);replace hb:=(hb.trans (hb1.mono hb.size)).alloc (Nat.le_trans hb.size hb1.size) (.cells #[.int .i64 form, .int .u32 low, .int .u32 mid, .int .u32 up] 177);clear hb1)
    have hK:=Blk.new w1 177 #[.int .i64 form, .int .u32 low, .int .u32 mid, .int .u32 up]
    go_upto_region 6 with(go_at_call 110;(with_reducible refine(CT.out _).mono ?_);rintro e w2 ⟨rfl,hb2⟩;replace hR:=hR.ext hb2;replace hb:=hb.trans (hb2.mono hb.size);replace hK:=hK.ext hb2;clear hb2)
    have hKc:=hK.cell
    have zK:=hK.lt
    go_wp2_with(first
     |(go_at_call 111;(with_reducible refine(CR.out _).mono ?_);rintro e w3 ⟨rfl,hb3⟩;replace hR:=hR.ext hb3;replace hb:=hb.trans (hb3.mono hb.size))
     |(refine Ab rfl 73 _ _ rfl w.heap.size i.cells rfl rfl 73 _ hR A4 rfl Do ?_;intro w5 hB5 hg5;have hBc:=hB5.cell))
    exact bodyPost_ret (v := .tuple #[.agg i.cells, .bool true]) (by simp [results,Tryz.results90,go_sem,hBc]) rfl ⟨rfl,below_grown hb hg5 hb.size (Nat.le_refl _)⟩
  ·obtain rfl:n=48:=by omega
   have hX:X=none:=HR.out.symm
   subst hX
   clear HR
   go_wp2_with(first
    |(refine Ao rfl 73 _ rfl [] ?_ _ S6 ?_;kernel_rfl)
    |(refine Ab rfl 73 _ _ rfl w.heap.size Q6.cells rfl rfl 73 _ hR A4 rfl Do ?_;intro w5 hB5 hg5;have hBc:=hB5.cell))
   exact bodyPost_ret (v := .tuple #[.agg Q6.cells, .bool false]) (by simp [results,Tryz.results90,go_sem,hBc]) rfl ⟨rfl,below_grown hb hg5 hb.size (Nat.le_refl _)⟩
theorem Agl (a:Nat) (ha:a<4294967296):a &&& 4294967294=a - a%2:=by
 have e:a - a%2=(a >>> 1) <<< 1:=by rw [Nat.shiftRight_eq_div_pow,Nat.shiftLeft_eq];omega
 have m:4294967294=(2 ^ 31 - 1) <<< 1:=by decide
 rw [e,m]
 apply Nat.eq_of_testBit_eq
 intro i
 rw [Nat.testBit_and,Nat.testBit_shiftLeft,Nat.testBit_shiftLeft,Nat.testBit_shiftRight,Nat.testBit_two_pow_sub_one]
 by_cases h:1≤i
 ·rw [show 1+(i - 1)=i by omega]
  by_cases h2:i - 1<31
  ·simp [h,h2]
  ·have:a.testBit i=false:=Nat.testBit_lt_two_pow (Nat.lt_of_lt_of_le ha (Nat.pow_le_pow_right (n:=2) (i:=32) (by omega) (by omega)))
   simp [this]
 ·simp [h]
theorem Ahh (x:Int) (h0:0≤x) (h1:x≤4294967295):bits .andNot .u32 x 1=x - x%2:=by
 obtain⟨n,rfl⟩:=Int.eq_ofNat_of_zero_le h0
 have h:=u32_andNot_nat n 1 (by omega) (by omega)
 rw [show 4294967295 - 1=4294967294 by decide,Agl n (by omega)] at h
 have h':bits .andNot .u32 (n:Int) 1=((n - n%2:Nat):Int):=h
 rw [h']
 omega
theorem Wr (x:Int) (k:Nat) (M:Int) (hk:k≤32) (hM:((2 ^ k - 1:Nat):Int)=M) (h0:0≤x) (h1:x≤4294967295):bits .and .u64 x M=x%((2 ^ k:Nat):Int):=by
 subst hM
 obtain⟨n,rfl⟩:=Int.eq_ofNat_of_zero_le h0
 have hp:2 ^ k≤2 ^ 32:=Nat.pow_le_pow_right (by omega) hk
 have hp0:=Nat.two_pow_pos k
 have hx:n &&& (2 ^ k - 1)<2 ^ 64:=Nat.and_lt_two_pow _ (by omega)
 have e1:(BitVec.ofInt 64 (n:Int)).toNat=n:=by
  rw [BitVec.ofInt_natCast,BitVec.toNat_ofNat];exact Nat.mod_eq_of_lt (by omega)
 have e2:(BitVec.ofInt 64 ((2 ^ k - 1:Nat):Int)).toNat=2 ^ k - 1:=by
  rw [BitVec.ofInt_natCast,BitVec.toNat_ofNat];exact Nat.mod_eq_of_lt (by omega)
 show IntKind.u64.wrap ((BitVec.ofInt 64 (n:Int) &&& BitVec.ofInt 64 ((2 ^ k - 1:Nat):Int)).toNat:Int)=_
 rw [BitVec.toNat_and,e1,e2,Nat.and_two_pow_sub_one_eq_mod]
 have hr:n%2 ^ k<2 ^ k:=Nat.mod_lt _ hp0
 rw [←Int.natCast_emod]
 generalize n%2 ^ k=r at hr ⊢
 have hr2:r<2 ^ 32:=Nat.lt_of_lt_of_le hr hp
 simp [IntKind.wrap,IntKind.bits,IntKind.signed]
 omega
theorem Qv (op:Int) (w:World) (h:16≤op∧op≤18):Calls Tryz.prog 74 #[.int .i64 op] w fun e w'=>e = .returned (.int .i64 (Ej op))∧w=w':=by
 obtain rfl | rfl | rfl:op=16∨op=17∨op=18:=by omega
 all_goals
  go_enter Tryz.func74,Tryz.ntmps74
  go_wp2
  go_ret
  exact⟨rfl,rfl⟩
theorem W8 (x many:Int) (w:World) (h:many=1∨many=2∨many=4) (h0:0≤x) (h1:x≤4294967295):Calls Tryz.prog 76 #[.int .u32 x, .int .i64 many] w fun e w'=>e = .returned (.int .u32 (O3 x many))∧w=w':=by
 have e1:=Wr x 8 255 (by omega) (by decide) h0 h1
 have e2:=Wr x 16 65535 (by omega) (by decide) h0 h1
 have e4:=Wr x 32 4294967295 (by omega) (by decide) h0 h1
 rcases h with rfl | rfl | rfl
 all_goals
  go_enter Tryz.func76,Tryz.ntmps76
  go_wp2
  go_ret
  refine⟨Ca ?_,rfl⟩
  unfold O3
  first | rfl | (simp;done) | (simp;omega)
theorem U6 (op:Int) (w:World) (h:19≤op∧op≤27):Calls Tryz.prog 101 #[.int .i64 op] w fun e w'=>e = .returned (.int .i64 (Tx op))∧w=w':=by
 have built_i:Tryz.prog.built 183 [(0, .int .i64 28),(1, .int .i64 31),(2, .int .i64 32),(3, .int .i64 33),(4, .int .i64 36),(5, .int .i64 37),(6, .int .i64 30),(7, .int .i64 34),(8, .int .i64 35)]=some #[.int .i64 28, .int .i64 31, .int .i64 32, .int .i64 33, .int .i64 36, .int .i64 37, .int .i64 30, .int .i64 34, .int .i64 35]:=by kernel_rfl
 have ix0:∀ w,(Instr.index 183 (.agg #[.int .i64 28, .int .i64 31, .int .i64 32, .int .i64 33, .int .i64 36, .int .i64 37, .int .i64 30, .int .i64 34, .int .i64 35]) (.int .i64 0)).run Tryz.prog w = .ok (.int .i64 28) w:=fun _=>by kernel_rfl
 have ix1:∀ w,(Instr.index 183 (.agg #[.int .i64 28, .int .i64 31, .int .i64 32, .int .i64 33, .int .i64 36, .int .i64 37, .int .i64 30, .int .i64 34, .int .i64 35]) (.int .i64 1)).run Tryz.prog w = .ok (.int .i64 31) w:=fun _=>by kernel_rfl
 have ix2:∀ w,(Instr.index 183 (.agg #[.int .i64 28, .int .i64 31, .int .i64 32, .int .i64 33, .int .i64 36, .int .i64 37, .int .i64 30, .int .i64 34, .int .i64 35]) (.int .i64 2)).run Tryz.prog w = .ok (.int .i64 32) w:=fun _=>by kernel_rfl
 have ix3:∀ w,(Instr.index 183 (.agg #[.int .i64 28, .int .i64 31, .int .i64 32, .int .i64 33, .int .i64 36, .int .i64 37, .int .i64 30, .int .i64 34, .int .i64 35]) (.int .i64 3)).run Tryz.prog w = .ok (.int .i64 33) w:=fun _=>by kernel_rfl
 have ix4:∀ w,(Instr.index 183 (.agg #[.int .i64 28, .int .i64 31, .int .i64 32, .int .i64 33, .int .i64 36, .int .i64 37, .int .i64 30, .int .i64 34, .int .i64 35]) (.int .i64 4)).run Tryz.prog w = .ok (.int .i64 36) w:=fun _=>by kernel_rfl
 have ix5:∀ w,(Instr.index 183 (.agg #[.int .i64 28, .int .i64 31, .int .i64 32, .int .i64 33, .int .i64 36, .int .i64 37, .int .i64 30, .int .i64 34, .int .i64 35]) (.int .i64 5)).run Tryz.prog w = .ok (.int .i64 37) w:=fun _=>by kernel_rfl
 have ix6:∀ w,(Instr.index 183 (.agg #[.int .i64 28, .int .i64 31, .int .i64 32, .int .i64 33, .int .i64 36, .int .i64 37, .int .i64 30, .int .i64 34, .int .i64 35]) (.int .i64 6)).run Tryz.prog w = .ok (.int .i64 30) w:=fun _=>by kernel_rfl
 have ix7:∀ w,(Instr.index 183 (.agg #[.int .i64 28, .int .i64 31, .int .i64 32, .int .i64 33, .int .i64 36, .int .i64 37, .int .i64 30, .int .i64 34, .int .i64 35]) (.int .i64 7)).run Tryz.prog w = .ok (.int .i64 34) w:=fun _=>by kernel_rfl
 have ix8:∀ w,(Instr.index 183 (.agg #[.int .i64 28, .int .i64 31, .int .i64 32, .int .i64 33, .int .i64 36, .int .i64 37, .int .i64 30, .int .i64 34, .int .i64 35]) (.int .i64 8)).run Tryz.prog w = .ok (.int .i64 35) w:=fun _=>by kernel_rfl
 obtain rfl | rfl | rfl | rfl | rfl | rfl | rfl | rfl | rfl:op=19∨op=20∨op=21∨op=22∨op=23∨op=24∨op=25∨op=26∨op=27:=by omega
 all_goals
  go_enter Tryz.func101,Tryz.ntmps101
  go_wp2_with(refine Ao rfl 183 _ rfl [(0, .int .i64 28),(1, .int .i64 31),(2, .int .i64 32),(3, .int .i64 33),(4, .int .i64 36),(5, .int .i64 37),(6, .int .i64 30),(7, .int .i64 34),(8, .int .i64 35)] rfl _ built_i ?_)
  go_ret
  exact⟨rfl,rfl⟩
theorem Ju (i:Ins) (w:World):Calls Tryz.prog 52 #[.agg i.cells] w fun e w'=>e = .returned (.bool (Bf i))∧Below w.heap.size w w':=by
 obtain⟨op,rd,rs1,rs2,imm⟩:=i
 generalize hX:Bf ⟨op,rd,rs1,rs2,imm⟩=X
 have HX:=Lib.hid hX
 clear hX
 go_enter Tryz.func52,Tryz.ntmps52
 go_wp2
 all_goals
  go_ret
  refine⟨Er ?_,(Below.refl _ _).alloc (Nat.le_refl _) _⟩
  rw [←HX.out,Bool.eq_iff_iff]
  unfold Bf
  simp at *
  try omega
theorem Lo (c:Com) (cause:Int) (w:World):Calls Tryz.prog 73 #[.agg c.cells, .int .i64 cause] w fun e w'=>e = .returned (.agg (Aw c.pc cause).cells)∧Below w.heap.size w w':=by
 obtain⟨c0,c1,c2,c3,c4,c5,c6,c7,c8,c9,c10⟩:=c
 dsimp only
 go_enter Tryz.func73,Tryz.ntmps73
 go_upto_region 1 with(fail)
 go_simp
 refine Au fun wa hq=>?_
 have hB:Blk wa w.heap.size 67 #[.int .u32 c0, .int .u32 c1, .int .i64 c2, .int .i64 c3, .int .i64 c4, .int .u32 c5, .int .u32 c6, .int .i64 c7, .int .u32 c8, .bool c9, .int .u32 c10]:=by rw [hq];exact(Blk.new w _ _).alloc _
 have hR:Blk wa (w.heap.size+1) 67 #[.int .u32 0, .int .u32 0, .int .i64 0, .int .i64 0, .int .i64 0, .int .u32 0, .int .u32 0, .int .i64 0, .int .u32 0, .bool false, .int .u32 0]:=by rw [hq];exact Blk.newAt (w.alloc _) 67 _ (by simp)
 have hb:Below w.heap.size w wa:=by rw [hq];exact((Below.refl _ _).alloc (Nat.le_refl _) _).alloc (by simp) _
 clear hq
 have d0:=hB.cell 0
 have zB:=hB.lt
 go_wp2_with(refine Ab rfl 67 _ _ rfl (w.heap.size+1) #[.int .u32 c0, .int .u32 c0, .int .i64 2, .int .i64 cause, .int .i64 0, .int .u32 0, .int .u32 0, .int .i64 0, .int .u32 0, .bool false, .int .u32 0] rfl rfl 67 _ hR Ar rfl Dw ?_;intro w5 hB5 hg5)
 exact bodyPost_ret (v := .agg (Aw c0 cause).cells) (Az rfl _ _ (w.heap.size+1) 67 _ _ rfl hB5 Tryz.underlying67 rfl Ar) rfl ⟨rfl,below_grown hb hg5 hb.size (Nat.le_succ _)⟩
theorem Aig {k:IntKind} {x y:Int} {X:Int×Int} (h:X=(x,y)):Ending.returned (.tuple #[.int k x, .int k y])=Ending.returned (.tuple #[.int k X.1, .int k X.2]):=by rw [h]
theorem Me (i:Ins) (pc a b:Int) (w:World) (ha0:0≤a) (ha1:a≤4294967295) (hb0:0≤b) (hb1:b≤4294967295) :
  Calls Tryz.prog 77 #[.agg i.cells, .int .u32 pc, .int .u32 a, .int .u32 b] w fun e w'=>e = .returned (.tuple #[.int .u32 (Fu i pc a b).1, .int .u32 (Fu i pc a b).2])∧Below w.heap.size w w':=by
 obtain⟨op,rd,rs1,rs2,imm⟩:=i
 have hN:=Ahh ((a+imm%4294967296)%4294967296) (by omega) (by omega)
 generalize hX:Fu ⟨op,rd,rs1,rs2,imm⟩ pc a b=X
 have HX:=Lib.hid hX
 clear hX
 go_enter Tryz.func77,Tryz.ntmps77
 go_upto_region 1 with(fail)
 go_simp
 refine Au fun wa hq=>?_
 have hB:Blk wa w.heap.size 73 #[.int .i64 op, .int .i64 rd, .int .i64 rs1, .int .i64 rs2, .int .i32 imm]:=by rw [hq];exact Blk.new w _ _
 have hb:Below w.heap.size w wa:=by rw [hq];exact(Below.refl _ _).alloc (Nat.le_refl _) _
 clear hq
 have d0:=hB.cell 0
 have d4:=hB.cell 4
 have zB:=hB.lt
 go_wp2_with(first
  |(go_at_call 99;(with_reducible refine(Ael op a b _ ha0 ha1 hb0 hb1).mono ?_);rintro e w2 ⟨rfl,rfl⟩)
  |(go_at_call 101;(with_reducible refine(U6 op _ (by simp at *;omega)).mono ?_);rintro e w2 ⟨rfl,rfl⟩)
  |(go_at_call 100;(with_reducible refine(Acr (Tx op) a (imm%4294967296) _ ha0 ha1 (by omega) (by omega)).mono ?_);rintro e w2 ⟨rfl,hb2⟩;replace hb:=hb.trans (hb2.mono hb.size))
  |(go_at_call 100;(with_reducible refine(Acr op a b _ ha0 ha1 hb0 hb1).mono ?_);rintro e w2 ⟨rfl,hb2⟩;replace hb:=hb.trans (hb2.mono hb.size)))
 all_goals
  go_ret2
  refine⟨Aig ?_,hb⟩
  rw [←HX.out]
  clear HX d0 d4 hB
  simp at *
  unfold Fu
  dsimp only
  (repeat' split)<;>first | (exfalso;omega) | (simp [u32];done) | (simp [u32];omega) | (simp [u32, *];done) | (exfalso;simp_all;done)
theorem Q4 (A:Option Addr) (cap:Nat) (m:List Int) (pc:Int) (w:World) (h0:0≤pc) (h1:pc≤4294967295) (hl:m.length≤9223372036854775807) (hb:Bytes m) (hA:Aq w w.heap.size .u8 A m) :
  Calls Tryz.prog 51 #[.slice A m.length cap, .int .u32 pc] w fun e w'=>e = .returned (.tuple #[.agg (Da m pc).1.cells, .int .i64 (Da m pc).2])∧Below w.heap.size w w':=by
 generalize hX:Da m pc=X
 have HX:=Lib.hid hX
 clear hX
 have hx:=Nc hb 13 pc
 have CL:=Lib.hid (fun W hW=>Zj A cap m 13 pc W h0 h1 hl hb hW)
 have HX2:Hid (X=if (Cd m 13 pc).2=true then (match Ld (Cd m 13 pc).1 with | some i=>((i,0):Ins×Int) | none=>(Fs,2)) else (Fs,1)):=Lib.hid HX.out.symm
 clear HX
 generalize Cd m 13 pc=L at *
 obtain⟨x,ok⟩:=L
 dsimp only at hx CL HX2
 have CD:=Lib.hid (fun W=>Aa0 x W hx.1 hx.2)
 go_enter Tryz.func51,Tryz.ntmps51
 go_upto_region 1 with(fail)
 go_simp
 refine Au fun wa hq=>?_
 have hB:Blk wa w.heap.size 73 Q6.cells:=by rw [hq];exact Blk.new w _ _
 have hbl:Below w.heap.size w wa:=by rw [hq];exact(Below.refl _ _).alloc (Nat.le_refl _) _
 have hA2:Aq wa wa.heap.size .u8 A m:=(hA.below hbl).mono hbl.size
 clear hq
 rcases ok with _ | _
 ·have hX:X=(Fs,1):=HX2.out
  subst hX
  clear HX2
  go_wp2_with(first
   |(go_at_call 72;(with_reducible refine(CL.out _ hA2).mono ?_);rintro e w2 ⟨rfl,rfl⟩)
   |(refine Ab rfl 73 _ _ rfl w.heap.size Fs.cells rfl rfl 73 _ hB A4 rfl Do ?_;intro w5 hB5 hg5;have hBc:=hB5.cell))
  exact bodyPost_ret (v := .tuple #[.agg Fs.cells, .int .i64 1]) (by simp [results,Tryz.results51,go_sem,hBc]) rfl ⟨rfl,below_grown hbl hg5 hbl.size (Nat.le_refl _)⟩
 ·rcases hd:Ld x with _ | i
  ·have hX:X=(Fs,2):=by have h:=HX2.out;rw [hd] at h;exact h
   subst hX
   rw [hd] at CD
   clear HX2
   go_upto_region 5 with(first
    |(go_at_call 72;(with_reducible refine(CL.out _ hA2).mono ?_);rintro e w2 ⟨rfl,rfl⟩)
    |(go_at_call 90;(with_reducible refine(CD.out _).mono ?_);rintro e w3 ⟨rfl,hb3⟩;replace hbl:=hbl.trans (hb3.mono hbl.size);replace hB:=hB.ext hb3))
   try go_simp
   refine Au fun wb hq=>?_
   have hB2:Blk wb w.heap.size 73 Q6.cells:=by rw [hq];exact hB.alloc _
   have hI:Blk wb w3.heap.size 73 Q6.cells:=by rw [hq];exact Blk.new w3 _ _
   have hbl2:Below w.heap.size w wb:=by rw [hq];exact hbl.alloc hbl.size _
   clear hq
   go_wp2_with(first
    |(refine Ac rfl 73 _ rfl w3.heap.size rfl 73 _ _ hI Tryz.underlying73 rfl A4 ?_)
    |(refine Ab rfl 73 _ _ rfl w.heap.size Fs.cells rfl rfl 73 _ hB2 A4 rfl Do ?_;intro w5 hB5 hg5;have hBc:=hB5.cell))
   exact bodyPost_ret (v := .tuple #[.agg Fs.cells, .int .i64 2]) (by simp [results,Tryz.results51,go_sem,hBc]) rfl ⟨rfl,below_grown hbl2 hg5 hbl2.size (Nat.le_refl _)⟩
  ·have hX:X=(i,0):=by have h:=HX2.out;rw [hd] at h;exact h
   subst hX
   rw [hd] at CD
   replace CD:Hid (∀ W,Calls Tryz.prog 90 #[.int .u32 x] W fun e w'=>e = .returned (.tuple #[.agg i.cells, .bool true])∧Below W.heap.size W w'):=CD
   clear HX2
   go_upto_region 5 with(first
    |(go_at_call 72;(with_reducible refine(CL.out _ hA2).mono ?_);rintro e w2 ⟨rfl,rfl⟩)
    |(go_at_call 90;(with_reducible refine(CD.out _).mono ?_);rintro e w3 ⟨rfl,hb3⟩;replace hbl:=hbl.trans (hb3.mono hbl.size);replace hB:=hB.ext hb3))
   try go_simp
   refine Au fun wb hq=>?_
   have hB2:Blk wb w.heap.size 73 Q6.cells:=by rw [hq];exact hB.alloc _
   have hI:Blk wb w3.heap.size 73 i.cells:=by rw [hq];exact Blk.new w3 _ _
   have hbl2:Below w.heap.size w wb:=by rw [hq];exact hbl.alloc hbl.size _
   clear hq
   go_wp2_with(first
    |(refine Ac rfl 73 _ rfl w3.heap.size rfl 73 _ _ hI Tryz.underlying73 rfl A4 ?_)
    |(refine Ab rfl 73 _ _ rfl w.heap.size i.cells rfl rfl 73 _ hB2 A4 rfl Do ?_;intro w5 hB5 hg5;have hBc:=hB5.cell))
   exact bodyPost_ret (v := .tuple #[.agg i.cells, .int .i64 0]) (by simp [results,Tryz.results51,go_sem,hBc]) rfl ⟨rfl,below_grown hbl2 hg5 hbl2.size (Nat.le_refl _)⟩
theorem Agj {α β:Type} {K:α→β→Prop} {a:α} {w:β} (h:∀ w',w'=w→K a w'):K a w:=h w rfl
section
variable {P:Program} {w:World} {o:Oper} {a:Act} {Q:Exit→Act→World→Prop}
theorem Js {K:Act→World→Prop} (ty:TypeId) (x y:Operand) (ho:o.op = .store ty x y) (g:Nat) (cells:Array Value) (hx:a.eval x = .pointer (some ⟨g,0,none⟩)) (hy:a.eval y = .agg cells)
  (t:TypeId) (old:Array Value) (hg:Blk w g t old) (hi:(P.info? ty).map (·.size)=some cells.size) (hn:cells.size=old.size) (h1:cells.all (·.oneCell')=true)
  (h:∀ w',Blk w' g t cells→w.grownBy w' (some g)→K (a.put o.dst undef) w'):o.wp P a w K Q:=
 Cm ty x y ho g 0 cells hx hy t old hg hi (by omega) h1 fun w' h2 h3=>h w' (by rwa [Jr _ _ hn] at h2) h3
end
structure G6 (w:World) (b o:Nat) (h:Al):Prop where
 lt:b<w.heap.size
 reg:∀ i,i<32→w.cell? ⟨b,o+i,none⟩=some (.int .u32 (h.regs.getD i 0))
 pc:w.cell? ⟨b,o+32,none⟩=some (.int .u32 h.pc)
 st:w.cell? ⟨b,o+33,none⟩=some (.int .i64 h.state)
 ca:w.cell? ⟨b,o+34,none⟩=some (.int .i64 h.cause)
theorem G6.below {w w':World} {B b o:Nat} {h:Al} (hh:G6 w b o h) (hb:Below B w w') (hB:b<B):G6 w' b o h:=
 ⟨Nat.lt_of_lt_of_le hh.lt hb.size,fun i hi=>(hb.cell (p:=⟨b,o+i,none⟩) hB).trans (hh.reg i hi),(hb.cell (p:=⟨b,o+32,none⟩) hB).trans hh.pc,(hb.cell (p:=⟨b,o+33,none⟩) hB).trans hh.st,(hb.cell (p:=⟨b,o+34,none⟩) hB).trans hh.ca⟩
theorem G6.ext {w w':World} {b o:Nat} {h:Al} (hh:G6 w b o h) (hb:Below w.heap.size w w'):G6 w' b o h:=hh.below hb hh.lt
theorem G6.of_blk {w:World} {b:Nat} {h:Al} {t:TypeId} (hl:h.regs.length=32) (hB:Blk w b t h.cells):G6 w b 0 h:=by
 obtain⟨c1,c2,c3⟩:=Al.cells_pc hl
 refine⟨hB.lt,fun i hi=>?_,(hB.cell _).trans c1,(hB.cell _).trans c2,(hB.cell _).trans c3⟩
 rw [Nat.zero_add]
 exact(hB.cell i).trans (Al.cells_reg (by omega))
theorem Ad0 (i:Ins) (h:Al) (b o:Nat) (A:Option Addr) (cap:Nat) (m:List Int) (w:World) (hh:h.Wf) (ha0:0≤i.rs1) (ha1:i.rs1≤31) (hb0:0≤i.rs2) (hb1:i.rs2≤31) (hH:G6 w b o h) (hl:m.length≤9223372036854775807) (hb:Bytes m) (hA:Aq w w.heap.size .u8 A m) (cA:11≤i.op∧i.op≤15) :
  Calls Tryz.prog 41 #[.agg i.cells, .pointer (some ⟨b,o,none⟩), .slice A m.length cap] w fun e w'=>e = .returned (.agg (Cl i h m).cells)∧Below w.heap.size w w':=by
 generalize hX:Cl i h m=X
 have HX:=Lib.hid hX
 clear hX
 have ra:=hh.reg i.rs1
 have rb:=hh.reg i.rs2
 have cr:=hH.reg
 have cpc:=hH.pc
 have zb:=hH.lt
 have hrd:∀ k:Nat,h.reg (k:Int)=h.regs.getD k 0:=fun k=>rfl
 have CG:=Lib.hid (fun W=>Ju i W)
 have CR:=Lib.hid (fun W=>Me i h.pc (h.reg i.rs1) (h.reg i.rs2) W ra.1 ra.2 rb.1 rb.2)
 obtain⟨op,rd,rs1,rs2,imm⟩:=i
 dsimp only at *
 obtain⟨r1,rfl⟩:=Int.eq_ofNat_of_zero_le ha0
 obtain⟨r2,rfl⟩:=Int.eq_ofNat_of_zero_le hb0
 have c1:=cr r1 (by omega)
 have c2:=cr r2 (by omega)
 have c17:=cr 17 (by omega)
 have c10:=cr 10 (by omega)
 have h17:=hrd 17
 have h10:=hrd 10
 rw [←hrd] at c1 c2 c17 c10
 clear cr hrd
 go_enter Tryz.func41,Tryz.ntmps41
 go_upto_region 1 with(fail)
 go_simp
 refine Au fun wa hq=>?_
 have hB:Blk wa w.heap.size 73 #[.int .i64 op, .int .i64 rd, .int .i64 r1, .int .i64 r2, .int .i32 imm]:=by rw [hq];exact(Blk.new w _ _).alloc _
 have hR:Blk wa (w.heap.size+1) 67 #[.int .u32 0, .int .u32 0, .int .i64 0, .int .i64 0, .int .i64 0, .int .u32 0, .int .u32 0, .int .i64 0, .int .u32 0, .bool false, .int .u32 0]:=by rw [hq];exact Blk.newAt (w.alloc _) 67 _ (by simp)
 have hbl:Below w.heap.size w wa:=by rw [hq];exact((Below.refl _ _).alloc (Nat.le_refl _) _).alloc (by simp) _
 clear hq
 have zB:=hB.lt
 have zR:=hR.lt
 have hHa:=hH.ext hbl
 refine As (by kernel_rfl) (by kernel_rfl) ?_
 repeat'(first
  |refine Br rfl ?_
  |(refine' Bg _ (fun wq hwq K hK=>?_) ?_ ?_;rotate_left 1;(· have e1:=(hbl.trans (hwq.mono hbl.size)).cell (p:=⟨b,o+r1,none⟩) zb;rw [c1] at e1;have e2:=(hbl.trans (hwq.mono hbl.size)).cell (p:=⟨b,o+r2,none⟩) zb;rw [c2] at e2;have d2:=(hB.ext hwq).cell 2;have d3:=(hB.ext hwq).cell 3;go_wp2_with(fail);all_goals exact hK _ hwq);rfl)
  |((first | refine Bi rfl rfl rfl ?_ ?_ | refine Bh rfl rfl rfl ?_ ?_)<;>intro hc<;>first | (cases hc;done) | ((try cases hc);simp only [Act.put,sA,sS,sZ]))
  |refine Bj rfl rfl rfl ?_)
 refine Ch ?_
 intro w4 hw4
 replace hbl:=hbl.trans (hw4.mono hbl.size)
 replace hB:=hB.ext hw4
 replace hR:=hR.ext hw4
 have hpcq:w4.cell? ⟨b,o+32,none⟩=some (.int .u32 h.pc):=(hbl.cell (p:=⟨b,o+32,none⟩) zb).trans cpc
 have built_c:Tryz.prog.built 67 [(0, .int .u32 h.pc),(1, .int .u32 ((h.pc+4)%4294967296))]=some #[.int .u32 h.pc, .int .u32 ((h.pc+4)%4294967296), .int .i64 0, .int .i64 0, .int .i64 0, .int .u32 0, .int .u32 0, .int .i64 0, .int .u32 0, .bool false, .int .u32 0]:=by kernel_rfl
 clear hw4 zB zR hHa
 have zb4:=Nat.lt_of_lt_of_le zb hbl.size
 go_upto_region 2 with(fail)
 try go_simp
 refine Ae 375 648 1023 [0,1,2,3,4,5,6,7,8,9,10,11] (by kernel_rfl) (by kernel_rfl) (by kernel_rfl) rfl ?_
 refine rR (fun wq hwq=>hwq.at_ zb4 hpcq) ?_
 refine oB (fun w1 hw1 K hK=>?_)
 have hbw:Below w4.heap.size w4 w1:=by rw [hw1];exact(Below.refl _ _).drew
 clear hw1
 replace hbl:=hbl.trans (hbw.mono hbl.size)
 replace hB:=hB.ext hbw
 replace hR:=hR.ext hbw
 clear hpcq
 go_wp2_with(fail)
 refine hK _ _ (hbw.alloc hbw.size _) ?_
 simp only [Act.put,sA,sS,sZ]
 clear hK K
 refine oQ rfl rfl ?_
 refine oS (fun wx hwx K hK=>?_)
 subst hwx
 have hgt:w.heap.size+1<w1.heap.size:=hR.lt
 have hC:=Blk.new w1 67 #[.int .u32 0, .int .u32 0, .int .i64 0, .int .i64 0, .int .i64 0, .int .u32 0, .int .u32 0, .int .i64 0, .int .u32 0, .bool false, .int .u32 0]
 replace hB:=hB.alloc (.cells #[.int .u32 0, .int .u32 0, .int .i64 0, .int .i64 0, .int .i64 0, .int .u32 0, .int .u32 0, .int .i64 0, .int .u32 0, .bool false, .int .u32 0] 67)
 replace hR:=hR.alloc (.cells #[.int .u32 0, .int .u32 0, .int .i64 0, .int .i64 0, .int .i64 0, .int .u32 0, .int .u32 0, .int .i64 0, .int .u32 0, .bool false, .int .u32 0] 67)
 have hs1:=hbl.size
 replace hbl:=hbl.alloc hbl.size (.cells #[.int .u32 0, .int .u32 0, .int .i64 0, .int .i64 0, .int .i64 0, .int .u32 0, .int .u32 0, .int .i64 0, .int .u32 0, .bool false, .int .u32 0] 67)
 refine Js 67 _ _ rfl w1.heap.size #[.int .u32 h.pc, .int .u32 ((h.pc+4)%4294967296), .int .i64 0, .int .i64 0, .int .i64 0, .int .u32 0, .int .u32 0, .int .i64 0, .int .u32 0, .bool false, .int .u32 0] rfl rfl 67 _ hC Ar rfl Dw ?_
 intro w5 hB5 hg5
 have hB1:=hB.grown hg5 (by simp;omega)
 have hR1:=hR.grown hg5 (by simp;omega)
 have hb1:=below_grown hbl hg5 hbl.size hs1
 refine hK _ _ (fun _=>True) trivial ?_
 simp only [Act.put,sA,sS,sZ]
 clear hK K hB hR hbl hs1 hC hg5 zb4 hbw built_c
 refine Aj ?_
 rintro w6 rfl
 have hH6:=hH.ext hb1
 have hA6:Aq w6 w6.heap.size .u8 A m:=(hA.below hb1).mono hb1.size
 generalize w1.heap.size=g at *
 clear cpc c1 c2 c17 c10 hH hA
 have d0:=hB1.cell 0
 have d4:=hB1.cell 4
 have hat:u32 (h.reg r1+imm)=(h.reg r1+imm)%4294967296:=rfl
 obtain⟨at',hat'⟩:∃ x,x=(h.reg r1+imm)%4294967296:=⟨_,rfl⟩
 have at0:0≤at':=by omega
 have at1:at'≤4294967295:=by omega
 have Hat:=Lib.hid hat'
 have t1:decide (11≤op)=true:=decide_eq_true cA.1
 have t2:decide (op≤15)=true:=decide_eq_true cA.2
 have CL:=Lib.hid (fun W hW=>Zj A cap m op at' W at0 at1 hl hb hW)
 have HX2:Hid (X=if (Cd m op at').2=true then (⟨h.pc,u32 (h.pc+4),0,0,if Bf ⟨op,rd,r1,r2,imm⟩=true then rd else 0,if Bf ⟨op,rd,r1,r2,imm⟩=true then (Cd m op at').1 else 0,0,0,0,false,0⟩:Com) else Aw h.pc 3):=by
  refine Lib.hid ?_
  rw [←HX.out]
  unfold Cl
  rw [if_pos cA]
  dsimp only
  rw [hat,←hat']
 clear HX cA
 generalize Cd m op at'=L at *
 obtain⟨x,ok⟩:=L
 dsimp only at CL HX2
 subst hat'
 rcases ok with _ | _
 ·have hX:X=Aw h.pc 3:=HX2.out
  subst hX
  clear HX2 CG CR
  go_wp2_with(first
   |(go_at_call 72;(with_reducible refine(CL.out _ hA6).mono ?_);rintro e w2 ⟨rfl,rfl⟩)
   |(go_at_call 74;(with_reducible refine(CB.out _).mono ?_);rintro e w2 ⟨rfl,rfl⟩)
   |(go_at_call 75;(with_reducible refine(CT.out _).mono ?_);rintro e w2 ⟨rfl,rfl⟩)
   |(refine Ac rfl 67 _ rfl g rfl 67 _ _ hB5 Tryz.underlying67 rfl Ar ?_)
   |(go_at_call 73;(with_reducible refine(Lo ⟨h.pc,(h.pc+4)%4294967296,0,0,0,0,0,0,0,false,0⟩ 3 _).mono ?_);rintro e w7 ⟨rfl,hb7⟩;replace hR1:=hR1.ext hb7;replace hb1:=hb1.trans (hb7.mono hb1.size))
   |(refine Ab rfl 67 _ _ rfl (w.heap.size+1) (Aw h.pc 3).cells rfl rfl 67 _ hR1 Ar rfl Dw ?_;intro w8 hB8 hg8))
  exact bodyPost_ret (v := .agg (Aw h.pc 3).cells) (Az rfl _ _ (w.heap.size+1) 67 _ _ rfl hB8 Tryz.underlying67 rfl Ar) rfl ⟨rfl,below_grown hb1 hg8 hb1.size (Nat.le_succ _)⟩
 ·have HX3:Hid (X=(⟨h.pc,u32 (h.pc+4),0,0,if Bf ⟨op,rd,r1,r2,imm⟩=true then rd else 0,if Bf ⟨op,rd,r1,r2,imm⟩=true then x else 0,0,0,0,false,0⟩:Com)):=HX2
  clear HX2 CR
  have c5:=hB5.cell 5
  have f5:=hB5.frozen 5
  go_upto_region 26 with(go_at_call 72;(with_reducible refine(CL.out _ hA6).mono ?_);rintro e w2 ⟨rfl,rfl⟩)
  try go_simp
  refine Agj fun wa hq=>?_
  have hC:Blk wa g 67 #[.int .u32 h.pc, .int .u32 ((h.pc+4)%4294967296), .int .i64 0, .int .i64 0, .int .i64 0, .int .u32 x, .int .u32 0, .int .i64 0, .int .u32 0, .bool false, .int .u32 0]:=by rw [hq];exact hB5.set 5 _
  have hBw:Blk wa w.heap.size 73 #[.int .i64 op, .int .i64 rd, .int .i64 r1, .int .i64 r2, .int .i32 imm]:=by rw [hq];exact hB1.farAt (by omega) _
  have hRw:Blk wa (w.heap.size+1) 67 #[.int .u32 0, .int .u32 0, .int .i64 0, .int .i64 0, .int .i64 0, .int .u32 0, .int .u32 0, .int .i64 0, .int .u32 0, .bool false, .int .u32 0]:=by rw [hq];exact hR1.farAt (by omega) _
  have hbl:Below w.heap.size w wa:=by rw [hq];exact Ai (by omega) hb1
  clear hq c5 f5 hB5 hB1 hR1 hb1 hH6 hA6 CL t1 t2
  generalize Bf ⟨op,rd,r1,r2,imm⟩=gv at *
  rcases gv with _ | _
  ·obtain rfl:X=⟨h.pc,u32 (h.pc+4),0,0,0,0,0,0,0,false,0⟩:=HX3.out
   clear HX3
   go_upto_region 28 with(first
    |(refine Ac rfl 73 _ rfl w.heap.size rfl 73 _ _ hBw Tryz.underlying73 rfl A4 ?_)
    |(go_at_call 52;(with_reducible refine(CG.out _).mono ?_);rintro e w7 ⟨rfl,hb7⟩;replace hC:=hC.ext hb7;replace hRw:=hRw.ext hb7;replace hBw:=hBw.ext hb7;replace hbl:=hbl.trans (hb7.mono hbl.size)))
   try go_simp
   have f5:=hC.frozen 5
   have c5:=hC.cell 5
   replace hRw:=hRw.farAt (b:=g) (off:=5) (Nat.ne_of_lt hgt) (.int .u32 0)
   replace hbl:=Ai (off:=5) (u := .int .u32 0) (Nat.le_trans (Nat.le_succ _) (Nat.le_of_lt hgt)) hbl
   replace hC:=hC.set 5 (.int .u32 0)
   go_wp2_with(first
    |(refine Ac rfl 67 _ rfl g rfl 67 _ _ hC Tryz.underlying67 rfl Ar ?_)
    |(refine Ab rfl 67 _ _ rfl (w.heap.size+1) (Com.mk h.pc (u32 (h.pc+4)) 0 0 0 0 0 0 0 false 0).cells rfl rfl 67 _ hRw Ar rfl Dw ?_;intro w8 hB8 hg8))
   exact bodyPost_ret (v := .agg (Com.mk h.pc (u32 (h.pc+4)) 0 0 0 0 0 0 0 false 0).cells) (Az rfl _ _ (w.heap.size+1) 67 _ _ rfl hB8 Tryz.underlying67 rfl Ar) rfl ⟨rfl,below_grown hbl hg8 hbl.size (Nat.le_succ _)⟩
  ·obtain rfl:X=⟨h.pc,u32 (h.pc+4),0,0,rd,x,0,0,0,false,0⟩:=HX3.out
   clear HX3
   go_upto_region 27 with(first
    |(refine Ac rfl 73 _ rfl w.heap.size rfl 73 _ _ hBw Tryz.underlying73 rfl A4 ?_)
    |(go_at_call 52;(with_reducible refine(CG.out _).mono ?_);rintro e w7 ⟨rfl,hb7⟩;replace hC:=hC.ext hb7;replace hRw:=hRw.ext hb7;replace hBw:=hBw.ext hb7;replace hbl:=hbl.trans (hb7.mono hbl.size)))
   try go_simp
   have f4:=hC.frozen 4
   have c4:=hC.cell 4
   have i1:=hBw.cell 1
   replace hRw:=hRw.farAt (b:=g) (off:=4) (Nat.ne_of_lt hgt) (.int .i64 rd)
   replace hbl:=Ai (off:=4) (u := .int .i64 rd) (Nat.le_trans (Nat.le_succ _) (Nat.le_of_lt hgt)) hbl
   replace hC:=hC.set 4 (.int .i64 rd)
   go_wp2_with(first
    |(refine Ac rfl 67 _ rfl g rfl 67 _ _ hC Tryz.underlying67 rfl Ar ?_)
    |(refine Ab rfl 67 _ _ rfl (w.heap.size+1) (Com.mk h.pc (u32 (h.pc+4)) 0 0 rd x 0 0 0 false 0).cells rfl rfl 67 _ hRw Ar rfl Dw ?_;intro w8 hB8 hg8))
   exact bodyPost_ret (v := .agg (Com.mk h.pc (u32 (h.pc+4)) 0 0 rd x 0 0 0 false 0).cells) (Az rfl _ _ (w.heap.size+1) 67 _ _ rfl hB8 Tryz.underlying67 rfl Ar) rfl ⟨rfl,below_grown hbl hg8 hbl.size (Nat.le_succ _)⟩
theorem Tj (i:Ins) (h:Al) (b o:Nat) (A:Option Addr) (cap:Nat) (m:List Int) (w:World) (hh:h.Wf) (ha0:0≤i.rs1) (ha1:i.rs1≤31) (hb0:0≤i.rs2) (hb1:i.rs2≤31) (hH:G6 w b o h) (hl:m.length≤9223372036854775807) (hb:Bytes m) (hA:Aq w w.heap.size .u8 A m) (cA:¬ (11≤i.op∧i.op≤15)) (cB:16≤i.op∧i.op≤18) :
  Calls Tryz.prog 41 #[.agg i.cells, .pointer (some ⟨b,o,none⟩), .slice A m.length cap] w fun e w'=>e = .returned (.agg (Cl i h m).cells)∧Below w.heap.size w w':=by
 generalize hX:Cl i h m=X
 have HX:=Lib.hid hX
 clear hX
 have ra:=hh.reg i.rs1
 have rb:=hh.reg i.rs2
 have cr:=hH.reg
 have cpc:=hH.pc
 have zb:=hH.lt
 have hrd:∀ k:Nat,h.reg (k:Int)=h.regs.getD k 0:=fun k=>rfl
 have CG:=Lib.hid (fun W=>Ju i W)
 have CR:=Lib.hid (fun W=>Me i h.pc (h.reg i.rs1) (h.reg i.rs2) W ra.1 ra.2 rb.1 rb.2)
 obtain⟨op,rd,rs1,rs2,imm⟩:=i
 dsimp only at *
 obtain⟨r1,rfl⟩:=Int.eq_ofNat_of_zero_le ha0
 obtain⟨r2,rfl⟩:=Int.eq_ofNat_of_zero_le hb0
 have c1:=cr r1 (by omega)
 have c2:=cr r2 (by omega)
 have c17:=cr 17 (by omega)
 have c10:=cr 10 (by omega)
 have h17:=hrd 17
 have h10:=hrd 10
 rw [←hrd] at c1 c2 c17 c10
 clear cr hrd
 go_enter Tryz.func41,Tryz.ntmps41
 go_upto_region 1 with(fail)
 go_simp
 refine Au fun wa hq=>?_
 have hB:Blk wa w.heap.size 73 #[.int .i64 op, .int .i64 rd, .int .i64 r1, .int .i64 r2, .int .i32 imm]:=by rw [hq];exact(Blk.new w _ _).alloc _
 have hR:Blk wa (w.heap.size+1) 67 #[.int .u32 0, .int .u32 0, .int .i64 0, .int .i64 0, .int .i64 0, .int .u32 0, .int .u32 0, .int .i64 0, .int .u32 0, .bool false, .int .u32 0]:=by rw [hq];exact Blk.newAt (w.alloc _) 67 _ (by simp)
 have hbl:Below w.heap.size w wa:=by rw [hq];exact((Below.refl _ _).alloc (Nat.le_refl _) _).alloc (by simp) _
 clear hq
 have zB:=hB.lt
 have zR:=hR.lt
 have hHa:=hH.ext hbl
 refine As (by kernel_rfl) (by kernel_rfl) ?_
 repeat'(first
  |refine Br rfl ?_
  |(refine' Bg _ (fun wq hwq K hK=>?_) ?_ ?_;rotate_left 1;(· have e1:=(hbl.trans (hwq.mono hbl.size)).cell (p:=⟨b,o+r1,none⟩) zb;rw [c1] at e1;have e2:=(hbl.trans (hwq.mono hbl.size)).cell (p:=⟨b,o+r2,none⟩) zb;rw [c2] at e2;have d2:=(hB.ext hwq).cell 2;have d3:=(hB.ext hwq).cell 3;go_wp2_with(fail);all_goals exact hK _ hwq);rfl)
  |((first | refine Bi rfl rfl rfl ?_ ?_ | refine Bh rfl rfl rfl ?_ ?_)<;>intro hc<;>first | (cases hc;done) | ((try cases hc);simp only [Act.put,sA,sS,sZ]))
  |refine Bj rfl rfl rfl ?_)
 refine Ch ?_
 intro w4 hw4
 replace hbl:=hbl.trans (hw4.mono hbl.size)
 replace hB:=hB.ext hw4
 replace hR:=hR.ext hw4
 have hpcq:w4.cell? ⟨b,o+32,none⟩=some (.int .u32 h.pc):=(hbl.cell (p:=⟨b,o+32,none⟩) zb).trans cpc
 have built_c:Tryz.prog.built 67 [(0, .int .u32 h.pc),(1, .int .u32 ((h.pc+4)%4294967296))]=some #[.int .u32 h.pc, .int .u32 ((h.pc+4)%4294967296), .int .i64 0, .int .i64 0, .int .i64 0, .int .u32 0, .int .u32 0, .int .i64 0, .int .u32 0, .bool false, .int .u32 0]:=by kernel_rfl
 clear hw4 zB zR hHa
 have zb4:=Nat.lt_of_lt_of_le zb hbl.size
 go_upto_region 2 with(fail)
 try go_simp
 refine Ae 375 648 1023 [0,1,2,3,4,5,6,7,8,9,10,11] (by kernel_rfl) (by kernel_rfl) (by kernel_rfl) rfl ?_
 refine rR (fun wq hwq=>hwq.at_ zb4 hpcq) ?_
 refine oB (fun w1 hw1 K hK=>?_)
 have hbw:Below w4.heap.size w4 w1:=by rw [hw1];exact(Below.refl _ _).drew
 clear hw1
 replace hbl:=hbl.trans (hbw.mono hbl.size)
 replace hB:=hB.ext hbw
 replace hR:=hR.ext hbw
 clear hpcq
 go_wp2_with(fail)
 refine hK _ _ (hbw.alloc hbw.size _) ?_
 simp only [Act.put,sA,sS,sZ]
 clear hK K
 refine oQ rfl rfl ?_
 refine oS (fun wx hwx K hK=>?_)
 subst hwx
 have hgt:w.heap.size+1<w1.heap.size:=hR.lt
 have hC:=Blk.new w1 67 #[.int .u32 0, .int .u32 0, .int .i64 0, .int .i64 0, .int .i64 0, .int .u32 0, .int .u32 0, .int .i64 0, .int .u32 0, .bool false, .int .u32 0]
 replace hB:=hB.alloc (.cells #[.int .u32 0, .int .u32 0, .int .i64 0, .int .i64 0, .int .i64 0, .int .u32 0, .int .u32 0, .int .i64 0, .int .u32 0, .bool false, .int .u32 0] 67)
 replace hR:=hR.alloc (.cells #[.int .u32 0, .int .u32 0, .int .i64 0, .int .i64 0, .int .i64 0, .int .u32 0, .int .u32 0, .int .i64 0, .int .u32 0, .bool false, .int .u32 0] 67)
 have hs1:=hbl.size
 replace hbl:=hbl.alloc hbl.size (.cells #[.int .u32 0, .int .u32 0, .int .i64 0, .int .i64 0, .int .i64 0, .int .u32 0, .int .u32 0, .int .i64 0, .int .u32 0, .bool false, .int .u32 0] 67)
 refine Js 67 _ _ rfl w1.heap.size #[.int .u32 h.pc, .int .u32 ((h.pc+4)%4294967296), .int .i64 0, .int .i64 0, .int .i64 0, .int .u32 0, .int .u32 0, .int .i64 0, .int .u32 0, .bool false, .int .u32 0] rfl rfl 67 _ hC Ar rfl Dw ?_
 intro w5 hB5 hg5
 have hB1:=hB.grown hg5 (by simp;omega)
 have hR1:=hR.grown hg5 (by simp;omega)
 have hb1:=below_grown hbl hg5 hbl.size hs1
 refine hK _ _ (fun _=>True) trivial ?_
 simp only [Act.put,sA,sS,sZ]
 clear hK K hB hR hbl hs1 hC hg5 zb4 hbw built_c
 refine Aj ?_
 rintro w6 rfl
 have hH6:=hH.ext hb1
 have hA6:Aq w6 w6.heap.size .u8 A m:=(hA.below hb1).mono hb1.size
 generalize w1.heap.size=g at *
 clear cpc c1 c2 c17 c10 hH hA
 have d0:=hB1.cell 0
 have d4:=hB1.cell 4
 have hat:u32 (h.reg r1+imm)=(h.reg r1+imm)%4294967296:=rfl
 obtain⟨at',hat'⟩:∃ x,x=(h.reg r1+imm)%4294967296:=⟨_,rfl⟩
 have at0:0≤at':=by omega
 have at1:at'≤4294967295:=by omega
 have Hat:=Lib.hid hat'
 obtain rfl | rfl | rfl:op=16∨op=17∨op=18:=by omega
 ·clear cB
  have CB:Hid (∀ W,Calls Tryz.prog 74 #[.int .i64 16] W fun e w'=>e = .returned (.int .i64 1)∧W=w'):=Lib.hid (fun W=>Qv 16 W (by decide))
  have CT:=Lib.hid (fun W=>Du A m.length cap at' 1 W at0 at1 (by decide) (by decide) hl)
  have CW:=Lib.hid (fun W=>W8 (h.reg r2) 1 W (by decide) rb.1 rb.2)
  have HX2:Hid (X=if Bv m.length at' 1=true then (⟨h.pc,u32 (h.pc+4),0,0,0,0,at',1,O3 (h.reg r2) 1,false,0⟩:Com) else Aw h.pc 4):=by
   refine Lib.hid ?_
   rw [←HX.out,hat']
   rfl
  have hg0:Bf ⟨16,rd,r1,r2,imm⟩=false:=by simp [Bf]
  rw [hg0] at CG
  clear HX cA hg0
  generalize Bv m.length at' 1=ok at *
  generalize O3 (h.reg r2) 1=lw at *
  subst hat'
  rcases ok with _ | _
  ·obtain rfl:X=Aw h.pc 4:=HX2.out
   clear HX2 CG CR
   go_wp2_with(first
    |(go_at_call 72;(with_reducible refine(CL.out _ hA6).mono ?_);rintro e w2 ⟨rfl,rfl⟩)
    |(go_at_call 74;(with_reducible refine(CB.out _).mono ?_);rintro e w2 ⟨rfl,rfl⟩)
    |(go_at_call 75;(with_reducible refine(CT.out _).mono ?_);rintro e w2 ⟨rfl,rfl⟩)
    |(refine Ac rfl 67 _ rfl g rfl 67 _ _ hB5 Tryz.underlying67 rfl Ar ?_)
    |(go_at_call 73;(with_reducible refine(Lo ⟨h.pc,(h.pc+4)%4294967296,0,0,0,0,0,0,0,false,0⟩ 4 _).mono ?_);rintro e w7 ⟨rfl,hb7⟩;replace hR1:=hR1.ext hb7;replace hb1:=hb1.trans (hb7.mono hb1.size))
    |(refine Ab rfl 67 _ _ rfl (w.heap.size+1) (Aw h.pc 4).cells rfl rfl 67 _ hR1 Ar rfl Dw ?_;intro w8 hB8 hg8))
   exact bodyPost_ret (v := .agg (Aw h.pc 4).cells) (Az rfl _ _ (w.heap.size+1) 67 _ _ rfl hB8 Tryz.underlying67 rfl Ar) rfl ⟨rfl,below_grown hb1 hg8 hb1.size (Nat.le_succ _)⟩
  ·obtain rfl:X=(⟨h.pc,u32 (h.pc+4),0,0,0,0,(h.reg r1+imm)%4294967296,1,lw,false,0⟩:Com):=HX2.out
   clear HX2 CR
   have c6:=hB5.cell 6
   have f6:=hB5.frozen 6
   have c7:=hB5.cell 7
   have f7:=hB5.frozen 7
   have c8:=hB5.cell 8
   have f8:=hB5.frozen 8
   go_upto_region 26 with(first
    |(go_at_call 74;(with_reducible refine(CB.out _).mono ?_);rintro e w2 ⟨rfl,rfl⟩)
    |(go_at_call 75;(with_reducible refine(CT.out _).mono ?_);rintro e w2 ⟨rfl,rfl⟩)
    |(go_at_call 76;(with_reducible refine(CW.out _).mono ?_);rintro e w2 ⟨rfl,rfl⟩))
   try go_simp
   refine Agj fun wa hq=>?_
   have hC:Blk wa g 67 #[.int .u32 h.pc, .int .u32 ((h.pc+4)%4294967296), .int .i64 0, .int .i64 0, .int .i64 0, .int .u32 0, .int .u32 ((h.reg r1+imm)%4294967296), .int .i64 1, .int .u32 lw, .bool false, .int .u32 0]:=by rw [hq];exact((hB5.set 6 _).set 7 _).set 8 _
   have hBw:Blk wa w.heap.size 73 #[.int .i64 16, .int .i64 rd, .int .i64 r1, .int .i64 r2, .int .i32 imm]:=by rw [hq];exact((hB1.farAt (by omega) _).farAt (by omega) _).farAt (by omega) _
   have hRw:Blk wa (w.heap.size+1) 67 #[.int .u32 0, .int .u32 0, .int .i64 0, .int .i64 0, .int .i64 0, .int .u32 0, .int .u32 0, .int .i64 0, .int .u32 0, .bool false, .int .u32 0]:=by rw [hq];exact((hR1.farAt (by omega) _).farAt (by omega) _).farAt (by omega) _
   have hbl:Below w.heap.size w wa:=by rw [hq];exact Ai (by omega) (Ai (by omega) (Ai (by omega) hb1))
   clear hq c6 f6 c7 f7 c8 f8 hB5 hB1 hR1 hb1 hH6 hA6 CB CT CW
   go_upto_region 28 with(first
    |(refine Ac rfl 73 _ rfl w.heap.size rfl 73 _ _ hBw Tryz.underlying73 rfl A4 ?_)
    |(go_at_call 52;(with_reducible refine(CG.out _).mono ?_);rintro e w7 ⟨rfl,hb7⟩;replace hC:=hC.ext hb7;replace hRw:=hRw.ext hb7;replace hBw:=hBw.ext hb7;replace hbl:=hbl.trans (hb7.mono hbl.size)))
   try go_simp
   have f5:=hC.frozen 5
   have c5:=hC.cell 5
   replace hRw:=hRw.farAt (b:=g) (off:=5) (Nat.ne_of_lt hgt) (.int .u32 0)
   replace hbl:=Ai (off:=5) (u := .int .u32 0) (Nat.le_trans (Nat.le_succ _) (Nat.le_of_lt hgt)) hbl
   replace hC:=hC.set 5 (.int .u32 0)
   go_wp2_with(first
    |(refine Ac rfl 67 _ rfl g rfl 67 _ _ hC Tryz.underlying67 rfl Ar ?_)
    |(refine Ab rfl 67 _ _ rfl (w.heap.size+1) (Com.mk h.pc (u32 (h.pc+4)) 0 0 0 0 ((h.reg r1+imm)%4294967296) 1 lw false 0).cells rfl rfl 67 _ hRw Ar rfl Dw ?_;intro w8 hB8 hg8))
   exact bodyPost_ret (v := .agg (Com.mk h.pc (u32 (h.pc+4)) 0 0 0 0 ((h.reg r1+imm)%4294967296) 1 lw false 0).cells) (Az rfl _ _ (w.heap.size+1) 67 _ _ rfl hB8 Tryz.underlying67 rfl Ar) rfl ⟨rfl,below_grown hbl hg8 hbl.size (Nat.le_succ _)⟩
 ·clear cB
  have CB:Hid (∀ W,Calls Tryz.prog 74 #[.int .i64 17] W fun e w'=>e = .returned (.int .i64 2)∧W=w'):=Lib.hid (fun W=>Qv 17 W (by decide))
  have CT:=Lib.hid (fun W=>Du A m.length cap at' 2 W at0 at1 (by decide) (by decide) hl)
  have CW:=Lib.hid (fun W=>W8 (h.reg r2) 2 W (by decide) rb.1 rb.2)
  have HX2:Hid (X=if Bv m.length at' 2=true then (⟨h.pc,u32 (h.pc+4),0,0,0,0,at',2,O3 (h.reg r2) 2,false,0⟩:Com) else Aw h.pc 4):=by
   refine Lib.hid ?_
   rw [←HX.out,hat']
   rfl
  have hg0:Bf ⟨17,rd,r1,r2,imm⟩=false:=by simp [Bf]
  rw [hg0] at CG
  clear HX cA hg0
  generalize Bv m.length at' 2=ok at *
  generalize O3 (h.reg r2) 2=lw at *
  subst hat'
  rcases ok with _ | _
  ·obtain rfl:X=Aw h.pc 4:=HX2.out
   clear HX2 CG CR
   go_wp2_with(first
    |(go_at_call 72;(with_reducible refine(CL.out _ hA6).mono ?_);rintro e w2 ⟨rfl,rfl⟩)
    |(go_at_call 74;(with_reducible refine(CB.out _).mono ?_);rintro e w2 ⟨rfl,rfl⟩)
    |(go_at_call 75;(with_reducible refine(CT.out _).mono ?_);rintro e w2 ⟨rfl,rfl⟩)
    |(refine Ac rfl 67 _ rfl g rfl 67 _ _ hB5 Tryz.underlying67 rfl Ar ?_)
    |(go_at_call 73;(with_reducible refine(Lo ⟨h.pc,(h.pc+4)%4294967296,0,0,0,0,0,0,0,false,0⟩ 4 _).mono ?_);rintro e w7 ⟨rfl,hb7⟩;replace hR1:=hR1.ext hb7;replace hb1:=hb1.trans (hb7.mono hb1.size))
    |(refine Ab rfl 67 _ _ rfl (w.heap.size+1) (Aw h.pc 4).cells rfl rfl 67 _ hR1 Ar rfl Dw ?_;intro w8 hB8 hg8))
   exact bodyPost_ret (v := .agg (Aw h.pc 4).cells) (Az rfl _ _ (w.heap.size+1) 67 _ _ rfl hB8 Tryz.underlying67 rfl Ar) rfl ⟨rfl,below_grown hb1 hg8 hb1.size (Nat.le_succ _)⟩
  ·obtain rfl:X=(⟨h.pc,u32 (h.pc+4),0,0,0,0,(h.reg r1+imm)%4294967296,2,lw,false,0⟩:Com):=HX2.out
   clear HX2 CR
   have c6:=hB5.cell 6
   have f6:=hB5.frozen 6
   have c7:=hB5.cell 7
   have f7:=hB5.frozen 7
   have c8:=hB5.cell 8
   have f8:=hB5.frozen 8
   go_upto_region 26 with(first
    |(go_at_call 74;(with_reducible refine(CB.out _).mono ?_);rintro e w2 ⟨rfl,rfl⟩)
    |(go_at_call 75;(with_reducible refine(CT.out _).mono ?_);rintro e w2 ⟨rfl,rfl⟩)
    |(go_at_call 76;(with_reducible refine(CW.out _).mono ?_);rintro e w2 ⟨rfl,rfl⟩))
   try go_simp
   refine Agj fun wa hq=>?_
   have hC:Blk wa g 67 #[.int .u32 h.pc, .int .u32 ((h.pc+4)%4294967296), .int .i64 0, .int .i64 0, .int .i64 0, .int .u32 0, .int .u32 ((h.reg r1+imm)%4294967296), .int .i64 2, .int .u32 lw, .bool false, .int .u32 0]:=by rw [hq];exact((hB5.set 6 _).set 7 _).set 8 _
   have hBw:Blk wa w.heap.size 73 #[.int .i64 17, .int .i64 rd, .int .i64 r1, .int .i64 r2, .int .i32 imm]:=by rw [hq];exact((hB1.farAt (by omega) _).farAt (by omega) _).farAt (by omega) _
   have hRw:Blk wa (w.heap.size+1) 67 #[.int .u32 0, .int .u32 0, .int .i64 0, .int .i64 0, .int .i64 0, .int .u32 0, .int .u32 0, .int .i64 0, .int .u32 0, .bool false, .int .u32 0]:=by rw [hq];exact((hR1.farAt (by omega) _).farAt (by omega) _).farAt (by omega) _
   have hbl:Below w.heap.size w wa:=by rw [hq];exact Ai (by omega) (Ai (by omega) (Ai (by omega) hb1))
   clear hq c6 f6 c7 f7 c8 f8 hB5 hB1 hR1 hb1 hH6 hA6 CB CT CW
   go_upto_region 28 with(first
    |(refine Ac rfl 73 _ rfl w.heap.size rfl 73 _ _ hBw Tryz.underlying73 rfl A4 ?_)
    |(go_at_call 52;(with_reducible refine(CG.out _).mono ?_);rintro e w7 ⟨rfl,hb7⟩;replace hC:=hC.ext hb7;replace hRw:=hRw.ext hb7;replace hBw:=hBw.ext hb7;replace hbl:=hbl.trans (hb7.mono hbl.size)))
   try go_simp
   have f5:=hC.frozen 5
   have c5:=hC.cell 5
   replace hRw:=hRw.farAt (b:=g) (off:=5) (Nat.ne_of_lt hgt) (.int .u32 0)
   replace hbl:=Ai (off:=5) (u := .int .u32 0) (Nat.le_trans (Nat.le_succ _) (Nat.le_of_lt hgt)) hbl
   replace hC:=hC.set 5 (.int .u32 0)
   go_wp2_with(first
    |(refine Ac rfl 67 _ rfl g rfl 67 _ _ hC Tryz.underlying67 rfl Ar ?_)
    |(refine Ab rfl 67 _ _ rfl (w.heap.size+1) (Com.mk h.pc (u32 (h.pc+4)) 0 0 0 0 ((h.reg r1+imm)%4294967296) 2 lw false 0).cells rfl rfl 67 _ hRw Ar rfl Dw ?_;intro w8 hB8 hg8))
   exact bodyPost_ret (v := .agg (Com.mk h.pc (u32 (h.pc+4)) 0 0 0 0 ((h.reg r1+imm)%4294967296) 2 lw false 0).cells) (Az rfl _ _ (w.heap.size+1) 67 _ _ rfl hB8 Tryz.underlying67 rfl Ar) rfl ⟨rfl,below_grown hbl hg8 hbl.size (Nat.le_succ _)⟩
 ·clear cB
  have CB:Hid (∀ W,Calls Tryz.prog 74 #[.int .i64 18] W fun e w'=>e = .returned (.int .i64 4)∧W=w'):=Lib.hid (fun W=>Qv 18 W (by decide))
  have CT:=Lib.hid (fun W=>Du A m.length cap at' 4 W at0 at1 (by decide) (by decide) hl)
  have CW:=Lib.hid (fun W=>W8 (h.reg r2) 4 W (by decide) rb.1 rb.2)
  have HX2:Hid (X=if Bv m.length at' 4=true then (⟨h.pc,u32 (h.pc+4),0,0,0,0,at',4,O3 (h.reg r2) 4,false,0⟩:Com) else Aw h.pc 4):=by
   refine Lib.hid ?_
   rw [←HX.out,hat']
   rfl
  have hg0:Bf ⟨18,rd,r1,r2,imm⟩=false:=by simp [Bf]
  rw [hg0] at CG
  clear HX cA hg0
  generalize Bv m.length at' 4=ok at *
  generalize O3 (h.reg r2) 4=lw at *
  subst hat'
  rcases ok with _ | _
  ·obtain rfl:X=Aw h.pc 4:=HX2.out
   clear HX2 CG CR
   go_wp2_with(first
    |(go_at_call 72;(with_reducible refine(CL.out _ hA6).mono ?_);rintro e w2 ⟨rfl,rfl⟩)
    |(go_at_call 74;(with_reducible refine(CB.out _).mono ?_);rintro e w2 ⟨rfl,rfl⟩)
    |(go_at_call 75;(with_reducible refine(CT.out _).mono ?_);rintro e w2 ⟨rfl,rfl⟩)
    |(refine Ac rfl 67 _ rfl g rfl 67 _ _ hB5 Tryz.underlying67 rfl Ar ?_)
    |(go_at_call 73;(with_reducible refine(Lo ⟨h.pc,(h.pc+4)%4294967296,0,0,0,0,0,0,0,false,0⟩ 4 _).mono ?_);rintro e w7 ⟨rfl,hb7⟩;replace hR1:=hR1.ext hb7;replace hb1:=hb1.trans (hb7.mono hb1.size))
    |(refine Ab rfl 67 _ _ rfl (w.heap.size+1) (Aw h.pc 4).cells rfl rfl 67 _ hR1 Ar rfl Dw ?_;intro w8 hB8 hg8))
   exact bodyPost_ret (v := .agg (Aw h.pc 4).cells) (Az rfl _ _ (w.heap.size+1) 67 _ _ rfl hB8 Tryz.underlying67 rfl Ar) rfl ⟨rfl,below_grown hb1 hg8 hb1.size (Nat.le_succ _)⟩
  ·obtain rfl:X=(⟨h.pc,u32 (h.pc+4),0,0,0,0,(h.reg r1+imm)%4294967296,4,lw,false,0⟩:Com):=HX2.out
   clear HX2 CR
   have c6:=hB5.cell 6
   have f6:=hB5.frozen 6
   have c7:=hB5.cell 7
   have f7:=hB5.frozen 7
   have c8:=hB5.cell 8
   have f8:=hB5.frozen 8
   go_upto_region 26 with(first
    |(go_at_call 74;(with_reducible refine(CB.out _).mono ?_);rintro e w2 ⟨rfl,rfl⟩)
    |(go_at_call 75;(with_reducible refine(CT.out _).mono ?_);rintro e w2 ⟨rfl,rfl⟩)
    |(go_at_call 76;(with_reducible refine(CW.out _).mono ?_);rintro e w2 ⟨rfl,rfl⟩))
   try go_simp
   refine Agj fun wa hq=>?_
   have hC:Blk wa g 67 #[.int .u32 h.pc, .int .u32 ((h.pc+4)%4294967296), .int .i64 0, .int .i64 0, .int .i64 0, .int .u32 0, .int .u32 ((h.reg r1+imm)%4294967296), .int .i64 4, .int .u32 lw, .bool false, .int .u32 0]:=by rw [hq];exact((hB5.set 6 _).set 7 _).set 8 _
   have hBw:Blk wa w.heap.size 73 #[.int .i64 18, .int .i64 rd, .int .i64 r1, .int .i64 r2, .int .i32 imm]:=by rw [hq];exact((hB1.farAt (by omega) _).farAt (by omega) _).farAt (by omega) _
   have hRw:Blk wa (w.heap.size+1) 67 #[.int .u32 0, .int .u32 0, .int .i64 0, .int .i64 0, .int .i64 0, .int .u32 0, .int .u32 0, .int .i64 0, .int .u32 0, .bool false, .int .u32 0]:=by rw [hq];exact((hR1.farAt (by omega) _).farAt (by omega) _).farAt (by omega) _
   have hbl:Below w.heap.size w wa:=by rw [hq];exact Ai (by omega) (Ai (by omega) (Ai (by omega) hb1))
   clear hq c6 f6 c7 f7 c8 f8 hB5 hB1 hR1 hb1 hH6 hA6 CB CT CW
   go_upto_region 28 with(first
    |(refine Ac rfl 73 _ rfl w.heap.size rfl 73 _ _ hBw Tryz.underlying73 rfl A4 ?_)
    |(go_at_call 52;(with_reducible refine(CG.out _).mono ?_);rintro e w7 ⟨rfl,hb7⟩;replace hC:=hC.ext hb7;replace hRw:=hRw.ext hb7;replace hBw:=hBw.ext hb7;replace hbl:=hbl.trans (hb7.mono hbl.size)))
   try go_simp
   have f5:=hC.frozen 5
   have c5:=hC.cell 5
   replace hRw:=hRw.farAt (b:=g) (off:=5) (Nat.ne_of_lt hgt) (.int .u32 0)
   replace hbl:=Ai (off:=5) (u := .int .u32 0) (Nat.le_trans (Nat.le_succ _) (Nat.le_of_lt hgt)) hbl
   replace hC:=hC.set 5 (.int .u32 0)
   go_wp2_with(first
    |(refine Ac rfl 67 _ rfl g rfl 67 _ _ hC Tryz.underlying67 rfl Ar ?_)
    |(refine Ab rfl 67 _ _ rfl (w.heap.size+1) (Com.mk h.pc (u32 (h.pc+4)) 0 0 0 0 ((h.reg r1+imm)%4294967296) 4 lw false 0).cells rfl rfl 67 _ hRw Ar rfl Dw ?_;intro w8 hB8 hg8))
   exact bodyPost_ret (v := .agg (Com.mk h.pc (u32 (h.pc+4)) 0 0 0 0 ((h.reg r1+imm)%4294967296) 4 lw false 0).cells) (Az rfl _ _ (w.heap.size+1) 67 _ _ rfl hB8 Tryz.underlying67 rfl Ar) rfl ⟨rfl,below_grown hbl hg8 hbl.size (Nat.le_succ _)⟩
theorem Ys (i:Ins) (h:Al) (b o:Nat) (A:Option Addr) (cap:Nat) (m:List Int) (w:World) (hh:h.Wf) (ha0:0≤i.rs1) (ha1:i.rs1≤31) (hb0:0≤i.rs2) (hb1:i.rs2≤31) (hH:G6 w b o h) (hl:m.length≤9223372036854775807) (hb:Bytes m) (hA:Aq w w.heap.size .u8 A m) (cA:¬ (11≤i.op∧i.op≤15)) (cB:¬ (16≤i.op∧i.op≤18)) (cS:i.op=48∨i.op=47∨i.op=46) :
  Calls Tryz.prog 41 #[.agg i.cells, .pointer (some ⟨b,o,none⟩), .slice A m.length cap] w fun e w'=>e = .returned (.agg (Cl i h m).cells)∧Below w.heap.size w w':=by
 generalize hX:Cl i h m=X
 have HX:=Lib.hid hX
 clear hX
 have ra:=hh.reg i.rs1
 have rb:=hh.reg i.rs2
 have cr:=hH.reg
 have cpc:=hH.pc
 have zb:=hH.lt
 have hrd:∀ k:Nat,h.reg (k:Int)=h.regs.getD k 0:=fun k=>rfl
 have CG:=Lib.hid (fun W=>Ju i W)
 have CR:=Lib.hid (fun W=>Me i h.pc (h.reg i.rs1) (h.reg i.rs2) W ra.1 ra.2 rb.1 rb.2)
 obtain⟨op,rd,rs1,rs2,imm⟩:=i
 dsimp only at *
 obtain⟨r1,rfl⟩:=Int.eq_ofNat_of_zero_le ha0
 obtain⟨r2,rfl⟩:=Int.eq_ofNat_of_zero_le hb0
 have c1:=cr r1 (by omega)
 have c2:=cr r2 (by omega)
 have c17:=cr 17 (by omega)
 have c10:=cr 10 (by omega)
 have h17:=hrd 17
 have h10:=hrd 10
 rw [←hrd] at c1 c2 c17 c10
 clear cr hrd
 go_enter Tryz.func41,Tryz.ntmps41
 go_upto_region 1 with(fail)
 go_simp
 refine Au fun wa hq=>?_
 have hB:Blk wa w.heap.size 73 #[.int .i64 op, .int .i64 rd, .int .i64 r1, .int .i64 r2, .int .i32 imm]:=by rw [hq];exact(Blk.new w _ _).alloc _
 have hR:Blk wa (w.heap.size+1) 67 #[.int .u32 0, .int .u32 0, .int .i64 0, .int .i64 0, .int .i64 0, .int .u32 0, .int .u32 0, .int .i64 0, .int .u32 0, .bool false, .int .u32 0]:=by rw [hq];exact Blk.newAt (w.alloc _) 67 _ (by simp)
 have hbl:Below w.heap.size w wa:=by rw [hq];exact((Below.refl _ _).alloc (Nat.le_refl _) _).alloc (by simp) _
 clear hq
 have zB:=hB.lt
 have zR:=hR.lt
 have hHa:=hH.ext hbl
 refine As (by kernel_rfl) (by kernel_rfl) ?_
 repeat'(first
  |refine Br rfl ?_
  |(refine' Bg _ (fun wq hwq K hK=>?_) ?_ ?_;rotate_left 1;(· have e1:=(hbl.trans (hwq.mono hbl.size)).cell (p:=⟨b,o+r1,none⟩) zb;rw [c1] at e1;have e2:=(hbl.trans (hwq.mono hbl.size)).cell (p:=⟨b,o+r2,none⟩) zb;rw [c2] at e2;have d2:=(hB.ext hwq).cell 2;have d3:=(hB.ext hwq).cell 3;go_wp2_with(fail);all_goals exact hK _ hwq);rfl)
  |((first | refine Bi rfl rfl rfl ?_ ?_ | refine Bh rfl rfl rfl ?_ ?_)<;>intro hc<;>first | (cases hc;done) | ((try cases hc);simp only [Act.put,sA,sS,sZ]))
  |refine Bj rfl rfl rfl ?_)
 refine Ch ?_
 intro w4 hw4
 replace hbl:=hbl.trans (hw4.mono hbl.size)
 replace hB:=hB.ext hw4
 replace hR:=hR.ext hw4
 have hpcq:w4.cell? ⟨b,o+32,none⟩=some (.int .u32 h.pc):=(hbl.cell (p:=⟨b,o+32,none⟩) zb).trans cpc
 have built_c:Tryz.prog.built 67 [(0, .int .u32 h.pc),(1, .int .u32 ((h.pc+4)%4294967296))]=some #[.int .u32 h.pc, .int .u32 ((h.pc+4)%4294967296), .int .i64 0, .int .i64 0, .int .i64 0, .int .u32 0, .int .u32 0, .int .i64 0, .int .u32 0, .bool false, .int .u32 0]:=by kernel_rfl
 clear hw4 zB zR hHa
 have zb4:=Nat.lt_of_lt_of_le zb hbl.size
 go_upto_region 2 with(fail)
 try go_simp
 refine Ae 375 648 1023 [0,1,2,3,4,5,6,7,8,9,10,11] (by kernel_rfl) (by kernel_rfl) (by kernel_rfl) rfl ?_
 refine rR (fun wq hwq=>hwq.at_ zb4 hpcq) ?_
 refine oB (fun w1 hw1 K hK=>?_)
 have hbw:Below w4.heap.size w4 w1:=by rw [hw1];exact(Below.refl _ _).drew
 clear hw1
 replace hbl:=hbl.trans (hbw.mono hbl.size)
 replace hB:=hB.ext hbw
 replace hR:=hR.ext hbw
 clear hpcq
 go_wp2_with(fail)
 refine hK _ _ (hbw.alloc hbw.size _) ?_
 simp only [Act.put,sA,sS,sZ]
 clear hK K
 refine oQ rfl rfl ?_
 refine oS (fun wx hwx K hK=>?_)
 subst hwx
 have hgt:w.heap.size+1<w1.heap.size:=hR.lt
 have hC:=Blk.new w1 67 #[.int .u32 0, .int .u32 0, .int .i64 0, .int .i64 0, .int .i64 0, .int .u32 0, .int .u32 0, .int .i64 0, .int .u32 0, .bool false, .int .u32 0]
 replace hB:=hB.alloc (.cells #[.int .u32 0, .int .u32 0, .int .i64 0, .int .i64 0, .int .i64 0, .int .u32 0, .int .u32 0, .int .i64 0, .int .u32 0, .bool false, .int .u32 0] 67)
 replace hR:=hR.alloc (.cells #[.int .u32 0, .int .u32 0, .int .i64 0, .int .i64 0, .int .i64 0, .int .u32 0, .int .u32 0, .int .i64 0, .int .u32 0, .bool false, .int .u32 0] 67)
 have hs1:=hbl.size
 replace hbl:=hbl.alloc hbl.size (.cells #[.int .u32 0, .int .u32 0, .int .i64 0, .int .i64 0, .int .i64 0, .int .u32 0, .int .u32 0, .int .i64 0, .int .u32 0, .bool false, .int .u32 0] 67)
 refine Js 67 _ _ rfl w1.heap.size #[.int .u32 h.pc, .int .u32 ((h.pc+4)%4294967296), .int .i64 0, .int .i64 0, .int .i64 0, .int .u32 0, .int .u32 0, .int .i64 0, .int .u32 0, .bool false, .int .u32 0] rfl rfl 67 _ hC Ar rfl Dw ?_
 intro w5 hB5 hg5
 have hB1:=hB.grown hg5 (by simp;omega)
 have hR1:=hR.grown hg5 (by simp;omega)
 have hb1:=below_grown hbl hg5 hbl.size hs1
 refine hK _ _ (fun _=>True) trivial ?_
 simp only [Act.put,sA,sS,sZ]
 clear hK K hB hR hbl hs1 hC hg5 zb4 hbw built_c
 refine Aj ?_
 rintro w6 rfl
 have hH6:=hH.ext hb1
 have hA6:Aq w6 w6.heap.size .u8 A m:=(hA.below hb1).mono hb1.size
 generalize w1.heap.size=g at *
 clear cpc c1 c2 c17 c10 hH hA
 have d0:=hB1.cell 0
 have d4:=hB1.cell 4
 have hat:u32 (h.reg r1+imm)=(h.reg r1+imm)%4294967296:=rfl
 obtain⟨at',hat'⟩:∃ x,x=(h.reg r1+imm)%4294967296:=⟨_,rfl⟩
 have at0:0≤at':=by omega
 have at1:at'≤4294967295:=by omega
 have Hat:=Lib.hid hat'
 by_cases c48:op=48
 ·subst c48
  clear cS
  obtain rfl:X=Aw h.pc 6:=HX.out.symm
  clear HX CG CR cA cB
  go_wp2_with(first
   |(go_at_call 72;(with_reducible refine(CL.out _ hA6).mono ?_);rintro e w2 ⟨rfl,rfl⟩)
   |(go_at_call 74;(with_reducible refine(CB.out _).mono ?_);rintro e w2 ⟨rfl,rfl⟩)
   |(go_at_call 75;(with_reducible refine(CT.out _).mono ?_);rintro e w2 ⟨rfl,rfl⟩)
   |(refine Ac rfl 67 _ rfl g rfl 67 _ _ hB5 Tryz.underlying67 rfl Ar ?_)
   |(go_at_call 73;(with_reducible refine(Lo ⟨h.pc,(h.pc+4)%4294967296,0,0,0,0,0,0,0,false,0⟩ 6 _).mono ?_);rintro e w7 ⟨rfl,hb7⟩;replace hR1:=hR1.ext hb7;replace hb1:=hb1.trans (hb7.mono hb1.size))
   |(refine Ab rfl 67 _ _ rfl (w.heap.size+1) (Aw h.pc 6).cells rfl rfl 67 _ hR1 Ar rfl Dw ?_;intro w8 hB8 hg8))
  exact bodyPost_ret (v := .agg (Aw h.pc 6).cells) (Az rfl _ _ (w.heap.size+1) 67 _ _ rfl hB8 Tryz.underlying67 rfl Ar) rfl ⟨rfl,below_grown hb1 hg8 hb1.size (Nat.le_succ _)⟩
 by_cases c47:op=47
 ·subst c47
  clear cS
  have HX2:Hid (X=if h.reg 17=0 then (⟨h.pc,h.pc,1,0,0,0,0,0,0,false,0⟩:Com) else if h.reg 17=1 then ⟨h.pc,u32 (h.pc+4),0,0,0,0,0,0,0,true,h.reg 10⟩ else Aw h.pc 5):=Lib.hid HX.out.symm
  have e17:w6.cell? ⟨b,o+17,none⟩=some (.int .u32 (h.reg 17)):=hH6.reg 17 (by omega)
  have e10:w6.cell? ⟨b,o+10,none⟩=some (.int .u32 (h.reg 10)):=hH6.reg 10 (by omega)
  have zb6:=hH6.lt
  have hg0:Bf ⟨47,rd,r1,r2,imm⟩=false:=by simp [Bf]
  rw [hg0] at CG
  clear HX cA cB c48 hg0 CR h17 h10 hH6 hat hat' Hat at0 at1
  generalize h.reg 17=a7 at *
  generalize h.reg 10=a0 at *
  by_cases u0:a7=0
  ·subst u0
   obtain rfl:X=(⟨h.pc,h.pc,1,0,0,0,0,0,0,false,0⟩:Com):=HX2.out
   clear HX2
   have c0:=hB5.cell 0
   have c1:=hB5.cell 1
   have c2:=hB5.cell 2
   have f1:=hB5.frozen 1
   have f2:=hB5.frozen 2
   go_upto_region 26 with(fail)
   try go_simp
   refine Agj fun wa hq=>?_
   have hC:Blk wa g 67 #[.int .u32 h.pc, .int .u32 h.pc, .int .i64 1, .int .i64 0, .int .i64 0, .int .u32 0, .int .u32 0, .int .i64 0, .int .u32 0, .bool false, .int .u32 0]:=by rw [hq];exact(hB5.set 2 _).set 1 _
   have hBw:Blk wa w.heap.size 73 #[.int .i64 47, .int .i64 rd, .int .i64 r1, .int .i64 r2, .int .i32 imm]:=by rw [hq];exact(hB1.farAt (by omega) _).farAt (by omega) _
   have hRw:Blk wa (w.heap.size+1) 67 #[.int .u32 0, .int .u32 0, .int .i64 0, .int .i64 0, .int .i64 0, .int .u32 0, .int .u32 0, .int .i64 0, .int .u32 0, .bool false, .int .u32 0]:=by rw [hq];exact(hR1.farAt (by omega) _).farAt (by omega) _
   have hbl:Below w.heap.size w wa:=by rw [hq];exact Ai (by omega) (Ai (by omega) hb1)
   clear hq c0 c1 c2 f1 f2 hB5 hB1 hR1 hb1 hA6 e17 e10 zb6
   go_upto_region 28 with(first
    |(refine Ac rfl 73 _ rfl w.heap.size rfl 73 _ _ hBw Tryz.underlying73 rfl A4 ?_)
    |(go_at_call 52;(with_reducible refine(CG.out _).mono ?_);rintro e w7 ⟨rfl,hb7⟩;replace hC:=hC.ext hb7;replace hRw:=hRw.ext hb7;replace hBw:=hBw.ext hb7;replace hbl:=hbl.trans (hb7.mono hbl.size)))
   try go_simp
   have f5:=hC.frozen 5
   have c5:=hC.cell 5
   replace hRw:=hRw.farAt (b:=g) (off:=5) (Nat.ne_of_lt hgt) (.int .u32 0)
   replace hbl:=Ai (off:=5) (u := .int .u32 0) (Nat.le_trans (Nat.le_succ _) (Nat.le_of_lt hgt)) hbl
   replace hC:=hC.set 5 (.int .u32 0)
   go_wp2_with(first
    |(refine Ac rfl 67 _ rfl g rfl 67 _ _ hC Tryz.underlying67 rfl Ar ?_)
    |(refine Ab rfl 67 _ _ rfl (w.heap.size+1) (Com.mk h.pc h.pc 1 0 0 0 0 0 0 false 0).cells rfl rfl 67 _ hRw Ar rfl Dw ?_;intro w8 hB8 hg8))
   exact bodyPost_ret (v := .agg (Com.mk h.pc h.pc 1 0 0 0 0 0 0 false 0).cells) (Az rfl _ _ (w.heap.size+1) 67 _ _ rfl hB8 Tryz.underlying67 rfl Ar) rfl ⟨rfl,below_grown hbl hg8 hbl.size (Nat.le_succ _)⟩
  by_cases u1:a7=1
  ·subst u1
   obtain rfl:X=(⟨h.pc,u32 (h.pc+4),0,0,0,0,0,0,0,true,a0⟩:Com):=HX2.out
   clear HX2
   go_upto_region 23 with(fail)
   try go_simp
   refine Dg 175 16 191 [0,1,2,3,4,5,6,7,8] (fun w'=>w'.cell? ⟨b,o+10,none⟩=some (.int .u32 a0)) (fun w'=>w'=_) (by kernel_rfl) (by kernel_rfl) (by kernel_rfl) rfl (fun w' hw=>by rw [hw];exact((Below.refl (b+1) w6).drew.cell (p:=⟨b,o+10,none⟩) (Nat.lt_succ_self _)).trans e10) rfl ?_
   repeat'(first
    |refine rZ ?_
    |(refine' oR _ (by decide) (by decide) (by decide) (fun wq hwq K hK=>?_) ?_ ?_;rotate_left 1;(· have e1:=hwq;go_wp2_with(fail);all_goals exact hK);rfl)
    |fail)
   refine oB (fun w1 hw1 K hK=>?_)
   have hbw:Below w6.heap.size w6 w1:=by rw [hw1];exact(Below.refl _ _).drew
   clear hw1
   replace hb1:=hb1.trans (hbw.mono hb1.size)
   replace hB1:=hB1.ext hbw
   replace hB5:=hB5.ext hbw
   replace hR1:=hR1.ext hbw
   replace e10:=(hbw.cell (p:=⟨b,o+10,none⟩) zb6).trans e10
   have c9:=hB5.cell 9
   have f9:=hB5.frozen 9
   go_wp2_with(fail)
   replace hB1:=hB1.farAt (b:=g) (off:=9) (by omega) (.bool true)
   replace hR1:=hR1.farAt (b:=g) (off:=9) (by omega) (.bool true)
   replace hb1:=Ai (b:=g) (off:=9) (u := .bool true) (by omega) hb1
   replace hB5:=hB5.set 9 (.bool true)
   refine hK undef _ ((Ai (b:=g) (off:=9) (u := .bool true) (Nat.le_of_lt (by omega)) (Below.refl (w.heap.size+1) w1) |>.cell (p:=⟨b,o+10,none⟩) (by show b<_;omega)).trans e10) ?_
   simp only [Act.put,sA,sS,sZ]
   clear hK K c9 f9 e10 e17 hbw
   repeat'(first
    |refine rZ ?_
    |(refine' oR _ (by decide) (by decide) (by decide) (fun wq hwq K hK=>?_) ?_ ?_;rotate_left 1;(· have e1:=hwq;go_wp2_with(fail);all_goals exact hK);rfl)
    |fail)
   refine oS (fun wx hwx K hK=>?_)
   subst hwx
   have c10:=hB5.cell 10
   have f10:=hB5.frozen 10
   go_wp2_with(fail)
   replace hB1:=hB1.farAt (b:=g) (off:=10) (by omega) (.int .u32 a0)
   replace hR1:=hR1.farAt (b:=g) (off:=10) (by omega) (.int .u32 a0)
   replace hb1:=Ai (b:=g) (off:=10) (u := .int .u32 a0) (by omega) hb1
   replace hB5:=hB5.set 10 (.int .u32 a0)
   refine hK undef _ (fun _=>True) trivial ?_
   simp only [Act.put,sA,sS,sZ]
   clear hK K c10 f10 zb6 hA6
   refine Aj ?_
   rintro wa rfl
   go_upto_region 26 with(fail)
   try go_simp
   have hC:=hB5
   have hBw:=hB1
   have hRw:=hR1
   have hbl:=hb1
   clear hB5 hB1 hR1 hb1
   go_upto_region 28 with(first
    |(refine Ac rfl 73 _ rfl w.heap.size rfl 73 _ _ hBw Tryz.underlying73 rfl A4 ?_)
    |(go_at_call 52;(with_reducible refine(CG.out _).mono ?_);rintro e w7 ⟨rfl,hb7⟩;replace hC:=hC.ext hb7;replace hRw:=hRw.ext hb7;replace hBw:=hBw.ext hb7;replace hbl:=hbl.trans (hb7.mono hbl.size)))
   try go_simp
   have f5:=hC.frozen 5
   have c5:=hC.cell 5
   replace hRw:=hRw.farAt (b:=g) (off:=5) (Nat.ne_of_lt hgt) (.int .u32 0)
   replace hbl:=Ai (off:=5) (u := .int .u32 0) (Nat.le_trans (Nat.le_succ _) (Nat.le_of_lt hgt)) hbl
   replace hC:=hC.set 5 (.int .u32 0)
   go_wp2_with(first
    |(refine Ac rfl 67 _ rfl g rfl 67 _ _ hC Tryz.underlying67 rfl Ar ?_)
    |(refine Ab rfl 67 _ _ rfl (w.heap.size+1) (Com.mk h.pc (u32 (h.pc+4)) 0 0 0 0 0 0 0 true a0).cells rfl rfl 67 _ hRw Ar rfl Dw ?_;intro w8 hB8 hg8))
   exact bodyPost_ret (v := .agg (Com.mk h.pc (u32 (h.pc+4)) 0 0 0 0 0 0 0 true a0).cells) (Az rfl _ _ (w.heap.size+1) 67 _ _ rfl hB8 Tryz.underlying67 rfl Ar) rfl ⟨rfl,below_grown hbl hg8 hbl.size (Nat.le_succ _)⟩
  ·have t0:decide (a7=0)=false:=decide_eq_false u0
   have t1:decide (a7=1)=false:=decide_eq_false u1
   obtain rfl:X=Aw h.pc 5:=by have h:=HX2.out;rw [if_neg u0,if_neg u1] at h;exact h
   clear HX2 CG
   go_wp2_with(first
    |(go_at_call 72;(with_reducible refine(CL.out _ hA6).mono ?_);rintro e w2 ⟨rfl,rfl⟩)
    |(go_at_call 74;(with_reducible refine(CB.out _).mono ?_);rintro e w2 ⟨rfl,rfl⟩)
    |(go_at_call 75;(with_reducible refine(CT.out _).mono ?_);rintro e w2 ⟨rfl,rfl⟩)
    |(refine Ac rfl 67 _ rfl g rfl 67 _ _ hB5 Tryz.underlying67 rfl Ar ?_)
    |(go_at_call 73;(with_reducible refine(Lo ⟨h.pc,(h.pc+4)%4294967296,0,0,0,0,0,0,0,false,0⟩ 5 _).mono ?_);rintro e w7 ⟨rfl,hb7⟩;replace hR1:=hR1.ext hb7;replace hb1:=hb1.trans (hb7.mono hb1.size))
    |(refine Ab rfl 67 _ _ rfl (w.heap.size+1) (Aw h.pc 5).cells rfl rfl 67 _ hR1 Ar rfl Dw ?_;intro w8 hB8 hg8))
   exact bodyPost_ret (v := .agg (Aw h.pc 5).cells) (Az rfl _ _ (w.heap.size+1) 67 _ _ rfl hB8 Tryz.underlying67 rfl Ar) rfl ⟨rfl,below_grown hb1 hg8 hb1.size (Nat.le_succ _)⟩
 by_cases c46:op=46
 ·subst c46
  clear cS
  have hg0:Bf ⟨46,rd,r1,r2,imm⟩=false:=by simp [Bf]
  rw [hg0] at CG
  obtain rfl:X=(⟨h.pc,u32 (h.pc+4),0,0,0,0,0,0,0,false,0⟩:Com):=HX.out.symm
  have hC:=hB5
  have hBw:=hB1
  have hRw:=hR1
  have hbl:=hb1
  clear HX hB5 hB1 hR1 hb1 cA cB c48 c47 CR hg0 hA6 hH6
  go_upto_region 28 with(first
   |(refine Ac rfl 73 _ rfl w.heap.size rfl 73 _ _ hBw Tryz.underlying73 rfl A4 ?_)
   |(go_at_call 52;(with_reducible refine(CG.out _).mono ?_);rintro e w7 ⟨rfl,hb7⟩;replace hC:=hC.ext hb7;replace hRw:=hRw.ext hb7;replace hBw:=hBw.ext hb7;replace hbl:=hbl.trans (hb7.mono hbl.size)))
  try go_simp
  have f5:=hC.frozen 5
  have c5:=hC.cell 5
  replace hRw:=hRw.farAt (b:=g) (off:=5) (Nat.ne_of_lt hgt) (.int .u32 0)
  replace hbl:=Ai (off:=5) (u := .int .u32 0) (Nat.le_trans (Nat.le_succ _) (Nat.le_of_lt hgt)) hbl
  replace hC:=hC.set 5 (.int .u32 0)
  go_wp2_with(first
   |(refine Ac rfl 67 _ rfl g rfl 67 _ _ hC Tryz.underlying67 rfl Ar ?_)
   |(refine Ab rfl 67 _ _ rfl (w.heap.size+1) (Com.mk h.pc (u32 (h.pc+4)) 0 0 0 0 0 0 0 false 0).cells rfl rfl 67 _ hRw Ar rfl Dw ?_;intro w8 hB8 hg8))
  exact bodyPost_ret (v := .agg (Com.mk h.pc (u32 (h.pc+4)) 0 0 0 0 0 0 0 false 0).cells) (Az rfl _ _ (w.heap.size+1) 67 _ _ rfl hB8 Tryz.underlying67 rfl Ar) rfl ⟨rfl,below_grown hbl hg8 hbl.size (Nat.le_succ _)⟩
 exfalso
 omega
theorem Vt (i:Ins) (h:Al) (b o:Nat) (A:Option Addr) (cap:Nat) (m:List Int) (w:World) (hh:h.Wf) (ha0:0≤i.rs1) (ha1:i.rs1≤31) (hb0:0≤i.rs2) (hb1:i.rs2≤31) (hH:G6 w b o h) (hl:m.length≤9223372036854775807) (hb:Bytes m) (hA:Aq w w.heap.size .u8 A m) (cA:¬ (11≤i.op∧i.op≤15)) (cB:¬ (16≤i.op∧i.op≤18)) (c48:¬ i.op=48) (c47:¬ i.op=47) (c46:¬ i.op=46) :
  Calls Tryz.prog 41 #[.agg i.cells, .pointer (some ⟨b,o,none⟩), .slice A m.length cap] w fun e w'=>e = .returned (.agg (Cl i h m).cells)∧Below w.heap.size w w':=by
 generalize hX:Cl i h m=X
 have HX:=Lib.hid hX
 clear hX
 have ra:=hh.reg i.rs1
 have rb:=hh.reg i.rs2
 have cr:=hH.reg
 have cpc:=hH.pc
 have zb:=hH.lt
 have hrd:∀ k:Nat,h.reg (k:Int)=h.regs.getD k 0:=fun k=>rfl
 have CG:=Lib.hid (fun W=>Ju i W)
 have CR:=Lib.hid (fun W=>Me i h.pc (h.reg i.rs1) (h.reg i.rs2) W ra.1 ra.2 rb.1 rb.2)
 obtain⟨op,rd,rs1,rs2,imm⟩:=i
 dsimp only at *
 obtain⟨r1,rfl⟩:=Int.eq_ofNat_of_zero_le ha0
 obtain⟨r2,rfl⟩:=Int.eq_ofNat_of_zero_le hb0
 have c1:=cr r1 (by omega)
 have c2:=cr r2 (by omega)
 have c17:=cr 17 (by omega)
 have c10:=cr 10 (by omega)
 have h17:=hrd 17
 have h10:=hrd 10
 rw [←hrd] at c1 c2 c17 c10
 clear cr hrd
 go_enter Tryz.func41,Tryz.ntmps41
 go_upto_region 1 with(fail)
 go_simp
 refine Au fun wa hq=>?_
 have hB:Blk wa w.heap.size 73 #[.int .i64 op, .int .i64 rd, .int .i64 r1, .int .i64 r2, .int .i32 imm]:=by rw [hq];exact(Blk.new w _ _).alloc _
 have hR:Blk wa (w.heap.size+1) 67 #[.int .u32 0, .int .u32 0, .int .i64 0, .int .i64 0, .int .i64 0, .int .u32 0, .int .u32 0, .int .i64 0, .int .u32 0, .bool false, .int .u32 0]:=by rw [hq];exact Blk.newAt (w.alloc _) 67 _ (by simp)
 have hbl:Below w.heap.size w wa:=by rw [hq];exact((Below.refl _ _).alloc (Nat.le_refl _) _).alloc (by simp) _
 clear hq
 have zB:=hB.lt
 have zR:=hR.lt
 have hHa:=hH.ext hbl
 refine As (by kernel_rfl) (by kernel_rfl) ?_
 repeat'(first
  |refine Br rfl ?_
  |(refine' Bg _ (fun wq hwq K hK=>?_) ?_ ?_;rotate_left 1;(· have e1:=(hbl.trans (hwq.mono hbl.size)).cell (p:=⟨b,o+r1,none⟩) zb;rw [c1] at e1;have e2:=(hbl.trans (hwq.mono hbl.size)).cell (p:=⟨b,o+r2,none⟩) zb;rw [c2] at e2;have d2:=(hB.ext hwq).cell 2;have d3:=(hB.ext hwq).cell 3;go_wp2_with(fail);all_goals exact hK _ hwq);rfl)
  |((first | refine Bi rfl rfl rfl ?_ ?_ | refine Bh rfl rfl rfl ?_ ?_)<;>intro hc<;>first | (cases hc;done) | ((try cases hc);simp only [Act.put,sA,sS,sZ]))
  |refine Bj rfl rfl rfl ?_)
 refine Ch ?_
 intro w4 hw4
 replace hbl:=hbl.trans (hw4.mono hbl.size)
 replace hB:=hB.ext hw4
 replace hR:=hR.ext hw4
 have hpcq:w4.cell? ⟨b,o+32,none⟩=some (.int .u32 h.pc):=(hbl.cell (p:=⟨b,o+32,none⟩) zb).trans cpc
 have built_c:Tryz.prog.built 67 [(0, .int .u32 h.pc),(1, .int .u32 ((h.pc+4)%4294967296))]=some #[.int .u32 h.pc, .int .u32 ((h.pc+4)%4294967296), .int .i64 0, .int .i64 0, .int .i64 0, .int .u32 0, .int .u32 0, .int .i64 0, .int .u32 0, .bool false, .int .u32 0]:=by kernel_rfl
 clear hw4 zB zR hHa
 have zb4:=Nat.lt_of_lt_of_le zb hbl.size
 go_upto_region 2 with(fail)
 try go_simp
 refine Ae 375 648 1023 [0,1,2,3,4,5,6,7,8,9,10,11] (by kernel_rfl) (by kernel_rfl) (by kernel_rfl) rfl ?_
 refine rR (fun wq hwq=>hwq.at_ zb4 hpcq) ?_
 refine oB (fun w1 hw1 K hK=>?_)
 have hbw:Below w4.heap.size w4 w1:=by rw [hw1];exact(Below.refl _ _).drew
 clear hw1
 replace hbl:=hbl.trans (hbw.mono hbl.size)
 replace hB:=hB.ext hbw
 replace hR:=hR.ext hbw
 clear hpcq
 go_wp2_with(fail)
 refine hK _ _ (hbw.alloc hbw.size _) ?_
 simp only [Act.put,sA,sS,sZ]
 clear hK K
 refine oQ rfl rfl ?_
 refine oS (fun wx hwx K hK=>?_)
 subst hwx
 have hgt:w.heap.size+1<w1.heap.size:=hR.lt
 have hC:=Blk.new w1 67 #[.int .u32 0, .int .u32 0, .int .i64 0, .int .i64 0, .int .i64 0, .int .u32 0, .int .u32 0, .int .i64 0, .int .u32 0, .bool false, .int .u32 0]
 replace hB:=hB.alloc (.cells #[.int .u32 0, .int .u32 0, .int .i64 0, .int .i64 0, .int .i64 0, .int .u32 0, .int .u32 0, .int .i64 0, .int .u32 0, .bool false, .int .u32 0] 67)
 replace hR:=hR.alloc (.cells #[.int .u32 0, .int .u32 0, .int .i64 0, .int .i64 0, .int .i64 0, .int .u32 0, .int .u32 0, .int .i64 0, .int .u32 0, .bool false, .int .u32 0] 67)
 have hs1:=hbl.size
 replace hbl:=hbl.alloc hbl.size (.cells #[.int .u32 0, .int .u32 0, .int .i64 0, .int .i64 0, .int .i64 0, .int .u32 0, .int .u32 0, .int .i64 0, .int .u32 0, .bool false, .int .u32 0] 67)
 refine Js 67 _ _ rfl w1.heap.size #[.int .u32 h.pc, .int .u32 ((h.pc+4)%4294967296), .int .i64 0, .int .i64 0, .int .i64 0, .int .u32 0, .int .u32 0, .int .i64 0, .int .u32 0, .bool false, .int .u32 0] rfl rfl 67 _ hC Ar rfl Dw ?_
 intro w5 hB5 hg5
 have hB1:=hB.grown hg5 (by simp;omega)
 have hR1:=hR.grown hg5 (by simp;omega)
 have hb1:=below_grown hbl hg5 hbl.size hs1
 refine hK _ _ (fun _=>True) trivial ?_
 simp only [Act.put,sA,sS,sZ]
 clear hK K hB hR hbl hs1 hC hg5 zb4 hbw built_c
 refine Aj ?_
 rintro w6 rfl
 have hH6:=hH.ext hb1
 have hA6:Aq w6 w6.heap.size .u8 A m:=(hA.below hb1).mono hb1.size
 generalize w1.heap.size=g at *
 clear cpc c1 c2 c17 c10 hH hA
 have d0:=hB1.cell 0
 have d4:=hB1.cell 4
 have hat:u32 (h.reg r1+imm)=(h.reg r1+imm)%4294967296:=rfl
 obtain⟨at',hat'⟩:∃ x,x=(h.reg r1+imm)%4294967296:=⟨_,rfl⟩
 have at0:0≤at':=by omega
 have at1:at'≤4294967295:=by omega
 have Hat:=Lib.hid hat'
 have t11:(op==48)=false:=by simpa using c48
 have t12:(op==47)=false:=by simpa using c47
 have t13:(op != 46)=true:=by simpa using c46
 have e32:w6.cell? ⟨b,o+32,none⟩=some (.int .u32 h.pc):=hH6.pc
 have zb6:=hH6.lt
 have HX2:Hid (X=(⟨h.pc,(Fu ⟨op,rd,r1,r2,imm⟩ h.pc (h.reg r1) (h.reg r2)).2,0,0,if Bf ⟨op,rd,r1,r2,imm⟩=true then rd else 0,if Bf ⟨op,rd,r1,r2,imm⟩=true then (Fu ⟨op,rd,r1,r2,imm⟩ h.pc (h.reg r1) (h.reg r2)).1 else 0,0,0,0,false,0⟩:Com)):=by
  refine Lib.hid ?_
  rw [←HX.out]
  unfold Cl
  rw [if_neg cA,if_neg cB,if_neg c48,if_neg c47,if_neg c46]
 clear HX hat hat' Hat at0 at1
 generalize Fu ⟨op,rd,r1,r2,imm⟩ h.pc (h.reg r1) (h.reg r2)=RK at *
 obtain⟨rv,rn⟩:=RK
 dsimp only at CR HX2
 have hlt6:w.heap.size<w6.heap.size:=hB1.lt
 by_cases clow:op<11
 focus
  have u1:decide (11≤op)=false:=decide_eq_false (by omega)
  have u2:decide (16≤op)=false:=decide_eq_false (by omega)
  clear cA cB c48 c47 c46 clow
  go_upto_region 25 with(fail)
  try go_simp
  clear u1 u2 t11 t12 t13
 rotate_left 1
 focus
  have u1:decide (11≤op)=true:=decide_eq_true (by omega)
  have u2:decide (op≤15)=false:=decide_eq_false (by omega)
  have u3:decide (16≤op)=true:=decide_eq_true (by omega)
  have u4:decide (op≤18)=false:=decide_eq_false (by omega)
  clear cA cB c48 c47 c46 clow
  go_upto_region 25 with(fail)
  try go_simp
  clear u1 u2 u3 u4 t11 t12 t13
 all_goals
  refine Ae 12142 17 12287 [0,1,2,3,4,5,6,7,8,9,10,11,12,13,14] (by kernel_rfl) (by kernel_rfl) (by kernel_rfl) rfl ?_
  repeat'(first
   |refine rZ ?_
   |(refine' oR _ (by decide) (by decide) (by decide) (fun wq hwq K hK=>?_) ?_ ?_;rotate_left 1;(· have e1:=hwq.at_ zb6 e32;first | (refine Eb 73 _ rfl w.heap.size rfl 73 _ _ (hB1.ext hwq) Tryz.underlying73 rfl A4 ?_;(simp only [Act.put,sA,sS,sZ]);exact hK) | (go_wp2_with(go_at_call 77;(with_reducible refine(CR.out _).mono ?_);rintro e w7 ⟨rfl,hb7⟩;replace hwq:=hwq.trans (hb7.mono hwq.size));all_goals exact hK));rfl)
   |(refine' oC _ (by decide) (by decide) (by decide) (fun wq hwq K hK=>?_) ?_ ?_;rotate_left 1;(· have e1:=hwq.at_ zb6 e32;first | (refine Eb 73 _ rfl w.heap.size rfl 73 _ _ (hB1.ext hwq) Tryz.underlying73 rfl A4 ?_;(simp only [Act.put,sA,sS,sZ]);exact hK) | (go_wp2_with(go_at_call 77;(with_reducible refine(CR.out _).mono ?_);rintro e w7 ⟨rfl,hb7⟩;replace hwq:=hwq.trans (hb7.mono hwq.size));all_goals exact hK _ hwq));rfl)
   |fail)
  refine oS (fun w1 hbw K hK=>?_)
  replace hb1:=hb1.trans (hbw.mono hb1.size)
  replace hB1:=hB1.ext hbw
  replace hB5:=hB5.ext hbw
  replace hR1:=hR1.ext hbw
  have c5:=hB5.cell 5
  have f5:=hB5.frozen 5
  have c1:=hB5.cell 1
  have f1:=hB5.frozen 1
  go_wp2_with(fail)
  refine hK undef _ (fun _=>True) trivial ?_
  simp only [Act.put,sA,sS,sZ]
  clear hK K
  repeat'(first
   |refine rZ ?_
   |(refine' oC _ (by decide) (by decide) (by decide) (fun wq hwq K hK=>?_) ?_ ?_;rotate_left 1;(· go_wp2_with(fail);all_goals exact hK _ hwq);rfl)
   |fail)
  refine oS (fun wx hwx K hK=>?_)
  subst hwx
  go_wp2_with(fail)
  refine hK undef _ (fun _=>True) trivial ?_
  simp only [Act.put,sA,sS,sZ]
  clear hK K
  refine Aj ?_
  rintro wa hq
  have hC:Blk wa g 67 #[.int .u32 h.pc, .int .u32 rn, .int .i64 0, .int .i64 0, .int .i64 0, .int .u32 rv, .int .u32 0, .int .i64 0, .int .u32 0, .bool false, .int .u32 0]:=by rw [hq];exact(hB5.set 5 _).set 1 _
  have hBw:Blk wa w.heap.size 73 #[.int .i64 op, .int .i64 rd, .int .i64 r1, .int .i64 r2, .int .i32 imm]:=by rw [hq];exact(hB1.farAt (by omega) _).farAt (by omega) _
  have hRw:Blk wa (w.heap.size+1) 67 #[.int .u32 0, .int .u32 0, .int .i64 0, .int .i64 0, .int .i64 0, .int .u32 0, .int .u32 0, .int .i64 0, .int .u32 0, .bool false, .int .u32 0]:=by rw [hq];exact(hR1.farAt (by omega) _).farAt (by omega) _
  have hbl:Below w.heap.size w wa:=by rw [hq];exact Ai (by omega) (Ai (by omega) hb1)
  clear hq c5 c1 f5 f1 hB5 hB1 hR1 hb1 hA6 CR d0 d4 hH6 zb6 e32 hlt6 hbw
  generalize Bf ⟨op,rd,r1,r2,imm⟩=gv at *
  go_upto_region 26 with(fail)
  try go_simp
  rcases gv with _ | _
  ·obtain rfl:X=⟨h.pc,rn,0,0,0,0,0,0,0,false,0⟩:=HX2.out
   clear HX2
   go_upto_region 28 with(first
    |(refine Ac rfl 73 _ rfl w.heap.size rfl 73 _ _ hBw Tryz.underlying73 rfl A4 ?_)
    |(go_at_call 52;(with_reducible refine(CG.out _).mono ?_);rintro e w7 ⟨rfl,hb7⟩;replace hC:=hC.ext hb7;replace hRw:=hRw.ext hb7;replace hBw:=hBw.ext hb7;replace hbl:=hbl.trans (hb7.mono hbl.size)))
   try go_simp
   have f5:=hC.frozen 5
   have c5:=hC.cell 5
   replace hRw:=hRw.farAt (b:=g) (off:=5) (Nat.ne_of_lt hgt) (.int .u32 0)
   replace hbl:=Ai (off:=5) (u := .int .u32 0) (Nat.le_trans (Nat.le_succ _) (Nat.le_of_lt hgt)) hbl
   replace hC:=hC.set 5 (.int .u32 0)
   go_wp2_with(first
    |(refine Ac rfl 67 _ rfl g rfl 67 _ _ hC Tryz.underlying67 rfl Ar ?_)
    |(refine Ab rfl 67 _ _ rfl (w.heap.size+1) (Com.mk h.pc rn 0 0 0 0 0 0 0 false 0).cells rfl rfl 67 _ hRw Ar rfl Dw ?_;intro w8 hB8 hg8))
   exact bodyPost_ret (v := .agg (Com.mk h.pc rn 0 0 0 0 0 0 0 false 0).cells) (Az rfl _ _ (w.heap.size+1) 67 _ _ rfl hB8 Tryz.underlying67 rfl Ar) rfl ⟨rfl,below_grown hbl hg8 hbl.size (Nat.le_succ _)⟩
  ·obtain rfl:X=⟨h.pc,rn,0,0,rd,rv,0,0,0,false,0⟩:=HX2.out
   clear HX2
   go_upto_region 27 with(first
    |(refine Ac rfl 73 _ rfl w.heap.size rfl 73 _ _ hBw Tryz.underlying73 rfl A4 ?_)
    |(go_at_call 52;(with_reducible refine(CG.out _).mono ?_);rintro e w7 ⟨rfl,hb7⟩;replace hC:=hC.ext hb7;replace hRw:=hRw.ext hb7;replace hBw:=hBw.ext hb7;replace hbl:=hbl.trans (hb7.mono hbl.size)))
   try go_simp
   have f4:=hC.frozen 4
   have c4:=hC.cell 4
   have i1:=hBw.cell 1
   replace hRw:=hRw.farAt (b:=g) (off:=4) (Nat.ne_of_lt hgt) (.int .i64 rd)
   replace hbl:=Ai (off:=4) (u := .int .i64 rd) (Nat.le_trans (Nat.le_succ _) (Nat.le_of_lt hgt)) hbl
   replace hC:=hC.set 4 (.int .i64 rd)
   go_wp2_with(first
    |(refine Ac rfl 67 _ rfl g rfl 67 _ _ hC Tryz.underlying67 rfl Ar ?_)
    |(refine Ab rfl 67 _ _ rfl (w.heap.size+1) (Com.mk h.pc rn 0 0 rd rv 0 0 0 false 0).cells rfl rfl 67 _ hRw Ar rfl Dw ?_;intro w8 hB8 hg8))
   exact bodyPost_ret (v := .agg (Com.mk h.pc rn 0 0 rd rv 0 0 0 false 0).cells) (Az rfl _ _ (w.heap.size+1) 67 _ _ rfl hB8 Tryz.underlying67 rfl Ar) rfl ⟨rfl,below_grown hbl hg8 hbl.size (Nat.le_succ _)⟩
theorem Yr (i:Ins) (h:Al) (b o:Nat) (A:Option Addr) (cap:Nat) (m:List Int) (w:World) (hh:h.Wf) (ha0:0≤i.rs1) (ha1:i.rs1≤31) (hb0:0≤i.rs2) (hb1:i.rs2≤31) (hH:G6 w b o h) (hl:m.length≤9223372036854775807) (hb:Bytes m) (hA:Aq w w.heap.size .u8 A m) :
  Calls Tryz.prog 41 #[.agg i.cells, .pointer (some ⟨b,o,none⟩), .slice A m.length cap] w fun e w'=>e = .returned (.agg (Cl i h m).cells)∧Below w.heap.size w w':=by
 by_cases cA:11≤i.op∧i.op≤15
 ·exact Ad0 i h b o A cap m w hh ha0 ha1 hb0 hb1 hH hl hb hA cA
 by_cases cB:16≤i.op∧i.op≤18
 ·exact Tj i h b o A cap m w hh ha0 ha1 hb0 hb1 hH hl hb hA cA cB
 by_cases cS:i.op=48∨i.op=47∨i.op=46
 ·exact Ys i h b o A cap m w hh ha0 ha1 hb0 hb1 hH hl hb hA cA cB cS
 exact Vt i h b o A cap m w hh ha0 ha1 hb0 hb1 hH hl hb hA cA cB (by omega) (by omega) (by omega)
theorem grownBy_refl (w:World) (row:Option Nat):w.grownBy w row:=⟨rfl,rfl,rfl,Nat.le_refl _,fun _ _ _=>rfl⟩
theorem Y9 {w w':World} (h:w.grownBy w' none) (row:Option Nat):w.grownBy w' row:=⟨h.os,h.tape,h.output,h.size,fun k hk _=>h.block k hk (by simp)⟩
theorem C4 {w w':World} (h:Below w.heap.size w w') (row:Option Nat):w.grownBy w' row:=Y9 (Cp h) row
theorem Nw (w:World) (p:Addr) (u:Value):w.grownBy (w.setCell p u) (some p.block):=
 ⟨rfl,rfl,rfl,by simp,fun k _ hne=>Below.heap_setCell w p u k (fun e=>hne (by rw [e]))⟩
def Ot (hcs:Array Value) (ho:Nat) (c:Com):Array Value:=
 let l:=((hcs.setIfInBounds (ho+32) (.int .u32 c.next)).setIfInBounds (ho+33) (.int .i64 c.state)).setIfInBounds (ho+34) (.int .i64 c.cause)
 if 0<c.rd then l.setIfInBounds (ho+c.rd.toNat) (.int .u32 c.value) else l
theorem Ac8 (hcs:Array Value) (ho:Nat) (c:Com):(Ot hcs ho c).size=hcs.size:=by unfold Ot;split<;>simp
theorem Ac7 (h:Al) (c:Com) (hl:h.regs.length=32) (h0:0≤c.rd) (h1:c.rd≤31):Ot h.cells 0 c=(Cq c h).cells:=by
 obtain⟨n,hn⟩:=Int.eq_ofNat_of_zero_le h0
 obtain⟨regs,pc,st,ca⟩:=h
 unfold Ot Cq Al.cells
 dsimp only at *
 rw [hn]
 by_cases hp:(0:Int)<(n:Int)
 ·rw [if_pos hp,if_pos hp]
  simp [List.setIfInBounds_toArray,List.set_append,hl,List.map_set]
  intro hx
  omega
 ·rw [if_neg hp,if_neg hp]
  simp [List.setIfInBounds_toArray,List.set_append,hl]
end Go.Proofs.YtapgojgcmlnbgacGreat
