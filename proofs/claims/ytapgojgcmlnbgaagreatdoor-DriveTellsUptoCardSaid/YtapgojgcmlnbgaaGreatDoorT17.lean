/- Parts of a proof. -/
import Derived.Test.YtapgojgcmlnbgaaGreatDoorTZ
import Derived.Test.YtapgojgcmlnbgaaGreatDoorT02
import Derived.Test.YtapgojgcmlnbgaaGreatDoorT15
set_option linter.unusedSimpArgs false
set_option linter.unusedVariables false
set_option maxRecDepth 100000
set_option maxHeartbeats 16000000
namespace Go.Proofs.YtapgojgcmlnbgaaGreatDoor
open Go Go.RowKit
section
variable {B:Nat} {w:World} {g p:Nat} {C:Core} {L:Lay} {ps:List Nat} {cs:Array Value}
theorem Aan (h:Af B w g C L ps cs) (hI:Inv C) (hst:C.still=false) (hfr:C.names.free≠[]) {sl:List Slt} (hp:I8 C.slots C.window C.seq=some sl) (hq:C.seq≤4611686018427387904) (ht:0≤C.taken∧C.taken≤4611686018427387904) {i:Ins} (hsn:Je C=(i,0)) (hgv:Bg i=false) :
  Calls Tryz.prog 40 #[.pointer (some ⟨g,0,none⟩)] w (Rk B w g (Bv C)):=by
 have hXF:=Xg (fun hh=>by rcases hh with hh | hh;rw [hst] at hh;cases hh;exact hfr hh) hp hsn
 have his:IsP i=true:=by
  rcases Ky (known C.ops) C.mem C.seq C.pc with⟨_,h2⟩ | ⟨h2,_⟩
  ·rw [←hI.seen,hsn] at h2
   exact h2
  ·rw [←hI.seen,hsn] at h2
   exfalso
   rcases h2 with h2 | h2<;>cases h2
 have hop:=Ho his
 obtain⟨tk1,tk2,tk3⟩:=Rf hI his hfr
 have hf:=hI.fine
 have c339:w.cell? ⟨g,339,none⟩=some (.bool false):=by
  have:=h.cell h.cells.still
  rw [hst] at this
  exact this
 have c141:=h.nfree
 have e0:((C.names.free.length:Int)==0)=false:=by
  have:C.names.free.length≠0:=fun e=>hfr (qN e)
  simpa using this
 have c334:=h.slots
 have c0:w.cell? ⟨g,0,none⟩=some (.int .i64 C.window):=h.cell h.cells.window
 have c337:w.cell? ⟨g,337,none⟩=some (.int .i64 C.seq):=h.cell h.cells.seq
 have zg:=h.lt
 obtain⟨AS,cS,hsv,hSS,hSn,hS1,hS2⟩:=Hq h.rows.slots
 rw [hsv] at c334
 have hsl:=hf.lens.2.1
 have hsl2:=Vo hp
 have HSL2:=qA hsl2
 clear hsl2
 have hle:=hf.lens
 have CP0:=qA (fun W (hb:Below w.heap.size w W)=>Rb AS cS C.slots C.window C.seq W (by omega) ((hSS.below hb).mono hb.size) hSn)
 rw [hp] at CP0
 have CS0:=qA (fun A cA M cM W h1 h2=>Tx A cA C.access M cM C.mem C.seq C.pc 4 W (by omega) (by have:=hI.room;omega) (hf.wf (by omega)) hI.bytes h1 h2 hI.pc.1 hI.pc.2)
 have HLOW:=qA h.low
 have HI:=qA h
 unfold Je at hsn
 generalize Eb C.access C.mem C.seq C.pc 4=S at *
 obtain⟨sw,so,ss⟩:=S
 dsimp only at CS0 hsn
 obtain rfl:so=true:=by
  cases so
  ·rw [if_neg (by decide)] at hsn
   have h2:=congrArg Prod.snd hsn
   simp at h2
  ·rfl
 rw [if_pos rfl] at hsn
 have CF0:∀ mb W,Blk W mb 151 #[.int .u8 (sw%256), .int .u8 (sw / 256%256), .int .u8 (sw / 65536%256), .int .u8 (sw / 16777216%256)] →
   Calls Tryz.prog 33 #[.slice (some ⟨mb,0,none⟩) 4 4, .int .u32 0] W fun e w'=>e = .returned (.tuple #[.agg (Dn (bytesOf sw) 0).1.cells, .int .i64 (Dn (bytesOf sw) 0).2])∧Below W.heap.size W w':=fun mb W h2=>
  Of (some ⟨mb,0,none⟩) 4 (bytesOf sw) 0 W (by decide) (by decide) (by show 4≤9223372036854775807;decide) (Gz sw) (fun _=>⟨mb,0,rfl,h2.lt,fun i v hi=>by
   rw [Nat.zero_add,h2.cell]
   match i with
   |0=>cases hi;rfl
   |1=>cases hi;rfl
   |2=>cases hi;rfl
   |3=>cases hi;rfl
   |i+4=>cases hi⟩)
 rw [hsn] at CF0
 dsimp only at CF0
 replace CF0:=qA CF0
 have GV:=qA (fun W=>Jq i W)
 rw [hgv] at GV
 obtain⟨r1,er1⟩:=qH hop.2.2.1.1
 obtain⟨r2,er2⟩:=qH hop.2.2.2.1
 have hr1:r1<32:=by omega
 have hr2:r2<32:=by omega
 obtain⟨av,hav0⟩:∃ av,C.names.regs.getD r1 0=av:=⟨_,rfl⟩
 obtain⟨bv,hbv0⟩:∃ bv,C.names.regs.getD r2 0=bv:=⟨_,rfl⟩
 have htc:takeC C i=(C.names,0,0):=by unfold takeC;rw [hgv];rfl
 have hu5:Me C i={ Bz with seq:=C.seq,pc:=C.pc,cause:=0,ins:=i,a:=av,b:=bv }:=by
  unfold Me
  rw [htc,er1,er2,Int.toNat_natCast,Int.toNat_natCast,hav0,hbv0]
  rfl
 have hc5:R5 C sl i={ C with slots:=sl,ops:=C.ops++[{ Bz with seq:=C.seq,pc:=C.pc,cause:=0,ins:=i,a:=av,b:=bv }],seq:=C.seq+1,taken:=C.taken+1 }:=by
  unfold R5
  rw [htc,hgv,hu5]
  rfl
 obtain⟨u5,hu5e⟩:∃ u,Me C i=u:=⟨_,rfl⟩
 obtain⟨C5,hC5e⟩:∃ X,R5 C sl i=X:=⟨_,rfl⟩
 rw [hu5e] at hu5
 rw [hC5e] at hc5
 have HU5E:=qA hu5
 have HC5:=qA hc5
 have E1:=qA er1
 have E2:=qA er2
 have AV:=qA hav0
 have BV:=qA hbv0
 obtain⟨⟨nx,sc⟩,hfo⟩:∃ fo,Dd C i C.pc=fo:=⟨_,rfl⟩
 have hfx:Acw C sl i={ C5 with access:=if (Bp i || A0 i)=true then C.access++[(⟨C.seq,A0 i,false,0,0,0,false⟩:Acc)] else C.access }:=by rw [←hC5e];rfl
 rw [hfx,hfo,hu5e] at hXF
 dsimp only at hXF
 have S5:Hid (u5.seq=C.seq):=qA (by rw [hu5])
 have P5:Hid (u5.pc=C.pc):=qA (by rw [hu5])
 have I5:Hid (u5.ins=i):=qA (by rw [hu5])
 have N5:Hid (u5.next=0):=qA (by rw [hu5];rfl)
 have INS:Hid (u5.cells.extract 5 (5+5)=i.cells):=qA (by rw [Uop.insX,I5.out])
 have CA5:Hid (C5.access=C.access):=qA (by rw [hc5])
 have CT5:Hid (C5.table=C.table):=qA (by rw [hc5])
 have CS5:Hid (C5.script=C.script):=qA (by rw [hc5])
 have CO5:Hid (C5.ops=C.ops++[u5]):=qA (by rw [hc5,hu5])
 have LB:=qA (fun W=>Io i W)
 have SB:=qA (fun W=>Mu i W)
 have AB:=qA (fun W=>Ij i W)
 have HTB:=qA hI.tab
 have HPC:=qA hI.pc
 have HFO:=qA hfo
 generalize hlb:Bp i=lb at *
 generalize hsb:A0 i=sb at *
 generalize Ba i=ab at *
 generalize Bv C=X at *
 have HXF:=qA hXF
 have hq0:=hI.seq0
 have HLEN:=qA h.rows.uops.len
 clear h hXF hSS hSn hp hfr hI hf hst hsn his hop tk1 tk2 tk3 hgv er1 er2 hav0 hbv0 htc hu5 hc5 hu5e hC5e hfo hfx hlb hsb
 go_enter Tryz.func40,Tryz.ntmps40
 go_upto_region 3 with(fail)
 go_simp
 refine Ad 511735 4360 516095 [0,1,2,3,4,5,6,7,8,9,10,11,12,13,14,15,16,17,18] (by kernel_rfl) (by kernel_rfl) (by kernel_rfl) rfl ?_
 refine rR (fun wq hwq=>i2 (hwq.at_ zg c334) (i2 (hwq.at_ zg c0) (hwq.at_ zg c337))) ?_
 refine oS (fun w1 hw1 K1 hK1=>?_)
 have hb1:Below w.heap.size w w1:=by rw [hw1];exact(qB _ _).drew
 clear hw1
 go_wp2_with(go_at_call 74;(with_reducible refine(CP0.out w1 hb1).mono ?_);intro e w2 hpost;obtain⟨hb2,v2,rfl,ho2⟩:=hpost;obtain⟨A2,c2,rfl⟩:=Al (show w2.ownsRow w1.heap.size 166 2 v2 sl.length (Ay sl) from ho2))
 refine hK1 _ _ (fun _=>True) trivial ?_
 simp only [Act.put,sA,sS,sZ]
 clear hK1 K1
 refine rO ?_
 refine Aj ?_
 rintro w3 hw3
 replace ho2:w2.ownsRow w1.heap.size 166 2 (.slice A2 sl.length c2) sl.length (Ay sl):=ho2
 replace hb2:=hb1.trans (hb2.mono hb1.size)
 rw [←hw3] at hb2 ho2
 have ho3:w3.ownsRow B 166 2 (.slice A2 sl.length c2) sl.length (Ay sl):=Gp ho2 (qD HLOW.out hb1.size)
 clear hw3 ho2 hb1 c339 c141 c334 c0 c337 zg CP0
 have HI3:=qA (HI.out.ext hb2)
 have k337:w3.cell? ⟨g,337,none⟩=some (.int .i64 C.seq):=HI3.out.cell HI3.out.cells.seq
 have k338:w3.cell? ⟨g,338,none⟩=some (.int .u32 C.pc):=HI3.out.cell HI3.out.cells.pc
 have zg3:=HI3.out.lt
 go_upto_region 6 with(fail)
 go_simp
 refine Ad 1143 392 1535 [0,1,2,3,4,5,6,7,8,9,10] (by kernel_rfl) (by kernel_rfl) (by kernel_rfl) rfl ?_
 repeat'(first
  |refine rZ ?_
  |(refine' oR _ (by decide) (by decide) (by decide) (fun wq hwq K hK=>?_) ?_ ?_;rotate_left 1;(· have q337:=hwq.at_ zg3 k337;have q338:=hwq.at_ zg3 k338;first | ((refine Dw 107 _ rfl [(0, .int .i64 C.seq),(3, .int .u32 C.pc)] rfl _ (Mw C.seq C.pc) ?_;exact hK)) | (go_wp2_with(fail);all_goals exact hK));rfl)
  |fail)
 refine oS (fun w4 hw4 K1 hK1=>?_)
 have hb4:Below w3.heap.size w3 w4:=by rw [hw4];exact(qB _ _).drew
 clear hw4
 go_wp2_with(fail)
 have hB5:=Blk.new w4 107 (Uop.cells { Bz with seq:=C.seq,pc:=C.pc })
 have hb5:=hb4.alloc hb4.size (.cells (Uop.cells { Bz with seq:=C.seq,pc:=C.pc }) 107)
 have hpl:=hb4.size
 refine hK1 _ _ (fun _=>True) trivial ?_
 simp only [Act.put,sA,sS,sZ]
 clear hK1 K1
 refine rO ?_
 refine Aj ?_
 rintro w5 hw5
 replace hB5:Blk w5 w4.heap.size 107 (Uop.cells { Bz with seq:=C.seq,pc:=C.pc }):=by rw [hw5];exact hB5
 replace hb5:Below w3.heap.size w3 w5:=by rw [hw5];exact hb5
 clear hw5 hb4 k337 k338 zg3
 generalize w4.heap.size=p at *
 have HP5:=qA hB5
 have HO5:=qA (Cj ho3 hb5)
 have HB5:=qA (hb2.trans (hb5.mono hb2.size))
 have hpw:w.heap.size≤p:=qD hb2.size hpl
 clear hB5 ho3 hb5 hb2 hpl HI3
 have hI5:=HI.out.ext HB5.out
 obtain⟨AA,cA,hav,hAS,_,_,_⟩:=J0 hI5.rows.access
 obtain⟨MA,cM,hMv,hMl,hMn,hMI,_,_⟩:=Fs hI5.rows.mem
 have c336:w5.cell? ⟨g,336,none⟩=some (.slice AA C.access.length cA):=by rw [←hav];exact hI5.access
 have c39:w5.cell? ⟨g,39,none⟩=some (.slice MA C.mem.length cM):=by rw [←hMv];exact hI5.mem
 have c337:w5.cell? ⟨g,337,none⟩=some (.int .i64 C.seq):=hI5.cell hI5.cells.seq
 have c338:w5.cell? ⟨g,338,none⟩=some (.int .u32 C.pc):=hI5.cell hI5.cells.pc
 have zg5:=hI5.lt
 have CS:=qA (fun W (hb:Below w5.heap.size w5 W)=>CS0.out AA cA MA cM W ((hAS.below hb).mono hb.size) ((hMI.below hb).mono hb.size))
 clear hI5 hav hAS hMv hMl hMn hMI
 go_upto_region 7 with(fail)
 go_simp
 refine Ad 33353463 69896 33423359 [0,1,2,3,4,5,6,7,8,9,10,11,12,13,14,15,16,17,18,19,20,21,22,23,24] (by kernel_rfl) (by kernel_rfl) (by kernel_rfl) rfl ?_
 refine rR (fun wq hwq=>i2 (hwq.at_ zg5 c336) (i2 (hwq.at_ zg5 c39) (i2 (hwq.at_ zg5 c337) (hwq.at_ zg5 c338)))) ?_
 refine oS (fun w6 hw6 K1 hK1=>?_)
 have hb6:Below w5.heap.size w5 w6:=by rw [hw6];exact(qB _ _).drew
 clear hw6
 go_wp2_with(go_at_call 75;(with_reducible refine(CS.out w6 hb6).mono ?_);rintro e w7 ⟨rfl,hb7⟩)
 refine hK1 _ _ (fun _=>True) trivial ?_
 simp only [Act.put,sA,sS,sZ]
 clear hK1 K1 CS
 refine rO ?_
 refine Aj ?_
 rintro w8 hw8
 replace hb7:=hb6.trans (hb7.mono hb6.size)
 rw [←hw8] at hb7
 clear hw8 hb6 c336 c39 c337 c338 zg5
 have hP8:=HP5.out.ext hb7
 have hb8:Below w.heap.size w w8:=HB5.out.trans (hb7.mono HB5.out.size)
 have ho8:=Cj HO5.out hb7
 have k10:w8.cell? ⟨p,10,none⟩=some (.int .i64 0):=hP8.cell 10
 have f10:=hP8.frozen 10
 have z8:=hP8.lt
 have HJ9:=qA (show Blk (w8.setCell ⟨p,10,none⟩ (.int .i64 1)) p 107 (Uop.cells { Bz with seq:=C.seq,pc:=C.pc,cause:=1 })∧Below w.heap.size w (w8.setCell ⟨p,10,none⟩ (.int .i64 1))∧(w8.setCell ⟨p,10,none⟩ (.int .i64 1)).ownsRow B 166 2 (.slice A2 sl.length c2) sl.length (Ay sl) from
  ⟨hP8.set 10 (.int .i64 1),Ap hpw hb8,ho8.kept (grownBy_setCell w8 ⟨p,10,none⟩ (.int .i64 1)) (Br ho8 hP8 (by decide))⟩)
 clear hP8 hb8 ho8 hb7 HP5 HB5 HO5
 go_upto_region 9 with(fail)
 go_simp
 clear k10 f10 z8
 generalize w8.setCell ⟨p,10,none⟩ (.int .i64 1)=w9 at *
 have HFR:=qA (qD HLOW.out hpw)
 go_upto_region 11 with(first
  |(refine Am rfl 151 _ rfl [(0, .int .u8 _),(1, .int .u8 _),(2, .int .u8 _),(3, .int .u8 _)] rfl _ (Qc _ _ _ _) ?_)
  |(refine Ae rfl 151 _ _ rfl w9.heap.size _ rfl rfl 151 _ (Blk.new w9 _ _) Ts rfl Y8 ?_;intro w10 hB10 hg10))
 go_simp
 have hb10:Below w9.heap.size w9 w10:=below_grown ((qB _ _).alloc (qC _) _) hg10 (by simp) (qC _)
 have hP10:=HJ9.out.1.ext hb10
 clear hg10
 go_upto_region 12 with(first
  |(go_at_call 33;(with_reducible refine(CF0.out w9.heap.size w10 hB10).mono ?_);rintro e w11 ⟨rfl,hb11⟩;have hP11:=hP10.ext hb11)
  |(refine B7 rfl 53 _ _ rfl p 5 i.cells rfl rfl 107 _ hP11 (Ll _) (show 5+5≤27 by decide) (Qt _) ?_;intro w12 hB12 hg12;have k10:w12.cell? ⟨p,10,none⟩=some (.int .i64 1):=hB12.cell 10;have f10:=hB12.frozen 10;have z12:=hB12.lt))
 go_simp
 have hbx:Below w.heap.size w w11:=(HJ9.out.2.1.trans (hb10.mono HJ9.out.2.1.size)).trans (hb11.mono (qD HJ9.out.2.1.size hb10.size))
 have hox:=Cj (Cj HJ9.out.2.2 hb10) hb11
 have hoy:=hox.kept hg12 (Br hox hP11 (by decide))
 have HJ13:=qA (show Blk (w12.setCell ⟨p,10,none⟩ (.int .i64 0)) p 107 (Uop.cells { Bz with seq:=C.seq,pc:=C.pc,cause:=0,ins:=i })∧Below w.heap.size w (w12.setCell ⟨p,10,none⟩ (.int .i64 0))∧(w12.setCell ⟨p,10,none⟩ (.int .i64 0)).ownsRow B 166 2 (.slice A2 sl.length c2) sl.length (Ay sl) from
  ⟨(show Blk w12 p 107 (Uop.cells { Bz with seq:=C.seq,pc:=C.pc,cause:=1,ins:=i }) from hB12).set 10 (.int .i64 0),Ap hpw (below_grown hbx hg12 hbx.size hpw),hoy.kept (grownBy_setCell w12 ⟨p,10,none⟩ (.int .i64 0)) (Br hoy hB12 (by decide))⟩)
 clear k10 f10 z12 hbx hox hoy hB12 hg12 hP11 hP10 hb11 hb10 hB10 HJ9
 generalize w12.setCell ⟨p,10,none⟩ (.int .i64 0)=w13 at *
 have hI9:=HI.out.ext (HJ13).out.2.1
 obtain⟨fr1,fr2,fr3⟩:=HI.out.fresh hpw
 obtain⟨AP,nP,hvo,hno1,hno2,hno3⟩:=Fc hI9.rows.ptrs
 have c335:w13.cell? ⟨g,335,none⟩=some (.slice AP ps.length nP):=by rw [←hvo];exact hI9.ops
 have hba:=(qB w13.heap.size w13).alloc (qC _) (.cells #[.pointer (some ⟨p,0,none⟩)] 105)
 have hIA:=hI9.ext hba
 have hrowA:B8 (w13.alloc (.cells #[.pointer (some ⟨p,0,none⟩)] 105)) B (.slice AP ps.length nP) ps:=by
  have:=hIA.rows.ptrs
  rw [hvo] at this
  exact this
 have hcA:(w13.alloc (.cells #[.pointer (some ⟨p,0,none⟩)] 105)).cell? ⟨w13.heap.size,0,none⟩=some (.pointer (some ⟨p,0,none⟩)):=(Blk.new w13 105 #[.pointer (some ⟨p,0,none⟩)]).cell 0
 have hPA:=(HJ13).out.1.ext hba
 have hOA:=Cj (HJ13).out.2.2 hba
 have hlen:ps.length≤1000:=by rw [hI9.rows.uops.len];omega
 have HPU:=qA (fun w' v' (hr:B8 w' B v' (ps++[p])) (hg:(w13.alloc (.cells #[.pointer (some ⟨p,0,none⟩)] 105)).grownBy w' (Value.slice AP ps.length nP).ownBlock) (hv:v'.ownBlock=(Value.slice AP ps.length nP).ownBlock∨∀ k,v'.ownBlock=some k→(w13.alloc (.cells #[.pointer (some ⟨p,0,none⟩)] 105)).heap.size≤k)=>
  have hg':(w13.alloc (.cells #[.pointer (some ⟨p,0,none⟩)] 105)).grownBy w' L.ops.ownBlock:=by rw [hvo];exact hg
  have hu':C9 w' B C.ops ps:=hIA.rows.uops.kept hg' (fun q hq e=>by
   obtain⟨u,hu,_⟩:=hIA.rows.uops.mem hq
   obtain⟨cur,hk⟩:=Kx hIA.rows.ptrs e.symm
   exact Bm hu hk (by decide) rfl)
  have hP':Blk w' p 107 _:=hPA.grown hg' (by
   rcases hIA.rows.ptrs.other hPA (by decide) with e | e
   ·rw [e];simp
   ·exact fun e'=>e e'.symm)
  hIA.pushed hg' hr (hu'.snoc hP' fr1 fr2) (by rw [hvo];exact hv) (fun q hq=>by
   rcases List.mem_append.1 hq with hq | hq
   ·exact Or.inl hq
   ·obtain rfl:=List.mem_singleton.1 hq
    exact Or.inr fr3) (hOA.kept hg' (by
   have:=Kw hOA hIA.rows.ptrs (by decide)
   exact this)))
 have hlow:=hIA.low
 have HT9:=qA (Ah.below (B:=B) ((HJ13).out.2.1.trans (hba.mono (HJ13).out.2.1.size)))
 clear hI9 hvo hno1 hno2 hno3 hIA hPA hOA fr1 fr2 fr3
 go_upto_region 13 with(at_builtin;refine F7 rfl (.tmp 107) (.tmp 109) rfl (v := .slice AP ps.length nP) rfl hrowA hlow hlen ⟨w13.heap.size,0,none⟩ 1 p rfl hcA ?_;intro v14 w14 hr14 hg14 hv14;obtain⟨A14,m14,n14,rfl⟩:=Q9 hr14;obtain⟨hps14,k334,k335,f334,f335,z14⟩:=HPU.out w14 _ hr14 hg14 hv14;have HJ14:=qA (qL hps14.1 (HT9.out.trans hps14.2));clear hps14 hr14 hg14 hv14)
 go_simp
 clear k334 k335 f334 f335 z14 hrowA hcA hlen hlow hba c335 HPU HT9
 generalize (w14.setCell ⟨g,334,none⟩ (.slice A2 sl.length c2)).setCell ⟨g,335,none⟩ (.slice A14 m14 n14)=w15 at *
 have h15:=HJ14.out.1
 have k337:=h15.cell h15.cells.seq
 have k41:=h15.cell h15.cells.taken
 have f337:=h15.blk.frozen 337
 have f41:=h15.blk.frozen 41
 have z15:=h15.lt
 have h16:=h15.set 337 (.int .i64 (C.seq+1)) (h15.cells.set_seq (C.seq+1)) h15.rows
 have h17:=h16.set 41 (.int .i64 (C.taken+1)) (h16.cells.set_taken (C.taken+1)) h16.rows
 have HJ17:=qA (qL h17 ((HJ14.out.2.trans (h15.turned (grownBy_setCell w15 ⟨g,337,none⟩ (.int .i64 (C.seq+1))))).trans (h16.turned (grownBy_setCell _ ⟨g,41,none⟩ (.int .i64 (C.taken+1))))))
 clear h15 h16 h17 HJ14
 go_upto_region 15 with(fail)
 go_simp
 clear k337 k41 f337 f41 z15
 generalize (w15.setCell ⟨g,337,none⟩ (.int .i64 (C.seq+1))).setCell ⟨g,41,none⟩ (.int .i64 (C.taken+1))=w17 at *
 obtain⟨LQ,csQ,hQ⟩:∃ L' cs',Af B w17 g { C with slots:=sl,ops:=C.ops++[{ Bz with seq:=C.seq,pc:=C.pc,cause:=0,ins:=i }],seq:=C.seq+1,taken:=C.taken+1 } L' (ps++[p]) cs':=⟨_,_,HJ17.out.1⟩
 have HTQ:=qA HJ17.out.2
 have hkp:(ps++[p])[C.ops.length]? = some p:=by rw [←HLEN.out];simp
 have hkq:(C.ops++[({ Bz with seq:=C.seq,pc:=C.pc,cause:=0,ins:=i }:Uop)])[C.ops.length]? = some { Bz with seq:=C.seq,pc:=C.pc,cause:=0,ins:=i }:=by simp
 have huQ:=(hQ.rows.uops.at_ C.ops.length _ p hkq hkp).1
 have HQ:=qA hQ
 have HUQ:=qA huQ
 have HKP:=qA hkp
 have c10:w17.cell? ⟨p,10,none⟩=some (.int .i64 0):=huQ.cell 10
 have c3:w17.cell? ⟨p,3,none⟩=some (.int .u32 C.pc):=huQ.cell 3
 have zQ:=huQ.lt
 clear hQ HJ17 hkp hkq huQ
 have c7:w17.cell? ⟨p,7,none⟩=some (.int .i64 (r1:Int)):=by
  have h1:w17.cell? ⟨p,7,none⟩=some (.int .i64 i.rs1):=HUQ.out.cell 7
  rw [E1.out] at h1
  exact h1
 have c8:w17.cell? ⟨p,8,none⟩=some (.int .i64 (r2:Int)):=by
  have h1:w17.cell? ⟨p,8,none⟩=some (.int .i64 i.rs2):=HUQ.out.cell 8
  rw [E2.out] at h1
  exact h1
 have kr1:w17.cell? ⟨g,109+r1,none⟩=some (.int .i64 av):=by
  have h1:=HQ.out.reg (r:=r1) hr1
  rw [show(C.names.regs.getD r1 0)=av from AV.out] at h1
  exact h1
 have kr2:w17.cell? ⟨g,109+r2,none⟩=some (.int .i64 bv):=by
  have h1:=HQ.out.reg (r:=r2) hr2
  rw [show(C.names.regs.getD r2 0)=bv from BV.out] at h1
  exact h1
 have zgQ:=HQ.out.lt
 clear c3
 go_upto_region 20 with(fail)
 go_simp
 refine Ad 461107071 8654976 469762047 [0,1,2,3,4,5,6,7,8,9,10,11,12,13,14,15,16,17,18,19,20,21,22,23,24,25,26,27,28,29] (by kernel_rfl) (by kernel_rfl) (by kernel_rfl) rfl ?_
 refine rR (fun wq hwq=>i2 (hwq.at_ zQ c7) (i2 (hwq.at_ zQ c8) (i2 (hwq.at_ zgQ kr1) (hwq.at_ zgQ kr2)))) ?_
 refine oS (fun w18 hw18 K1 hK1=>?_)
 have hb18:Below w17.heap.size w17 w18:=by rw [hw18];exact(qB _ _).drew
 clear hw18
 have u18:=HUQ.out.ext hb18
 have k11:w18.cell? ⟨p,11,none⟩=some (.int .i64 0):=u18.cell 11
 have f11:=u18.frozen 11
 have z18:=u18.lt
 have s18:=(HQ.out.ext hb18).setuop HKP.out u18 11 (.int .i64 av) (Uop.set_a { Bz with seq:=C.seq,pc:=C.pc,cause:=0,ins:=i } av)
 have su18:=u18.set 11 (.int .i64 av)
 have HJ18:=qA (qL s18 (qL su18 ((HTQ.out.trans (Ah.below (B:=B) hb18)).trans (Cc u18 HFR.out (grownBy_setCell w18 ⟨p,11,none⟩ (.int .i64 av))))))
 clear s18 su18 u18 hb18 HQ HUQ HTQ c10 c7 c8 kr1 kr2 zgQ zQ
 go_wp2_with(fail)
 refine hK1 undef _ (fun _=>True) trivial ?_
 simp only [Act.put,sA,sS,sZ]
 clear hK1 K1 k11 f11 z18
 refine rO ?_
 refine oS (fun w19 hw19 K1 hK1=>?_)
 rw [←hw19] at HJ18
 clear hw19
 have u19:Blk w19 p 107 (Uop.cells { Bz with seq:=C.seq,pc:=C.pc,cause:=0,ins:=i,a:=av }):=HJ18.out.2.1
 have k12:w19.cell? ⟨p,12,none⟩=some (.int .i64 0):=u19.cell 12
 have f12:=u19.frozen 12
 have z19:=u19.lt
 have s19:=HJ18.out.1.setuop HKP.out u19 12 (.int .i64 bv) (Uop.set_b { Bz with seq:=C.seq,pc:=C.pc,cause:=0,ins:=i,a:=av } bv)
 have su19:=u19.set 12 (.int .i64 bv)
 have HJ19:=qA (qL s19 (qL su19 (HJ18.out.2.2.trans (Cc u19 HFR.out (grownBy_setCell w19 ⟨p,12,none⟩ (.int .i64 bv))))))
 clear s19 su19 u19 HJ18
 go_wp2_with(fail)
 refine hK1 undef _ (fun _=>True) trivial ?_
 simp only [Act.put,sA,sS,sZ]
 clear hK1 K1 k12 f12 z19
 refine Aj ?_
 rintro w20 hw20
 rw [←hw20] at HJ19
 clear hw20
 have e20:((C.ops++[({ Bz with seq:=C.seq,pc:=C.pc,cause:=0,ins:=i }:Uop)]).set C.ops.length { Bz with seq:=C.seq,pc:=C.pc,cause:=0,ins:=i,a:=av }).set C.ops.length { Bz with seq:=C.seq,pc:=C.pc,cause:=0,ins:=i,a:=av,b:=bv }=C.ops++[{ Bz with seq:=C.seq,pc:=C.pc,cause:=0,ins:=i,a:=av,b:=bv }]:=by rw [List.set_set];exact Gj
 have h20:Af B w20 g { C with slots:=sl,ops:=C.ops++[{ Bz with seq:=C.seq,pc:=C.pc,cause:=0,ins:=i,a:=av,b:=bv }],seq:=C.seq+1,taken:=C.taken+1 } LQ (ps++[p]) csQ:=by
  rw [←e20]
  exact HJ19.out.1
 have hu20:Blk w20 p 107 (Uop.cells { Bz with seq:=C.seq,pc:=C.pc,cause:=0,ins:=i,a:=av,b:=bv }):=HJ19.out.2.1
 have HT20:=qA HJ19.out.2.2
 clear e20 HJ19
 go_upto_region 24 with(first
  |(refine Ai rfl 53 _ rfl p 5 rfl 107 _ 5 _ hu20 Tryz.underlying53 rfl Au (show 5+5≤27 by decide) ?_;rw [show(Uop.cells { Bz with seq:=C.seq,pc:=C.pc,cause:=0,ins:=i,a:=av,b:=bv }).extract 5 (5+5)=i.cells from rfl])
  |(go_at_call 57;(with_reducible refine(GV.out _).mono ?_);rintro e w21 ⟨rfl,hb21⟩))
 go_simp
 have HI21:=qA (h20.ext hb21)
 have HU21:=qA (hu20.ext hb21)
 have HT21:=qA (HT20.out.trans (Ah.below (B:=B) hb21))
 clear h20 hu20 HT20 hb21
 have hh5:Af B w21 g C5 LQ (ps++[p]) csQ:=by
  rw [HC5.out]
  exact HI21.out
 have HI5:=qA hh5
 have HU5:Hid (Blk w21 p 107 u5.cells):=qA (by rw [HU5E.out];exact HU21.out)
 have HT5:=qA HT21.out
 clear hh5 HI21 HU21 HT21
 rcases lb with _ | _
 focus
  rcases sb with _ | _
  focus
   skip
   go_upto_region 26 with(first
    |(refine Ai rfl 53 _ rfl p 5 rfl 107 u5.cells 5 _ HU5.out Tryz.underlying53 rfl Au (show 5+5≤27 by decide) ?_;rw [INS.out])
    |(go_at_call 65;(with_reducible refine(LB.out _).mono ?_);rintro e w31 ⟨rfl,hb31⟩)
    |(refine Gu rfl fun K hK=>?_;refine Az 53 _ rfl p 5 rfl 107 u5.cells 5 _ (HU5.out.ext hb31) Tryz.underlying53 rfl Au (show 5+5≤27 by decide) ?_;rw [INS.out];refine hK _ _ ?_)
    |(go_at_call 70;(with_reducible refine(SB.out _).mono ?_);rintro e w32 ⟨rfl,hb32⟩;replace hb32:=hb31.trans (hb32.mono hb31.size)))
   go_simp
   obtain⟨w40,e40⟩:∃ x,x=w32:=⟨_,rfl⟩
   rw [←e40] at hb32 ⊢
   clear e40
   have HXG:=qA (show X=(!ab,{ ({ C5 with access:=C.access }:Core) with ops:=C.ops++[{ u5 with next:=nx }],script:=sc,pc:=nx,still:=ab }) from HXF.out)
   obtain⟨C6,hC6⟩:∃ C6,C6=({ C5 with access:=C.access }:Core):=⟨_,rfl⟩
   have HC6:=qA hC6
   have e56:C6=C5:=by rw [hC6,←CA5.out]
   obtain⟨L6,cs6,h6⟩:∃ L6 cs6,Af B w40 g C6 L6 (ps++[p]) cs6:=by
    rw [e56]
    exact⟨_,_,HI5.out.ext hb32⟩
   have HI6:=qA h6
   have HU6:=qA (HU5.out.ext hb32)
   have HT6:=qA (HT5.out.trans (Ah.below (B:=B) hb32))
   clear h6 e56 hC6 hb31 hb32 HI5 HU5 HT5 HXF
  rotate_left 1
  focus
   skip
   obtain⟨AA,cAA,hav⟩:=Al HI5.out.rows.access
   have HAV:=qA hav
   have hacl:C5.access.length≤32:=by rw [CA5.out];omega
   obtain⟨i0,hi0,hz0,hz1,hz2⟩:=info_parts P9
   clear hav
   go_upto_region 25 with(first
    |(refine Ai rfl 53 _ rfl p 5 rfl 107 u5.cells 5 _ HU5.out Tryz.underlying53 rfl Au (show 5+5≤27 by decide) ?_;rw [INS.out])
    |(go_at_call 65;(with_reducible refine(LB.out _).mono ?_);rintro e w31 ⟨rfl,hb31⟩)
    |(refine Gu rfl fun K hK=>?_;refine Az 53 _ rfl p 5 rfl 107 u5.cells 5 _ (HU5.out.ext hb31) Tryz.underlying53 rfl Au (show 5+5≤27 by decide) ?_;rw [INS.out];refine hK _ _ ?_)
    |(go_at_call 70;(with_reducible refine(SB.out _).mono ?_);rintro e w32 ⟨rfl,hb32⟩;replace hb32:=hb31.trans (hb32.mono hb31.size)))
   go_simp
   have hb3x:=hb32
   obtain⟨w33,e33⟩:∃ x,x=w32:=⟨_,rfl⟩
   rw [←e33] at hb3x ⊢
   clear e33
   have HI33:=qA (HI5.out.ext hb3x)
   have HU33:=qA (HU5.out.ext hb3x)
   have HT33:=qA (HT5.out.trans (Ah.below (B:=B) hb3x))
   clear hb3x hb31
   (try clear hb32)
   have c336:w33.cell? ⟨g,336,none⟩=some (.slice AA C5.access.length cAA):=by rw [←HAV.out];exact HI33.out.access
   have c0:w33.cell? ⟨p,0,none⟩=some (.int .i64 C.seq):=by
    have h1:w33.cell? ⟨p,0,none⟩=some (.int .i64 u5.seq):=HU33.out.cell 0
    rw [S5.out] at h1
    exact h1
   have zg5:=HI33.out.lt
   have z5:=HU33.out.lt
   clear HI5 HU5 HT5
   refine Ad 397039 20752 417791 [0,1,2,3,4,5,6,7,8,9,10,11,12,13,14,15,16,17,18,19] (by kernel_rfl) (by kernel_rfl) (by kernel_rfl) rfl ?_
   repeat'(first
    |refine rZ ?_
    |(refine' oR _ (by decide) (by decide) (by decide) (fun wq hwq K hK=>?_) ?_ ?_;rotate_left 1;(· have q336:=hwq.at_ zg5 c336;have q0:=hwq.at_ z5 c0;first | ((refine Az 53 _ rfl p 5 rfl 107 u5.cells 5 _ (HU33.out.ext hwq) Tryz.underlying53 rfl Au (show 5+5≤27 by decide) ?_;rw [INS.out];exact hK)) | (go_wp2_with(fail);all_goals exact hK));rfl)
    |fail)
   refine oB (fun w34 hw34 K1 hK1=>?_)
   have hb34:Below w33.heap.size w33 w34:=by rw [hw34];exact(qB _ _).drew
   clear hw34
   go_wp2_with(go_at_call 70;(with_reducible refine(SB.out _).mono ?_);rintro e w35 ⟨rfl,hb35⟩)
   replace hb35:=hb34.trans (hb35.mono hb34.size)
   refine hK1 _ _ hb35 ?_
   simp only [Act.put,sA,sS,sZ]
   clear hK1 K1 hb34
   repeat'(first
    |refine rZ ?_
    |(refine' oR _ (by decide) (by decide) (by decide) (fun wq hwq K hK=>?_) ?_ ?_;rotate_left 1;(· first | ((refine Dw 139 _ rfl [(0, .int .i64 C.seq),(1, .bool true)] rfl _ (Iy C.seq true) ?_;exact hK)) | (go_wp2_with(fail);all_goals exact hK));rfl)
    |fail)
   refine oB (fun w36 hw36 K1 hK1=>?_)
   replace hb35:Below w33.heap.size w33 w36:=by rw [hw36];exact hb35
   clear hw36
   go_wp2_with(fail)
   have hb37:=hb35.alloc hb35.size (.cells (Acc.cells ⟨C.seq,true,false,0,0,0,false⟩) 139)
   have hl37:∀ j u,(Acc.cells ⟨C.seq,true,false,0,0,0,false⟩).toList[j]? = some u→(w36.alloc (.cells (Acc.cells ⟨C.seq,true,false,0,0,0,false⟩) 139)).cell? ((⟨w36.heap.size,0,none⟩:Addr).add j)=some u:=Js w36 _ _ _ rfl
   refine hK1 _ _ hb37 ?_
   simp only [Act.put,sA,sS,sZ]
   clear hK1 K1
   refine rO ?_
   refine oS (fun w37 hw37 K1 hK1=>?_)
   replace hb37:Below w33.heap.size w33 w37:=by rw [hw37];exact hb37
   replace hl37:∀ j u,(Acc.cells ⟨C.seq,true,false,0,0,0,false⟩).toList[j]? = some u→w37.cell? ((⟨w36.heap.size,0,none⟩:Addr).add j)=some u:=by rw [hw37];exact hl37
   clear hw37 hb35
   have h37:=HI33.out.ext hb37
   have hown37:w37.ownsRow B 139 7 (.slice AA C5.access.length cAA) C5.access.length (Dp C5.access):=by
    have:=h37.rows.access
    rw [HAV.out] at this
    exact this
   refine Ie (.tmp 239) (.tmp 250) 84 rfl B 139 i0 _ 7 32 Tryz.underlying84 hi0 hz0 hz1 hz2 rfl (by decide) (.slice AA C5.access.length cAA) C5.access.length (Dp C5.access) rfl hown37 ⟨w36.heap.size,0,none⟩ 1 1 (Acc.cells ⟨C.seq,true,false,0,0,0,false⟩).toList rfl rfl hl37 (fun u hu=>Iz [⟨C.seq,true,false,0,0,0,false⟩] u (by rw [E4];exact List.mem_append_left _ hu)) (by unfold maxLen;omega) (by omega) h37.low ?_
   intro v38 w38 hown38 hg38 hv38
   obtain⟨A38,c38,rfl⟩:=Al hown38
   have hs38:=h37.setaccess (acc':=C5.access++[⟨C.seq,true,false,0,0,0,false⟩]) (v' := .slice A38 (C5.access.length+1) c38) (by rw [HAV.out];exact hg38) (by
    rw [qO,Jj,E4]
    simpa [Dp] using hown38) (by rw [HAV.out];exact hv38)
   obtain⟨h38,t38,k38,f38,z38⟩:=hs38
   have hu38:=(HU33.out.ext hb37).grown hg38 (by
    have:=E7 (HU33.out.ext hb37) hown37 (by decide)
    exact this)
   have HJ38:=qA (qL h38 (qL (hu38.farAt (off:=336) (Bm hu38 (show Blk w38 g 86 _ from h37.blk.grown hg38 (by
    have:=E7 h37.blk hown37 (by decide)
    exact this)) (by decide)) (.slice A38 (C5.access.length+1) c38)) ((HT33.out.trans (Ah.below (B:=B) hb37)).trans t38)))
   refine hK1 _ _ (fun _=>True) trivial ?_
   simp only [Act.put,sA,sS,sZ]
   clear hK1 K1 h38 t38 hu38 hown38 hg38 hv38 hown37 h37 hl37 hb37 HI33 HU33 HT33 c336 c0 zg5 z5
   refine rO ?_
   refine oS (fun w39 hw39 K1 hK1=>?_)
   rw [←hw39] at HJ38 k38 f38 z38
   clear hw39
   rw [HAV.out] at k38
   go_wp2_with(fail)
   refine hK1 undef _ (fun _=>True) trivial ?_
   simp only [Act.put,sA,sS,sZ]
   clear hK1 K1 k38 f38 z38
   refine Aj ?_
   rintro w40 hw40
   rw [←hw40] at HJ38
   clear hw40
   obtain⟨C6,hC6⟩:∃ C6,C6=({ C5 with access:=C.access++[⟨C.seq,true,false,0,0,0,false⟩] }:Core):=⟨_,rfl⟩
   have HC6:=qA hC6
   obtain⟨L6,cs6,h6⟩:∃ L6 cs6,Af B w40 g C6 L6 (ps++[p]) cs6:=by
    rw [hC6,←CA5.out]
    exact⟨_,_,HJ38.out.1⟩
   have HXG:=qA (show X=(!ab,{ ({ C5 with access:=C.access++[⟨C.seq,true,false,0,0,0,false⟩] }:Core) with ops:=C.ops++[{ u5 with next:=nx }],script:=sc,pc:=nx,still:=ab }) by have h1:=HXF.out;simpa using h1)
   have HI6:=qA h6
   have HU6:=qA HJ38.out.2.1
   have HT6:=qA HJ38.out.2.2
   clear h6 hC6 HJ38 HXF HAV hi0 hz0 hz1 hz2 hacl
  rotate_left 1
 rotate_left 2
 focus
  skip
  obtain⟨AA,cAA,hav⟩:=Al HI5.out.rows.access
  have HAV:=qA hav
  have hacl:C5.access.length≤32:=by rw [CA5.out];omega
  obtain⟨i0,hi0,hz0,hz1,hz2⟩:=info_parts P9
  clear hav
  go_upto_region 25 with(first
   |(refine Ai rfl 53 _ rfl p 5 rfl 107 u5.cells 5 _ HU5.out Tryz.underlying53 rfl Au (show 5+5≤27 by decide) ?_;rw [INS.out])
   |(go_at_call 65;(with_reducible refine(LB.out _).mono ?_);rintro e w31 ⟨rfl,hb31⟩)
   |(refine Gu rfl fun K hK=>?_;refine Az 53 _ rfl p 5 rfl 107 u5.cells 5 _ (HU5.out.ext hb31) Tryz.underlying53 rfl Au (show 5+5≤27 by decide) ?_;rw [INS.out];refine hK _ _ ?_)
   |(go_at_call 70;(with_reducible refine(SB.out _).mono ?_);rintro e w32 ⟨rfl,hb32⟩;replace hb32:=hb31.trans (hb32.mono hb31.size)))
  go_simp
  have hb3x:=hb31
  obtain⟨w33,e33⟩:∃ x,x=w31:=⟨_,rfl⟩
  rw [←e33] at hb3x ⊢
  clear e33
  have HI33:=qA (HI5.out.ext hb3x)
  have HU33:=qA (HU5.out.ext hb3x)
  have HT33:=qA (HT5.out.trans (Ah.below (B:=B) hb3x))
  clear hb3x hb31
  (try clear hb32)
  have c336:w33.cell? ⟨g,336,none⟩=some (.slice AA C5.access.length cAA):=by rw [←HAV.out];exact HI33.out.access
  have c0:w33.cell? ⟨p,0,none⟩=some (.int .i64 C.seq):=by
   have h1:w33.cell? ⟨p,0,none⟩=some (.int .i64 u5.seq):=HU33.out.cell 0
   rw [S5.out] at h1
   exact h1
  have zg5:=HI33.out.lt
  have z5:=HU33.out.lt
  clear HI5 HU5 HT5
  refine Ad 397039 20752 417791 [0,1,2,3,4,5,6,7,8,9,10,11,12,13,14,15,16,17,18,19] (by kernel_rfl) (by kernel_rfl) (by kernel_rfl) rfl ?_
  repeat'(first
   |refine rZ ?_
   |(refine' oR _ (by decide) (by decide) (by decide) (fun wq hwq K hK=>?_) ?_ ?_;rotate_left 1;(· have q336:=hwq.at_ zg5 c336;have q0:=hwq.at_ z5 c0;first | ((refine Az 53 _ rfl p 5 rfl 107 u5.cells 5 _ (HU33.out.ext hwq) Tryz.underlying53 rfl Au (show 5+5≤27 by decide) ?_;rw [INS.out];exact hK)) | (go_wp2_with(fail);all_goals exact hK));rfl)
   |fail)
  refine oB (fun w34 hw34 K1 hK1=>?_)
  have hb34:Below w33.heap.size w33 w34:=by rw [hw34];exact(qB _ _).drew
  clear hw34
  go_wp2_with(go_at_call 70;(with_reducible refine(SB.out _).mono ?_);rintro e w35 ⟨rfl,hb35⟩)
  replace hb35:=hb34.trans (hb35.mono hb34.size)
  refine hK1 _ _ hb35 ?_
  simp only [Act.put,sA,sS,sZ]
  clear hK1 K1 hb34
  repeat'(first
   |refine rZ ?_
   |(refine' oR _ (by decide) (by decide) (by decide) (fun wq hwq K hK=>?_) ?_ ?_;rotate_left 1;(· first | ((refine Dw 139 _ rfl [(0, .int .i64 C.seq),(1, .bool sb)] rfl _ (Iy C.seq sb) ?_;exact hK)) | (go_wp2_with(fail);all_goals exact hK));rfl)
   |fail)
  refine oB (fun w36 hw36 K1 hK1=>?_)
  replace hb35:Below w33.heap.size w33 w36:=by rw [hw36];exact hb35
  clear hw36
  go_wp2_with(fail)
  have hb37:=hb35.alloc hb35.size (.cells (Acc.cells ⟨C.seq,sb,false,0,0,0,false⟩) 139)
  have hl37:∀ j u,(Acc.cells ⟨C.seq,sb,false,0,0,0,false⟩).toList[j]? = some u→(w36.alloc (.cells (Acc.cells ⟨C.seq,sb,false,0,0,0,false⟩) 139)).cell? ((⟨w36.heap.size,0,none⟩:Addr).add j)=some u:=Js w36 _ _ _ rfl
  refine hK1 _ _ hb37 ?_
  simp only [Act.put,sA,sS,sZ]
  clear hK1 K1
  refine rO ?_
  refine oS (fun w37 hw37 K1 hK1=>?_)
  replace hb37:Below w33.heap.size w33 w37:=by rw [hw37];exact hb37
  replace hl37:∀ j u,(Acc.cells ⟨C.seq,sb,false,0,0,0,false⟩).toList[j]? = some u→w37.cell? ((⟨w36.heap.size,0,none⟩:Addr).add j)=some u:=by rw [hw37];exact hl37
  clear hw37 hb35
  have h37:=HI33.out.ext hb37
  have hown37:w37.ownsRow B 139 7 (.slice AA C5.access.length cAA) C5.access.length (Dp C5.access):=by
   have:=h37.rows.access
   rw [HAV.out] at this
   exact this
  refine Ie (.tmp 239) (.tmp 250) 84 rfl B 139 i0 _ 7 32 Tryz.underlying84 hi0 hz0 hz1 hz2 rfl (by decide) (.slice AA C5.access.length cAA) C5.access.length (Dp C5.access) rfl hown37 ⟨w36.heap.size,0,none⟩ 1 1 (Acc.cells ⟨C.seq,sb,false,0,0,0,false⟩).toList rfl rfl hl37 (fun u hu=>Iz [⟨C.seq,sb,false,0,0,0,false⟩] u (by rw [E4];exact List.mem_append_left _ hu)) (by unfold maxLen;omega) (by omega) h37.low ?_
  intro v38 w38 hown38 hg38 hv38
  obtain⟨A38,c38,rfl⟩:=Al hown38
  have hs38:=h37.setaccess (acc':=C5.access++[⟨C.seq,sb,false,0,0,0,false⟩]) (v' := .slice A38 (C5.access.length+1) c38) (by rw [HAV.out];exact hg38) (by
   rw [qO,Jj,E4]
   simpa [Dp] using hown38) (by rw [HAV.out];exact hv38)
  obtain⟨h38,t38,k38,f38,z38⟩:=hs38
  have hu38:=(HU33.out.ext hb37).grown hg38 (by
   have:=E7 (HU33.out.ext hb37) hown37 (by decide)
   exact this)
  have HJ38:=qA (qL h38 (qL (hu38.farAt (off:=336) (Bm hu38 (show Blk w38 g 86 _ from h37.blk.grown hg38 (by
   have:=E7 h37.blk hown37 (by decide)
   exact this)) (by decide)) (.slice A38 (C5.access.length+1) c38)) ((HT33.out.trans (Ah.below (B:=B) hb37)).trans t38)))
  refine hK1 _ _ (fun _=>True) trivial ?_
  simp only [Act.put,sA,sS,sZ]
  clear hK1 K1 h38 t38 hu38 hown38 hg38 hv38 hown37 h37 hl37 hb37 HI33 HU33 HT33 c336 c0 zg5 z5
  refine rO ?_
  refine oS (fun w39 hw39 K1 hK1=>?_)
  rw [←hw39] at HJ38 k38 f38 z38
  clear hw39
  rw [HAV.out] at k38
  go_wp2_with(fail)
  refine hK1 undef _ (fun _=>True) trivial ?_
  simp only [Act.put,sA,sS,sZ]
  clear hK1 K1 k38 f38 z38
  refine Aj ?_
  rintro w40 hw40
  rw [←hw40] at HJ38
  clear hw40
  obtain⟨C6,hC6⟩:∃ C6,C6=({ C5 with access:=C.access++[⟨C.seq,sb,false,0,0,0,false⟩] }:Core):=⟨_,rfl⟩
  have HC6:=qA hC6
  obtain⟨L6,cs6,h6⟩:∃ L6 cs6,Af B w40 g C6 L6 (ps++[p]) cs6:=by
   rw [hC6,←CA5.out]
   exact⟨_,_,HJ38.out.1⟩
  have HXG:=qA (show X=(!ab,{ ({ C5 with access:=C.access++[⟨C.seq,sb,false,0,0,0,false⟩] }:Core) with ops:=C.ops++[{ u5 with next:=nx }],script:=sc,pc:=nx,still:=ab }) by have h1:=HXF.out;simpa using h1)
  have HI6:=qA h6
  have HU6:=qA HJ38.out.2.1
  have HT6:=qA HJ38.out.2.2
  clear h6 hC6 HJ38 HXF HAV hi0 hz0 hz1 hz2 hacl
 all_goals
  have hT6:C6.table=C.table:=by rw [HC6.out];exact CT5.out
  have hS6:C6.script=C.script:=by rw [HC6.out];exact CS5.out
  have hO6:C6.ops=C.ops++[u5]:=by rw [HC6.out];exact CO5.out
  have HO6:=qA hO6
  have hfl:Dd C6 u5.ins u5.pc=(nx,sc):=by rw [O4 hS6 hT6,I5.out,P5.out];exact HFO.out
  have FL0:=Us HI6.out HU6.out (by rw [hT6];exact HTB.out) (by rw [P5.out];exact HPC.out)
  rw [hfl] at FL0
  dsimp only at FL0
  have FL:=qA FL0
  clear FL0 hfl hT6 hS6 hO6
  go_upto_region 27 with(go_at_call 77;(with_reducible refine FL.out.mono ?_);rintro e w41 ⟨rfl,hg41,L7,cs7,h7⟩;have hP41:=HU6.out.grown hg41 (fun e=>by injection e with e;exact Bm HU6.out HI6.out.blk (by decide) e);have k4:w41.cell? ⟨p,4,none⟩=some (.int .u32 u5.next):=hP41.cell 4;have f4:=hP41.frozen 4;have z41:=hP41.lt;have HJ41:=qA (qL (h7.setuop HKP.out hP41 4 (.int .u32 nx) (Uop.set_next u5 nx)) (qL (hP41.set 4 (.int .u32 nx)) ((HT6.out.trans (HI6.out.turned hg41)).trans (Cc hP41 HFR.out (grownBy_setCell w41 ⟨p,4,none⟩ (.int .u32 nx))))));clear h7 hg41 hP41)
  go_simp
  clear k4 f4 z41 HI6 HU6 HT6 FL
  generalize w41.setCell ⟨p,4,none⟩ (.int .u32 nx)=w42 at *
  have e42:C6.ops.set C.ops.length { u5 with next:=nx }=C.ops++[{ u5 with next:=nx }]:=by rw [HO6.out];exact Gj
  obtain⟨C7,hC7⟩:∃ C7,C7=({ C6 with script:=sc,ops:=C.ops++[{ u5 with next:=nx }] }:Core):=⟨_,rfl⟩
  have HC7:=qA hC7
  have h42:Af B w42 g C7 L7 (ps++[p]) cs7:=by
   rw [hC7,←e42]
   exact HJ41.out.1
  have hu42:Blk w42 p 107 (Uop.cells { u5 with next:=nx }):=HJ41.out.2.1
  have HT42:=qA HJ41.out.2.2
  have HI42:=qA h42
  have HU42:=qA hu42
  have d4:w42.cell? ⟨p,4,none⟩=some (.int .u32 nx):=hu42.cell 4
  have z42:=hu42.lt
  clear h42 hu42 HJ41 e42 hC7
  refine Ad 55775 544 56319 [0,1,2,3,4,5,6,7,8,9,10,11,12,13,14,15,16] (by kernel_rfl) (by kernel_rfl) (by kernel_rfl) rfl ?_
  repeat'(first
   |refine rZ ?_
   |(refine' oR _ (by decide) (by decide) (by decide) (fun wq hwq K hK=>?_) ?_ ?_;rotate_left 1;(· have q4:=hwq.at_ z42 d4;first | ((refine Az 53 _ rfl p 5 rfl 107 (Uop.cells { u5 with next:=nx }) 5 _ (HU42.out.ext hwq) Tryz.underlying53 rfl Au (show 5+5≤27 by decide) ?_;rw [show(Uop.cells { u5 with next:=nx }).extract 5 (5+5)=i.cells from INS.out];exact hK)) | (go_wp2_with(fail);all_goals exact hK));rfl)
   |fail)
  refine oB (fun w43 hw43 K1 hK1=>?_)
  have hb43:Below w42.heap.size w42 w43:=by rw [hw43];exact(qB _ _).drew
  clear hw43
  go_wp2_with(go_at_call 63;(with_reducible refine(AB.out _).mono ?_);rintro e w44 ⟨rfl,hb44⟩)
  replace hb44:=hb43.trans (hb44.mono hb43.size)
  refine hK1 _ _ hb44 ?_
  simp only [Act.put,sA,sS,sZ]
  clear hK1 K1 hb43
  refine rR (fun wq hwq=>hwq.at_ z42 d4) ?_
  refine oS (fun w45 hw45 K1 hK1=>?_)
  rw [←hw45] at hb44
  clear hw45
  have h45:=HI42.out.ext hb44
  have k338:=h45.cell h45.cells.pc
  have f338:=h45.blk.frozen 338
  have z45:=h45.lt
  have s45:=h45.set 338 (.int .u32 nx) (h45.cells.set_pc nx) h45.rows
  have HJ45:=qA (qL s45 ((HT42.out.trans (Ah.below (B:=B) hb44)).trans (h45.turned (grownBy_setCell w45 ⟨g,338,none⟩ (.int .u32 nx)))))
  clear h45 s45 hb44 HI42 HU42 HT42 d4 z42
  go_wp2_with(fail)
  refine hK1 undef _ (fun _=>True) trivial ?_
  simp only [Act.put,sA,sS,sZ]
  clear hK1 K1 k338 f338 z45
  refine rO ?_
  refine oS (fun w46 hw46 K1 hK1=>?_)
  rw [←hw46] at HJ45
  clear hw46
  have h46:=HJ45.out.1
  have k339:=h46.cell h46.cells.still
  have f339:=h46.blk.frozen 339
  have z46:=h46.lt
  have s46:=h46.set 339 (.bool ab) (h46.cells.set_still ab) h46.rows
  have HJ46:=qA (qL s46 (HJ45.out.2.trans (h46.turned (grownBy_setCell w46 ⟨g,339,none⟩ (.bool ab)))))
  clear h46 s46 HJ45
  go_wp2_with(fail)
  refine hK1 undef _ (fun _=>True) trivial ?_
  simp only [Act.put,sA,sS,sZ]
  clear hK1 K1 k339 f339 z46
  refine Aj ?_
  rintro w47 hw47
  rw [←hw47] at HJ46
  clear hw47
  have d339:w47.cell? ⟨g,339,none⟩=some (.bool ab):=HJ46.out.1.cell HJ46.out.1.cells.still
  have z47:=HJ46.out.1.lt
  go_wp2_with(fail)
  have hxg:=HXG.out
  clear HXG
  have hx2:X.2={ C7 with pc:=nx,still:=ab }:=by rw [hxg,HC7.out,HC6.out]
  have HX1:Hid (X.1=!ab):=qA (by rw [hxg])
  have HJX:Hid (∃ L9 ps9 cs9,Af B w47 g X.2 L9 ps9 cs9):=qA (by rw [hx2];exact⟨_,_,_,HJ46.out.1⟩)
  clear hx2 hxg
  (try clear HXF)
  go_ret
  exact⟨by rw [HX1.out];rfl,HJ46.out.2,HJX.out⟩
end
end Go.Proofs.YtapgojgcmlnbgaaGreatDoor
