/- Parts of a proof. -/
import Derived.Test.YtapgojgcmlnbgacK37
set_option linter.unusedSimpArgs false
set_option linter.unusedVariables false
set_option maxRecDepth 100000
set_option maxHeartbeats 16000000
namespace Go.Proofs.Ytapgojgcmlnbgac
open Go Go.RowKit
section
variable {B:Nat} {w:World} {g p:Nat} {C:Core} {L:Lay} {ps:List Nat} {cs:Array Value}
theorem fetch_bad (h:CoreIs B w g C L ps cs) (hI:Inv C) (hst:C.still=false) (hfr:C.names.free≠[]) {sl:List Slt} (hp:pushP C.slots C.window C.seq=some sl) (hq:C.seq≤4611686018427387904) (ht:0≤C.taken∧C.taken≤4611686018427387904) {i:Ins} {c:Int} (hsn:seeIns C=(i,c)) (hc:c≠0) :
  Calls Try.prog 17 #[.pointer (some ⟨g,0,none⟩)] w (FePost B w g (fetchC C)):=by
 have hXF:=fetchC_fault (fun hh=>by rcases hh with hh | hh;rw [hst] at hh;cases hh;exact hfr hh) hp hsn hc
 have hf:=hI.fine
 have c339:w.cell? ⟨g,339,none⟩=some (.bool false):=by
  have:=h.cell h.cells.still
  rw [hst] at this
  exact this
 have c141:=h.nfree
 have e0:((C.names.free.length:Int)==0)=false:=by
  have:C.names.free.length≠0:=fun e=>hfr (List.eq_nil_of_length_eq_zero e)
  simpa using this
 have c334:=h.slots
 have c0:w.cell? ⟨g,0,none⟩=some (.int .i64 C.window):=h.cell h.cells.window
 have c337:w.cell? ⟨g,337,none⟩=some (.int .i64 C.seq):=h.cell h.cells.seq
 have zg:=h.lt
 obtain⟨AS,cS,hsv,hSS,hSn,hS1,hS2⟩:=slots_own h.rows.slots
 rw [hsv] at c334
 have hsl:=hf.lens.2.1
 have hsl2:=push_len hp
 have HSL2:=Lib.hid hsl2
 clear hsl2
 have hle:=hf.lens
 have CP0:=Lib.hid (fun W (hb:Below w.heap.size w W)=>push_any AS cS C.slots C.window C.seq W (by omega) ((hSS.below hb).mono hb.size) hSn)
 rw [hp] at CP0
 have CS0:=Lib.hid (fun A cA M cM W h1 h2=>see_any A cA C.access M cM C.mem C.seq C.pc 4 W (by omega) (by have:=hI.room;omega) (hf.wf (by omega)) hI.bytes h1 h2 hI.pc.1 hI.pc.2)
 have HLOW:=Lib.hid h.low
 have HI:=Lib.hid h
 unfold seeIns at hsn
 generalize seeP C.access C.mem C.seq C.pc 4=S at *
 obtain⟨sw,so,ss⟩:=S
 dsimp only at CS0 hsn
 have CF0:∀ mb W,Blk W mb 98 #[.int .u8 (sw%256), .int .u8 (sw / 256%256), .int .u8 (sw / 65536%256), .int .u8 (sw / 16777216%256)] →
   Calls Try.prog 38 #[.slice (some ⟨mb,0,none⟩) 4 4, .int .u32 0] W fun e w'=>e = .returned (.tuple #[.agg (fetchP (bytesOf sw) 0).1.cells, .int .i64 (fetchP (bytesOf sw) 0).2])∧Below W.heap.size W w':=fun mb W h2=>
  fetch_any (some ⟨mb,0,none⟩) 4 (bytesOf sw) 0 W (by decide) (by decide) (by show 4≤9223372036854775807;decide) (bytesOf_bytes sw) (fun _=>⟨mb,0,rfl,h2.lt,fun i v hi=>by
   rw [Nat.zero_add,h2.cell]
   match i with
   |0=>cases hi;rfl
   |1=>cases hi;rfl
   |2=>cases hi;rfl
   |3=>cases hi;rfl
   |i+4=>cases hi⟩)
 generalize fetchC C=X at *
 have HXF:=Lib.hid hXF
 have hq0:=hI.seq0
 have HLEN:=Lib.hid h.rows.uops.len
 clear h hXF hSS hSn hp hfr hI hf hst
 rcases so with _ | _
 ·rw [if_neg (by decide)] at hsn
  cases hsn
  clear CF0 hc
  go_enter Try.func17,Try.ntmps17
  go_upto_region 3 with(fail)
  go_simp
  refine wp_region_ob 511735 4360 516095 [0,1,2,3,4,5,6,7,8,9,10,11,12,13,14,15,16,17,18] (by kernel_rfl) (by kernel_rfl) (by kernel_rfl) rfl ?_
  repeat'(first
   |refine oQ rfl rfl ?_
   |(refine' oE _ (by decide) (by decide) (fun wq K hK=>?_) ?_ ?_;rotate_left 1;(· go_wp2_with(fail);all_goals exact hK);rfl)
   |(refine' oR _ (by decide) (by decide) (by decide) (fun wq hwq K hK=>?_) ?_ ?_;rotate_left 1;(· have k334:=hwq.at_ zg c334;have k0:=hwq.at_ zg c0;have k337:=hwq.at_ zg c337;go_wp2_with(fail);all_goals exact hK);rfl)
   |((first | refine oT rfl rfl rfl rfl ?_ ?_ | refine oF rfl rfl rfl rfl ?_ ?_)<;>intro hc<;>first | (cases hc;done) | ((try cases hc);simp only [Act.put,sA,sS,sZ]))
   |refine oU rfl rfl rfl rfl ?_)
  refine wpOW_solo (by decide) (by decide) (by decide) (by kernel_rfl) (fun w1 hw1 K1 hK1=>?_)
  have hb1:Below w.heap.size w w1:=by rw [hw1];exact(Below.refl _ _).drew
  clear hw1
  go_wp2_with(go_at_call 36;(with_reducible refine(CP0.out w1 hb1).mono ?_);intro e w2 hpost;obtain⟨hb2,v2,rfl,ho2⟩:=hpost;obtain⟨A2,c2,rfl⟩:=own_value (show w2.ownsRow w1.heap.size 105 2 v2 sl.length (slotsV sl) from ho2))
  refine hK1 _ _ (fun _=>True) trivial ?_
  simp only [Act.put,sA,sS,sZ]
  clear hK1 K1
  repeat'(first
   |refine oQ rfl rfl ?_
   |(refine' oE _ (by decide) (by decide) (fun wq K hK=>?_) ?_ ?_;rotate_left 1;(· go_wp2_with(fail);all_goals exact hK);rfl)
   |((first | refine oT rfl rfl rfl rfl ?_ ?_ | refine oF rfl rfl rfl rfl ?_ ?_)<;>intro hc<;>first | (cases hc;done) | ((try cases hc);simp only [Act.put,sA,sS,sZ]))
   |refine oU rfl rfl rfl rfl ?_)
  refine wpO_nil ?_
  rintro w3 hw3
  replace ho2:w2.ownsRow w1.heap.size 105 2 (.slice A2 sl.length c2) sl.length (slotsV sl):=ho2
  replace hb2:=hb1.trans (hb2.mono hb1.size)
  rw [←hw3] at hb2 ho2
  have ho3:w3.ownsRow B 105 2 (.slice A2 sl.length c2) sl.length (slotsV sl):=own_lower ho2 (Nat.le_trans HLOW.out hb1.size)
  clear hw3 ho2 hb1 c339 c141 c334 c0 c337 zg CP0
  have HI3:=Lib.hid (HI.out.ext hb2)
  have k337:w3.cell? ⟨g,337,none⟩=some (.int .i64 C.seq):=HI3.out.cell HI3.out.cells.seq
  have k338:w3.cell? ⟨g,338,none⟩=some (.int .u32 C.pc):=HI3.out.cell HI3.out.cells.pc
  have zg3:=HI3.out.lt
  go_upto_region 6 with(fail)
  go_simp
  refine wp_region_ob 1143 392 1535 [0,1,2,3,4,5,6,7,8,9,10] (by kernel_rfl) (by kernel_rfl) (by kernel_rfl) rfl ?_
  repeat'(first
   |refine oQ rfl rfl ?_
   |(refine' oE _ (by decide) (by decide) (fun wq K hK=>?_) ?_ ?_;rotate_left 1;(· go_wp2_with(fail);all_goals exact hK);rfl)
   |(refine' oR _ (by decide) (by decide) (by decide) (fun wq hwq K hK=>?_) ?_ ?_;rotate_left 1;(· have q337:=hwq.at_ zg3 k337;have q338:=hwq.at_ zg3 k338;first | ((refine wp_build_at 70 _ rfl [(0, .int .i64 C.seq),(3, .int .u32 C.pc)] rfl _ (uopZ_cells C.seq C.pc) ?_;exact hK)) | (go_wp2_with(fail);all_goals exact hK));rfl)
   |((first | refine oT rfl rfl rfl rfl ?_ ?_ | refine oF rfl rfl rfl rfl ?_ ?_)<;>intro hc<;>first | (cases hc;done) | ((try cases hc);simp only [Act.put,sA,sS,sZ]))
   |refine oU rfl rfl rfl rfl ?_)
  refine wpOW_solo (by decide) (by decide) (by decide) (by kernel_rfl) (fun w4 hw4 K1 hK1=>?_)
  have hb4:Below w3.heap.size w3 w4:=by rw [hw4];exact(Below.refl _ _).drew
  clear hw4
  go_wp2_with(fail)
  have hB5:=Blk.new w4 70 (Uop.cells { uopZ with seq:=C.seq,pc:=C.pc })
  have hb5:=hb4.alloc hb4.size (.cells (Uop.cells { uopZ with seq:=C.seq,pc:=C.pc }) 70)
  have hpl:=hb4.size
  refine hK1 _ _ (fun _=>True) trivial ?_
  simp only [Act.put,sA,sS,sZ]
  clear hK1 K1
  repeat'(first
   |refine oQ rfl rfl ?_
   |(refine' oE _ (by decide) (by decide) (fun wq K hK=>?_) ?_ ?_;rotate_left 1;(· go_wp2_with(fail);all_goals exact hK);rfl)
   |((first | refine oT rfl rfl rfl rfl ?_ ?_ | refine oF rfl rfl rfl rfl ?_ ?_)<;>intro hc<;>first | (cases hc;done) | ((try cases hc);simp only [Act.put,sA,sS,sZ]))
   |refine oU rfl rfl rfl rfl ?_)
  refine wpO_nil ?_
  rintro w5 hw5
  replace hB5:Blk w5 w4.heap.size 70 (Uop.cells { uopZ with seq:=C.seq,pc:=C.pc }):=by rw [hw5];exact hB5
  replace hb5:Below w3.heap.size w3 w5:=by rw [hw5];exact hb5
  clear hw5 hb4 k337 k338 zg3
  generalize w4.heap.size=p at *
  have HP5:=Lib.hid hB5
  have HO5:=Lib.hid (own_keep ho3 hb5)
  have HB5:=Lib.hid (hb2.trans (hb5.mono hb2.size))
  have hpw:w.heap.size≤p:=Nat.le_trans hb2.size hpl
  clear hB5 ho3 hb5 hb2 hpl HI3
  have hI5:=HI.out.ext HB5.out
  obtain⟨AA,cA,hav,hAS,_,_,_⟩:=accs_slice hI5.rows.access
  obtain⟨MA,cM,hMv,hMl,hMn,hMI,_,_⟩:=own_ints hI5.rows.mem
  have c336:w5.cell? ⟨g,336,none⟩=some (.slice AA C.access.length cA):=by rw [←hav];exact hI5.access
  have c39:w5.cell? ⟨g,39,none⟩=some (.slice MA C.mem.length cM):=by rw [←hMv];exact hI5.mem
  have c337:w5.cell? ⟨g,337,none⟩=some (.int .i64 C.seq):=hI5.cell hI5.cells.seq
  have c338:w5.cell? ⟨g,338,none⟩=some (.int .u32 C.pc):=hI5.cell hI5.cells.pc
  have zg5:=hI5.lt
  have CS:=Lib.hid (fun W (hb:Below w5.heap.size w5 W)=>CS0.out AA cA MA cM W ((hAS.below hb).mono hb.size) ((hMI.below hb).mono hb.size))
  clear hI5 hav hAS hMv hMl hMn hMI
  go_upto_region 7 with(fail)
  go_simp
  refine wp_region_ob 33353463 69896 33423359 [0,1,2,3,4,5,6,7,8,9,10,11,12,13,14,15,16,17,18,19,20,21,22,23,24] (by kernel_rfl) (by kernel_rfl) (by kernel_rfl) rfl ?_
  repeat'(first
   |refine oQ rfl rfl ?_
   |(refine' oE _ (by decide) (by decide) (fun wq K hK=>?_) ?_ ?_;rotate_left 1;(· go_wp2_with(fail);all_goals exact hK);rfl)
   |(refine' oR _ (by decide) (by decide) (by decide) (fun wq hwq K hK=>?_) ?_ ?_;rotate_left 1;(· have q336:=hwq.at_ zg5 c336;have q39:=hwq.at_ zg5 c39;have q337:=hwq.at_ zg5 c337;have q338:=hwq.at_ zg5 c338;go_wp2_with(fail);all_goals exact hK);rfl)
   |((first | refine oT rfl rfl rfl rfl ?_ ?_ | refine oF rfl rfl rfl rfl ?_ ?_)<;>intro hc<;>first | (cases hc;done) | ((try cases hc);simp only [Act.put,sA,sS,sZ]))
   |refine oU rfl rfl rfl rfl ?_)
  refine wpOW_solo (by decide) (by decide) (by decide) (by kernel_rfl) (fun w6 hw6 K1 hK1=>?_)
  have hb6:Below w5.heap.size w5 w6:=by rw [hw6];exact(Below.refl _ _).drew
  clear hw6
  go_wp2_with(go_at_call 37;(with_reducible refine(CS.out w6 hb6).mono ?_);rintro e w7 ⟨rfl,hb7⟩)
  refine hK1 _ _ (fun _=>True) trivial ?_
  simp only [Act.put,sA,sS,sZ]
  clear hK1 K1 CS
  repeat'(first
   |refine oQ rfl rfl ?_
   |(refine' oE _ (by decide) (by decide) (fun wq K hK=>?_) ?_ ?_;rotate_left 1;(· go_wp2_with(fail);all_goals exact hK);rfl)
   |((first | refine oT rfl rfl rfl rfl ?_ ?_ | refine oF rfl rfl rfl rfl ?_ ?_)<;>intro hc<;>first | (cases hc;done) | ((try cases hc);simp only [Act.put,sA,sS,sZ]))
   |refine oU rfl rfl rfl rfl ?_)
  refine wpO_nil ?_
  rintro w8 hw8
  replace hb7:=hb6.trans (hb7.mono hb6.size)
  rw [←hw8] at hb7
  clear hw8 hb6 c336 c39 c337 c338 zg5
  have hP8:=HP5.out.ext hb7
  have hb8:Below w.heap.size w w8:=HB5.out.trans (hb7.mono HB5.out.size)
  have ho8:=own_keep HO5.out hb7
  have k10:w8.cell? ⟨p,10,none⟩=some (.int .i64 0):=hP8.cell 10
  have f10:=hP8.frozen 10
  have z8:=hP8.lt
  have HJ9:=Lib.hid (show Blk (w8.setCell ⟨p,10,none⟩ (.int .i64 1)) p 70 (Uop.cells { uopZ with seq:=C.seq,pc:=C.pc,cause:=1 })∧Below w.heap.size w (w8.setCell ⟨p,10,none⟩ (.int .i64 1))∧(w8.setCell ⟨p,10,none⟩ (.int .i64 1)).ownsRow B 105 2 (.slice A2 sl.length c2) sl.length (slotsV sl) from
   ⟨hP8.set 10 (.int .i64 1),below_set hpw hb8,ho8.kept (grownBy_setCell w8 ⟨p,10,none⟩ (.int .i64 1)) (own_other ho8 hP8 (by decide))⟩)
  clear hP8 hb8 ho8 hb7 HP5 HB5 HO5
  go_upto_region 9 with(fail)
  go_simp
  clear k10 f10 z8
  generalize w8.setCell ⟨p,10,none⟩ (.int .i64 1)=w9 at *
  have HFR:=Lib.hid (Nat.le_trans HLOW.out hpw)
  go_upto_region 12 with(fail)
  go_simp
  have hI9:=HI.out.ext (HJ9).out.2.1
  obtain⟨fr1,fr2,fr3⟩:=HI.out.fresh hpw
  obtain⟨AP,nP,hvo,hno1,hno2,hno3⟩:=ptr_slice hI9.rows.ptrs
  have c335:w9.cell? ⟨g,335,none⟩=some (.slice AP ps.length nP):=by rw [←hvo];exact hI9.ops
  have hba:=(Below.refl w9.heap.size w9).alloc (Nat.le_refl _) (.cells #[.pointer (some ⟨p,0,none⟩)] 66)
  have hIA:=hI9.ext hba
  have hrowA:PtrRow (w9.alloc (.cells #[.pointer (some ⟨p,0,none⟩)] 66)) B (.slice AP ps.length nP) ps:=by
   have:=hIA.rows.ptrs
   rw [hvo] at this
   exact this
  have hcA:(w9.alloc (.cells #[.pointer (some ⟨p,0,none⟩)] 66)).cell? ⟨w9.heap.size,0,none⟩=some (.pointer (some ⟨p,0,none⟩)):=(Blk.new w9 66 #[.pointer (some ⟨p,0,none⟩)]).cell 0
  have hPA:=(HJ9).out.1.ext hba
  have hOA:=own_keep (HJ9).out.2.2 hba
  have hlen:ps.length≤1000:=by rw [hI9.rows.uops.len];omega
  have HPU:=Lib.hid (fun w' v' (hr:PtrRow w' B v' (ps++[p])) (hg:(w9.alloc (.cells #[.pointer (some ⟨p,0,none⟩)] 66)).grownBy w' (Value.slice AP ps.length nP).ownBlock) (hv:v'.ownBlock=(Value.slice AP ps.length nP).ownBlock∨∀ k,v'.ownBlock=some k→(w9.alloc (.cells #[.pointer (some ⟨p,0,none⟩)] 66)).heap.size≤k)=>
   have hg':(w9.alloc (.cells #[.pointer (some ⟨p,0,none⟩)] 66)).grownBy w' L.ops.ownBlock:=by rw [hvo];exact hg
   have hu':UopsAt w' B C.ops ps:=hIA.rows.uops.kept hg' (fun q hq e=>by
    obtain⟨u,hu,_⟩:=hIA.rows.uops.mem hq
    obtain⟨cur,hk⟩:=ptr_blk hIA.rows.ptrs e.symm
    exact blk_other hu hk (by decide) rfl)
   have hP':Blk w' p 70 _:=hPA.grown hg' (by
    rcases hIA.rows.ptrs.other hPA (by decide) with e | e
    ·rw [e];simp
    ·exact fun e'=>e e'.symm)
   hIA.pushed hg' hr (hu'.snoc hP' fr1 fr2) (by rw [hvo];exact hv) (fun q hq=>by
    rcases List.mem_append.1 hq with hq | hq
    ·exact Or.inl hq
    ·obtain rfl:=List.mem_singleton.1 hq
     exact Or.inr fr3) (hOA.kept hg' (by
    have:=own_ptr hOA hIA.rows.ptrs (by decide)
    exact this)))
  have hlow:=hIA.low
  have HT9:=Lib.hid (Turned.below (B:=B) ((HJ9).out.2.1.trans (hba.mono (HJ9).out.2.1.size)))
  clear hI9 hvo hno1 hno2 hno3 hIA hPA hOA fr1 fr2 fr3
  go_upto_region 13 with(at_builtin;refine wpList_append_ptr rfl (.tmp 107) (.tmp 109) rfl (v := .slice AP ps.length nP) rfl hrowA hlow hlen ⟨w9.heap.size,0,none⟩ 1 p rfl hcA ?_;intro v14 w14 hr14 hg14 hv14;obtain⟨A14,m14,n14,rfl⟩:=ptr_form hr14;obtain⟨hps14,k334,k335,f334,f335,z14⟩:=HPU.out w14 _ hr14 hg14 hv14;have HJ14:=Lib.hid (And.intro hps14.1 (HT9.out.trans hps14.2));clear hps14 hr14 hg14 hv14)
  go_simp
  clear k334 k335 f334 f335 z14 hrowA hcA hlen hlow hba c335 HPU HT9
  generalize (w14.setCell ⟨g,334,none⟩ (.slice A2 sl.length c2)).setCell ⟨g,335,none⟩ (.slice A14 m14 n14)=w15 at *
  have h15:=HJ14.out.1
  have k337:=h15.cell h15.cells.seq
  have k41:=h15.cell h15.cells.taken
  have f337:=h15.blk.frozen 337
  have f41:=h15.blk.frozen 41
  have z15:=h15.lt
  have h16:=h15.set 337 (.int .i64 (C.seq+1)) (h15.cells.set_seq (C.seq+1)) h15.rows
  have h17:=h16.set 41 (.int .i64 (C.taken+1)) (h16.cells.set_taken (C.taken+1)) h16.rows
  have HJ17:=Lib.hid (And.intro h17 ((HJ14.out.2.trans (h15.turned (grownBy_setCell w15 ⟨g,337,none⟩ (.int .i64 (C.seq+1))))).trans (h16.turned (grownBy_setCell _ ⟨g,41,none⟩ (.int .i64 (C.taken+1))))))
  clear h15 h16 h17 HJ14
  go_upto_region 15 with(fail)
  go_simp
  clear k337 k41 f337 f41 z15
  generalize (w15.setCell ⟨g,337,none⟩ (.int .i64 (C.seq+1))).setCell ⟨g,41,none⟩ (.int .i64 (C.taken+1))=w17 at *
  obtain⟨LQ,csQ,hQ⟩:∃ L' cs',CoreIs B w17 g { C with slots:=sl,ops:=C.ops++[{ uopZ with seq:=C.seq,pc:=C.pc,cause:=1,ins:=insN }],seq:=C.seq+1,taken:=C.taken+1 } L' (ps++[p]) cs':=⟨_,_,HJ17.out.1⟩
  have HTQ:=Lib.hid HJ17.out.2
  have hkp:(ps++[p])[C.ops.length]? = some p:=by rw [←HLEN.out];simp
  have hkq:(C.ops++[({ uopZ with seq:=C.seq,pc:=C.pc,cause:=1,ins:=insN }:Uop)])[C.ops.length]? = some { uopZ with seq:=C.seq,pc:=C.pc,cause:=1,ins:=insN }:=by simp
  have huQ:=(hQ.rows.uops.at_ C.ops.length _ p hkq hkp).1
  have HQ:=Lib.hid hQ
  have HUQ:=Lib.hid huQ
  have HKP:=Lib.hid hkp
  have c10:w17.cell? ⟨p,10,none⟩=some (.int .i64 1):=huQ.cell 10
  have c3:w17.cell? ⟨p,3,none⟩=some (.int .u32 C.pc):=huQ.cell 3
  have zQ:=huQ.lt
  clear hQ HJ17 hkp hkq huQ
  go_upto_region 16 with(fail)
  go_simp
  refine wp_region_ob 52975 12560 65535 [0,1,2,3,4,5,6,7,8,9,10,11,12,13,14,15,16] (by kernel_rfl) (by kernel_rfl) (by kernel_rfl) rfl ?_
  repeat'(first
   |refine oQ rfl rfl ?_
   |(refine' oE _ (by decide) (by decide) (fun wq K hK=>?_) ?_ ?_;rotate_left 1;(· go_wp2_with(fail);all_goals exact hK);rfl)
   |(refine' oR _ (by decide) (by decide) (by decide) (fun wq hwq K hK=>?_) ?_ ?_;rotate_left 1;(· have k3:=hwq.at_ zQ c3;have k10:=hwq.at_ zQ c10;first | ((refine wp_build_at 65 _ rfl [(0, .int .u32 C.pc),(1, .int .u32 C.pc),(2, .int .i64 2),(3, .int .i64 1)] rfl _ (built_trapF C.pc 1) ?_;exact hK)) | (go_wp2_with(fail);all_goals exact hK));rfl)
   |((first | refine oT rfl rfl rfl rfl ?_ ?_ | refine oF rfl rfl rfl rfl ?_ ?_)<;>intro hc<;>first | (cases hc;done) | ((try cases hc);simp only [Act.put,sA,sS,sZ]))
   |refine oU rfl rfl rfl rfl ?_)
  refine wpOW_solo (by decide) (by decide) (by decide) (by kernel_rfl) (fun w18 hw18 K1 hK1=>?_)
  have hb18:Below w17.heap.size w17 w18:=by rw [hw18];exact(Below.refl _ _).drew
  clear hw18
  have hP18:=HUQ.out.ext hb18
  refine wp_store_blk 65 _ _ rfl p 16 (trapC C.pc 1).cells rfl rfl 70 _ hP18 (ucom_infoc _) (show 16+11≤27 by decide) (cells_one _) ?_
  intro w19 hB19 hg19
  refine hK1 undef _ (fun _=>True) trivial ?_
  simp only [Act.put,sA,sS,sZ]
  clear hK1 K1
  refine wpO_nil ?_
  rintro w20 hw20
  rw [←hw20] at hB19 hg19
  clear hw20
  have h20:=(HQ.out.ext hb18).uopall HKP.out hP18 hg19 (u':={ uopZ with seq:=C.seq,pc:=C.pc,cause:=1,ins:=insN,commit:=trapC C.pc 1 }) hB19
  have e20:(C.ops++[({ uopZ with seq:=C.seq,pc:=C.pc,cause:=1,ins:=insN }:Uop)]).set C.ops.length { uopZ with seq:=C.seq,pc:=C.pc,cause:=1,ins:=insN,commit:=trapC C.pc 1 }=C.ops++[{ uopZ with seq:=C.seq,pc:=C.pc,cause:=1,ins:=insN,commit:=trapC C.pc 1 }]:=set_at
  have h20':CoreIs B w20 g { C with slots:=sl,ops:=C.ops++[{ uopZ with seq:=C.seq,pc:=C.pc,cause:=1,ins:=insN,commit:=trapC C.pc 1 }],seq:=C.seq+1,taken:=C.taken+1 } LQ (ps++[p]) csQ:=by
   rw [←e20]
   exact h20
  have k339:=h20'.cell h20'.cells.still
  have f339:=h20'.blk.frozen 339
  have z20:=h20'.lt
  have h21:=h20'.set 339 (.bool true) (h20'.cells.set_still true) h20'.rows
  have HT21:=Lib.hid (((HTQ.out.trans (Turned.below (B:=B) hb18)).trans (turned_uop hP18 HFR.out hg19)).trans (h20'.turned (grownBy_setCell w20 ⟨g,339,none⟩ (.bool true))))
  have CFN:=Lib.hid (finish_any h21 HKP.out (by show sl.length≤1000;rw [HSL2.out];omega))
  clear h20 e20 h20' h21 hb18 hP18 hB19 hg19 c10 c3 zQ HQ HUQ
  go_wp2_with(go_at_call 30;(with_reducible refine CFN.out.mono ?_);rintro e w22 ⟨rfl,ht22,L22,cs22,h22⟩;have HJ22:=Lib.hid (And.intro h22 (HT21.out.trans ht22));clear h22 ht22)
  have hxf:=HXF.out
  clear HXF
  subst hxf
  go_ret
  exact⟨rfl,HJ22.out.2,L22,_,cs22,HJ22.out.1⟩
 ·rw [if_pos rfl] at hsn
  rw [hsn] at CF0
  dsimp only at CF0
  replace CF0:=Lib.hid CF0
  have ec:(c != 0)=true:=by simpa using hc
  clear hsn hc
  go_enter Try.func17,Try.ntmps17
  go_upto_region 3 with(fail)
  go_simp
  refine wp_region_ob 511735 4360 516095 [0,1,2,3,4,5,6,7,8,9,10,11,12,13,14,15,16,17,18] (by kernel_rfl) (by kernel_rfl) (by kernel_rfl) rfl ?_
  repeat'(first
   |refine oQ rfl rfl ?_
   |(refine' oE _ (by decide) (by decide) (fun wq K hK=>?_) ?_ ?_;rotate_left 1;(· go_wp2_with(fail);all_goals exact hK);rfl)
   |(refine' oR _ (by decide) (by decide) (by decide) (fun wq hwq K hK=>?_) ?_ ?_;rotate_left 1;(· have k334:=hwq.at_ zg c334;have k0:=hwq.at_ zg c0;have k337:=hwq.at_ zg c337;go_wp2_with(fail);all_goals exact hK);rfl)
   |((first | refine oT rfl rfl rfl rfl ?_ ?_ | refine oF rfl rfl rfl rfl ?_ ?_)<;>intro hc<;>first | (cases hc;done) | ((try cases hc);simp only [Act.put,sA,sS,sZ]))
   |refine oU rfl rfl rfl rfl ?_)
  refine wpOW_solo (by decide) (by decide) (by decide) (by kernel_rfl) (fun w1 hw1 K1 hK1=>?_)
  have hb1:Below w.heap.size w w1:=by rw [hw1];exact(Below.refl _ _).drew
  clear hw1
  go_wp2_with(go_at_call 36;(with_reducible refine(CP0.out w1 hb1).mono ?_);intro e w2 hpost;obtain⟨hb2,v2,rfl,ho2⟩:=hpost;obtain⟨A2,c2,rfl⟩:=own_value (show w2.ownsRow w1.heap.size 105 2 v2 sl.length (slotsV sl) from ho2))
  refine hK1 _ _ (fun _=>True) trivial ?_
  simp only [Act.put,sA,sS,sZ]
  clear hK1 K1
  repeat'(first
   |refine oQ rfl rfl ?_
   |(refine' oE _ (by decide) (by decide) (fun wq K hK=>?_) ?_ ?_;rotate_left 1;(· go_wp2_with(fail);all_goals exact hK);rfl)
   |((first | refine oT rfl rfl rfl rfl ?_ ?_ | refine oF rfl rfl rfl rfl ?_ ?_)<;>intro hc<;>first | (cases hc;done) | ((try cases hc);simp only [Act.put,sA,sS,sZ]))
   |refine oU rfl rfl rfl rfl ?_)
  refine wpO_nil ?_
  rintro w3 hw3
  replace ho2:w2.ownsRow w1.heap.size 105 2 (.slice A2 sl.length c2) sl.length (slotsV sl):=ho2
  replace hb2:=hb1.trans (hb2.mono hb1.size)
  rw [←hw3] at hb2 ho2
  have ho3:w3.ownsRow B 105 2 (.slice A2 sl.length c2) sl.length (slotsV sl):=own_lower ho2 (Nat.le_trans HLOW.out hb1.size)
  clear hw3 ho2 hb1 c339 c141 c334 c0 c337 zg CP0
  have HI3:=Lib.hid (HI.out.ext hb2)
  have k337:w3.cell? ⟨g,337,none⟩=some (.int .i64 C.seq):=HI3.out.cell HI3.out.cells.seq
  have k338:w3.cell? ⟨g,338,none⟩=some (.int .u32 C.pc):=HI3.out.cell HI3.out.cells.pc
  have zg3:=HI3.out.lt
  go_upto_region 6 with(fail)
  go_simp
  refine wp_region_ob 1143 392 1535 [0,1,2,3,4,5,6,7,8,9,10] (by kernel_rfl) (by kernel_rfl) (by kernel_rfl) rfl ?_
  repeat'(first
   |refine oQ rfl rfl ?_
   |(refine' oE _ (by decide) (by decide) (fun wq K hK=>?_) ?_ ?_;rotate_left 1;(· go_wp2_with(fail);all_goals exact hK);rfl)
   |(refine' oR _ (by decide) (by decide) (by decide) (fun wq hwq K hK=>?_) ?_ ?_;rotate_left 1;(· have q337:=hwq.at_ zg3 k337;have q338:=hwq.at_ zg3 k338;first | ((refine wp_build_at 70 _ rfl [(0, .int .i64 C.seq),(3, .int .u32 C.pc)] rfl _ (uopZ_cells C.seq C.pc) ?_;exact hK)) | (go_wp2_with(fail);all_goals exact hK));rfl)
   |((first | refine oT rfl rfl rfl rfl ?_ ?_ | refine oF rfl rfl rfl rfl ?_ ?_)<;>intro hc<;>first | (cases hc;done) | ((try cases hc);simp only [Act.put,sA,sS,sZ]))
   |refine oU rfl rfl rfl rfl ?_)
  refine wpOW_solo (by decide) (by decide) (by decide) (by kernel_rfl) (fun w4 hw4 K1 hK1=>?_)
  have hb4:Below w3.heap.size w3 w4:=by rw [hw4];exact(Below.refl _ _).drew
  clear hw4
  go_wp2_with(fail)
  have hB5:=Blk.new w4 70 (Uop.cells { uopZ with seq:=C.seq,pc:=C.pc })
  have hb5:=hb4.alloc hb4.size (.cells (Uop.cells { uopZ with seq:=C.seq,pc:=C.pc }) 70)
  have hpl:=hb4.size
  refine hK1 _ _ (fun _=>True) trivial ?_
  simp only [Act.put,sA,sS,sZ]
  clear hK1 K1
  repeat'(first
   |refine oQ rfl rfl ?_
   |(refine' oE _ (by decide) (by decide) (fun wq K hK=>?_) ?_ ?_;rotate_left 1;(· go_wp2_with(fail);all_goals exact hK);rfl)
   |((first | refine oT rfl rfl rfl rfl ?_ ?_ | refine oF rfl rfl rfl rfl ?_ ?_)<;>intro hc<;>first | (cases hc;done) | ((try cases hc);simp only [Act.put,sA,sS,sZ]))
   |refine oU rfl rfl rfl rfl ?_)
  refine wpO_nil ?_
  rintro w5 hw5
  replace hB5:Blk w5 w4.heap.size 70 (Uop.cells { uopZ with seq:=C.seq,pc:=C.pc }):=by rw [hw5];exact hB5
  replace hb5:Below w3.heap.size w3 w5:=by rw [hw5];exact hb5
  clear hw5 hb4 k337 k338 zg3
  generalize w4.heap.size=p at *
  have HP5:=Lib.hid hB5
  have HO5:=Lib.hid (own_keep ho3 hb5)
  have HB5:=Lib.hid (hb2.trans (hb5.mono hb2.size))
  have hpw:w.heap.size≤p:=Nat.le_trans hb2.size hpl
  clear hB5 ho3 hb5 hb2 hpl HI3
  have hI5:=HI.out.ext HB5.out
  obtain⟨AA,cA,hav,hAS,_,_,_⟩:=accs_slice hI5.rows.access
  obtain⟨MA,cM,hMv,hMl,hMn,hMI,_,_⟩:=own_ints hI5.rows.mem
  have c336:w5.cell? ⟨g,336,none⟩=some (.slice AA C.access.length cA):=by rw [←hav];exact hI5.access
  have c39:w5.cell? ⟨g,39,none⟩=some (.slice MA C.mem.length cM):=by rw [←hMv];exact hI5.mem
  have c337:w5.cell? ⟨g,337,none⟩=some (.int .i64 C.seq):=hI5.cell hI5.cells.seq
  have c338:w5.cell? ⟨g,338,none⟩=some (.int .u32 C.pc):=hI5.cell hI5.cells.pc
  have zg5:=hI5.lt
  have CS:=Lib.hid (fun W (hb:Below w5.heap.size w5 W)=>CS0.out AA cA MA cM W ((hAS.below hb).mono hb.size) ((hMI.below hb).mono hb.size))
  clear hI5 hav hAS hMv hMl hMn hMI
  go_upto_region 7 with(fail)
  go_simp
  refine wp_region_ob 33353463 69896 33423359 [0,1,2,3,4,5,6,7,8,9,10,11,12,13,14,15,16,17,18,19,20,21,22,23,24] (by kernel_rfl) (by kernel_rfl) (by kernel_rfl) rfl ?_
  repeat'(first
   |refine oQ rfl rfl ?_
   |(refine' oE _ (by decide) (by decide) (fun wq K hK=>?_) ?_ ?_;rotate_left 1;(· go_wp2_with(fail);all_goals exact hK);rfl)
   |(refine' oR _ (by decide) (by decide) (by decide) (fun wq hwq K hK=>?_) ?_ ?_;rotate_left 1;(· have q336:=hwq.at_ zg5 c336;have q39:=hwq.at_ zg5 c39;have q337:=hwq.at_ zg5 c337;have q338:=hwq.at_ zg5 c338;go_wp2_with(fail);all_goals exact hK);rfl)
   |((first | refine oT rfl rfl rfl rfl ?_ ?_ | refine oF rfl rfl rfl rfl ?_ ?_)<;>intro hc<;>first | (cases hc;done) | ((try cases hc);simp only [Act.put,sA,sS,sZ]))
   |refine oU rfl rfl rfl rfl ?_)
  refine wpOW_solo (by decide) (by decide) (by decide) (by kernel_rfl) (fun w6 hw6 K1 hK1=>?_)
  have hb6:Below w5.heap.size w5 w6:=by rw [hw6];exact(Below.refl _ _).drew
  clear hw6
  go_wp2_with(go_at_call 37;(with_reducible refine(CS.out w6 hb6).mono ?_);rintro e w7 ⟨rfl,hb7⟩)
  refine hK1 _ _ (fun _=>True) trivial ?_
  simp only [Act.put,sA,sS,sZ]
  clear hK1 K1 CS
  repeat'(first
   |refine oQ rfl rfl ?_
   |(refine' oE _ (by decide) (by decide) (fun wq K hK=>?_) ?_ ?_;rotate_left 1;(· go_wp2_with(fail);all_goals exact hK);rfl)
   |((first | refine oT rfl rfl rfl rfl ?_ ?_ | refine oF rfl rfl rfl rfl ?_ ?_)<;>intro hc<;>first | (cases hc;done) | ((try cases hc);simp only [Act.put,sA,sS,sZ]))
   |refine oU rfl rfl rfl rfl ?_)
  refine wpO_nil ?_
  rintro w8 hw8
  replace hb7:=hb6.trans (hb7.mono hb6.size)
  rw [←hw8] at hb7
  clear hw8 hb6 c336 c39 c337 c338 zg5
  have hP8:=HP5.out.ext hb7
  have hb8:Below w.heap.size w w8:=HB5.out.trans (hb7.mono HB5.out.size)
  have ho8:=own_keep HO5.out hb7
  have k10:w8.cell? ⟨p,10,none⟩=some (.int .i64 0):=hP8.cell 10
  have f10:=hP8.frozen 10
  have z8:=hP8.lt
  have HJ9:=Lib.hid (show Blk (w8.setCell ⟨p,10,none⟩ (.int .i64 1)) p 70 (Uop.cells { uopZ with seq:=C.seq,pc:=C.pc,cause:=1 })∧Below w.heap.size w (w8.setCell ⟨p,10,none⟩ (.int .i64 1))∧(w8.setCell ⟨p,10,none⟩ (.int .i64 1)).ownsRow B 105 2 (.slice A2 sl.length c2) sl.length (slotsV sl) from
   ⟨hP8.set 10 (.int .i64 1),below_set hpw hb8,ho8.kept (grownBy_setCell w8 ⟨p,10,none⟩ (.int .i64 1)) (own_other ho8 hP8 (by decide))⟩)
  clear hP8 hb8 ho8 hb7 HP5 HB5 HO5
  go_upto_region 9 with(fail)
  go_simp
  clear k10 f10 z8
  generalize w8.setCell ⟨p,10,none⟩ (.int .i64 1)=w9 at *
  have HFR:=Lib.hid (Nat.le_trans HLOW.out hpw)
  go_upto_region 11 with(first
   |(refine wpList_build_to rfl 98 _ rfl [(0, .int .u8 _),(1, .int .u8 _),(2, .int .u8 _),(3, .int .u8 _)] rfl _ (built_m4 _ _ _ _) ?_)
   |(refine wpList_store_all rfl 98 _ _ rfl w9.heap.size _ rfl rfl 98 _ (Blk.new w9 _ _) m4_info rfl m4_one ?_;intro w10 hB10 hg10))
  go_simp
  have hb10:Below w9.heap.size w9 w10:=below_grown ((Below.refl _ _).alloc (Nat.le_refl _) _) hg10 (by simp) (Nat.le_refl _)
  have hP10:=HJ9.out.1.ext hb10
  clear hg10
  go_upto_region 12 with(first
   |(go_at_call 38;(with_reducible refine(CF0.out w9.heap.size w10 hB10).mono ?_);rintro e w11 ⟨rfl,hb11⟩;have hP11:=hP10.ext hb11)
   |(refine wpList_store_blk rfl 68 _ _ rfl p 5 i.cells rfl rfl 70 _ hP11 (insx_info _) (show 5+5≤27 by decide) (insx_one _) ?_;intro w12 hB12 hg12;have k10:w12.cell? ⟨p,10,none⟩=some (.int .i64 1):=hB12.cell 10;have f10:=hB12.frozen 10;have z12:=hB12.lt))
  go_simp
  have hbx:Below w.heap.size w w11:=(HJ9.out.2.1.trans (hb10.mono HJ9.out.2.1.size)).trans (hb11.mono (Nat.le_trans HJ9.out.2.1.size hb10.size))
  have hox:=own_keep (own_keep HJ9.out.2.2 hb10) hb11
  have hoy:=hox.kept hg12 (own_other hox hP11 (by decide))
  have HJ13:=Lib.hid (show Blk (w12.setCell ⟨p,10,none⟩ (.int .i64 c)) p 70 (Uop.cells { uopZ with seq:=C.seq,pc:=C.pc,cause:=c,ins:=i })∧Below w.heap.size w (w12.setCell ⟨p,10,none⟩ (.int .i64 c))∧(w12.setCell ⟨p,10,none⟩ (.int .i64 c)).ownsRow B 105 2 (.slice A2 sl.length c2) sl.length (slotsV sl) from
   ⟨(show Blk w12 p 70 (Uop.cells { uopZ with seq:=C.seq,pc:=C.pc,cause:=1,ins:=i }) from hB12).set 10 (.int .i64 c),below_set hpw (below_grown hbx hg12 hbx.size hpw),hoy.kept (grownBy_setCell w12 ⟨p,10,none⟩ (.int .i64 c)) (own_other hoy hB12 (by decide))⟩)
  clear k10 f10 z12 hbx hox hoy hB12 hg12 hP11 hP10 hb11 hb10 hB10 HJ9
  generalize w12.setCell ⟨p,10,none⟩ (.int .i64 c)=w13 at *
  have hI9:=HI.out.ext (HJ13).out.2.1
  obtain⟨fr1,fr2,fr3⟩:=HI.out.fresh hpw
  obtain⟨AP,nP,hvo,hno1,hno2,hno3⟩:=ptr_slice hI9.rows.ptrs
  have c335:w13.cell? ⟨g,335,none⟩=some (.slice AP ps.length nP):=by rw [←hvo];exact hI9.ops
  have hba:=(Below.refl w13.heap.size w13).alloc (Nat.le_refl _) (.cells #[.pointer (some ⟨p,0,none⟩)] 66)
  have hIA:=hI9.ext hba
  have hrowA:PtrRow (w13.alloc (.cells #[.pointer (some ⟨p,0,none⟩)] 66)) B (.slice AP ps.length nP) ps:=by
   have:=hIA.rows.ptrs
   rw [hvo] at this
   exact this
  have hcA:(w13.alloc (.cells #[.pointer (some ⟨p,0,none⟩)] 66)).cell? ⟨w13.heap.size,0,none⟩=some (.pointer (some ⟨p,0,none⟩)):=(Blk.new w13 66 #[.pointer (some ⟨p,0,none⟩)]).cell 0
  have hPA:=(HJ13).out.1.ext hba
  have hOA:=own_keep (HJ13).out.2.2 hba
  have hlen:ps.length≤1000:=by rw [hI9.rows.uops.len];omega
  have HPU:=Lib.hid (fun w' v' (hr:PtrRow w' B v' (ps++[p])) (hg:(w13.alloc (.cells #[.pointer (some ⟨p,0,none⟩)] 66)).grownBy w' (Value.slice AP ps.length nP).ownBlock) (hv:v'.ownBlock=(Value.slice AP ps.length nP).ownBlock∨∀ k,v'.ownBlock=some k→(w13.alloc (.cells #[.pointer (some ⟨p,0,none⟩)] 66)).heap.size≤k)=>
   have hg':(w13.alloc (.cells #[.pointer (some ⟨p,0,none⟩)] 66)).grownBy w' L.ops.ownBlock:=by rw [hvo];exact hg
   have hu':UopsAt w' B C.ops ps:=hIA.rows.uops.kept hg' (fun q hq e=>by
    obtain⟨u,hu,_⟩:=hIA.rows.uops.mem hq
    obtain⟨cur,hk⟩:=ptr_blk hIA.rows.ptrs e.symm
    exact blk_other hu hk (by decide) rfl)
   have hP':Blk w' p 70 _:=hPA.grown hg' (by
    rcases hIA.rows.ptrs.other hPA (by decide) with e | e
    ·rw [e];simp
    ·exact fun e'=>e e'.symm)
   hIA.pushed hg' hr (hu'.snoc hP' fr1 fr2) (by rw [hvo];exact hv) (fun q hq=>by
    rcases List.mem_append.1 hq with hq | hq
    ·exact Or.inl hq
    ·obtain rfl:=List.mem_singleton.1 hq
     exact Or.inr fr3) (hOA.kept hg' (by
    have:=own_ptr hOA hIA.rows.ptrs (by decide)
    exact this)))
  have hlow:=hIA.low
  have HT9:=Lib.hid (Turned.below (B:=B) ((HJ13).out.2.1.trans (hba.mono (HJ13).out.2.1.size)))
  clear hI9 hvo hno1 hno2 hno3 hIA hPA hOA fr1 fr2 fr3
  go_upto_region 13 with(at_builtin;refine wpList_append_ptr rfl (.tmp 107) (.tmp 109) rfl (v := .slice AP ps.length nP) rfl hrowA hlow hlen ⟨w13.heap.size,0,none⟩ 1 p rfl hcA ?_;intro v14 w14 hr14 hg14 hv14;obtain⟨A14,m14,n14,rfl⟩:=ptr_form hr14;obtain⟨hps14,k334,k335,f334,f335,z14⟩:=HPU.out w14 _ hr14 hg14 hv14;have HJ14:=Lib.hid (And.intro hps14.1 (HT9.out.trans hps14.2));clear hps14 hr14 hg14 hv14)
  go_simp
  clear k334 k335 f334 f335 z14 hrowA hcA hlen hlow hba c335 HPU HT9
  generalize (w14.setCell ⟨g,334,none⟩ (.slice A2 sl.length c2)).setCell ⟨g,335,none⟩ (.slice A14 m14 n14)=w15 at *
  have h15:=HJ14.out.1
  have k337:=h15.cell h15.cells.seq
  have k41:=h15.cell h15.cells.taken
  have f337:=h15.blk.frozen 337
  have f41:=h15.blk.frozen 41
  have z15:=h15.lt
  have h16:=h15.set 337 (.int .i64 (C.seq+1)) (h15.cells.set_seq (C.seq+1)) h15.rows
  have h17:=h16.set 41 (.int .i64 (C.taken+1)) (h16.cells.set_taken (C.taken+1)) h16.rows
  have HJ17:=Lib.hid (And.intro h17 ((HJ14.out.2.trans (h15.turned (grownBy_setCell w15 ⟨g,337,none⟩ (.int .i64 (C.seq+1))))).trans (h16.turned (grownBy_setCell _ ⟨g,41,none⟩ (.int .i64 (C.taken+1))))))
  clear h15 h16 h17 HJ14
  go_upto_region 15 with(fail)
  go_simp
  clear k337 k41 f337 f41 z15
  generalize (w15.setCell ⟨g,337,none⟩ (.int .i64 (C.seq+1))).setCell ⟨g,41,none⟩ (.int .i64 (C.taken+1))=w17 at *
  obtain⟨LQ,csQ,hQ⟩:∃ L' cs',CoreIs B w17 g { C with slots:=sl,ops:=C.ops++[{ uopZ with seq:=C.seq,pc:=C.pc,cause:=c,ins:=i }],seq:=C.seq+1,taken:=C.taken+1 } L' (ps++[p]) cs':=⟨_,_,HJ17.out.1⟩
  have HTQ:=Lib.hid HJ17.out.2
  have hkp:(ps++[p])[C.ops.length]? = some p:=by rw [←HLEN.out];simp
  have hkq:(C.ops++[({ uopZ with seq:=C.seq,pc:=C.pc,cause:=c,ins:=i }:Uop)])[C.ops.length]? = some { uopZ with seq:=C.seq,pc:=C.pc,cause:=c,ins:=i }:=by simp
  have huQ:=(hQ.rows.uops.at_ C.ops.length _ p hkq hkp).1
  have HQ:=Lib.hid hQ
  have HUQ:=Lib.hid huQ
  have HKP:=Lib.hid hkp
  have c10:w17.cell? ⟨p,10,none⟩=some (.int .i64 c):=huQ.cell 10
  have c3:w17.cell? ⟨p,3,none⟩=some (.int .u32 C.pc):=huQ.cell 3
  have zQ:=huQ.lt
  clear hQ HJ17 hkp hkq huQ
  go_upto_region 16 with(fail)
  go_simp
  refine wp_region_ob 52975 12560 65535 [0,1,2,3,4,5,6,7,8,9,10,11,12,13,14,15,16] (by kernel_rfl) (by kernel_rfl) (by kernel_rfl) rfl ?_
  repeat'(first
   |refine oQ rfl rfl ?_
   |(refine' oE _ (by decide) (by decide) (fun wq K hK=>?_) ?_ ?_;rotate_left 1;(· go_wp2_with(fail);all_goals exact hK);rfl)
   |(refine' oR _ (by decide) (by decide) (by decide) (fun wq hwq K hK=>?_) ?_ ?_;rotate_left 1;(· have k3:=hwq.at_ zQ c3;have k10:=hwq.at_ zQ c10;first | ((refine wp_build_at 65 _ rfl [(0, .int .u32 C.pc),(1, .int .u32 C.pc),(2, .int .i64 2),(3, .int .i64 c)] rfl _ (built_trapF C.pc c) ?_;exact hK)) | (go_wp2_with(fail);all_goals exact hK));rfl)
   |((first | refine oT rfl rfl rfl rfl ?_ ?_ | refine oF rfl rfl rfl rfl ?_ ?_)<;>intro hc<;>first | (cases hc;done) | ((try cases hc);simp only [Act.put,sA,sS,sZ]))
   |refine oU rfl rfl rfl rfl ?_)
  refine wpOW_solo (by decide) (by decide) (by decide) (by kernel_rfl) (fun w18 hw18 K1 hK1=>?_)
  have hb18:Below w17.heap.size w17 w18:=by rw [hw18];exact(Below.refl _ _).drew
  clear hw18
  have hP18:=HUQ.out.ext hb18
  refine wp_store_blk 65 _ _ rfl p 16 (trapC C.pc c).cells rfl rfl 70 _ hP18 (ucom_infoc _) (show 16+11≤27 by decide) (cells_one _) ?_
  intro w19 hB19 hg19
  refine hK1 undef _ (fun _=>True) trivial ?_
  simp only [Act.put,sA,sS,sZ]
  clear hK1 K1
  refine wpO_nil ?_
  rintro w20 hw20
  rw [←hw20] at hB19 hg19
  clear hw20
  have h20:=(HQ.out.ext hb18).uopall HKP.out hP18 hg19 (u':={ uopZ with seq:=C.seq,pc:=C.pc,cause:=c,ins:=i,commit:=trapC C.pc c }) hB19
  have e20:(C.ops++[({ uopZ with seq:=C.seq,pc:=C.pc,cause:=c,ins:=i }:Uop)]).set C.ops.length { uopZ with seq:=C.seq,pc:=C.pc,cause:=c,ins:=i,commit:=trapC C.pc c }=C.ops++[{ uopZ with seq:=C.seq,pc:=C.pc,cause:=c,ins:=i,commit:=trapC C.pc c }]:=set_at
  have h20':CoreIs B w20 g { C with slots:=sl,ops:=C.ops++[{ uopZ with seq:=C.seq,pc:=C.pc,cause:=c,ins:=i,commit:=trapC C.pc c }],seq:=C.seq+1,taken:=C.taken+1 } LQ (ps++[p]) csQ:=by
   rw [←e20]
   exact h20
  have k339:=h20'.cell h20'.cells.still
  have f339:=h20'.blk.frozen 339
  have z20:=h20'.lt
  have h21:=h20'.set 339 (.bool true) (h20'.cells.set_still true) h20'.rows
  have HT21:=Lib.hid (((HTQ.out.trans (Turned.below (B:=B) hb18)).trans (turned_uop hP18 HFR.out hg19)).trans (h20'.turned (grownBy_setCell w20 ⟨g,339,none⟩ (.bool true))))
  have CFN:=Lib.hid (finish_any h21 HKP.out (by show sl.length≤1000;rw [HSL2.out];omega))
  clear h20 e20 h20' h21 hb18 hP18 hB19 hg19 c10 c3 zQ HQ HUQ
  go_wp2_with(go_at_call 30;(with_reducible refine CFN.out.mono ?_);rintro e w22 ⟨rfl,ht22,L22,cs22,h22⟩;have HJ22:=Lib.hid (And.intro h22 (HT21.out.trans ht22));clear h22 ht22)
  have hxf:=HXF.out
  clear HXF
  subst hxf
  go_ret
  exact⟨rfl,HJ22.out.2,L22,_,cs22,HJ22.out.1⟩
end
end Go.Proofs.Ytapgojgcmlnbgac
