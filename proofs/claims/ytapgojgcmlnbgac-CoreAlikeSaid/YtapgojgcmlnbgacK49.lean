/- Parts of a proof. -/
import Derived.Test.YtapgojgcmlnbgacK29
import Derived.Test.YtapgojgcmlnbgacK47
import Derived.Test.YtapgojgcmlnbgacK26
import Derived.Test.YtapgojgcmlnbgacK48
set_option linter.unusedSimpArgs false
set_option linter.unusedVariables false
set_option maxRecDepth 100000
set_option maxHeartbeats 16000000
namespace Go.Proofs.Ytapgojgcmlnbgac
open Go Go.RowKit
def RunPost (w:World) (Y:Core) (e:Ending) (w':World):Prop:=
 Below w.heap.size w w'∧∃ vc vm,e = .returned (.tuple #[.agg (shownCells vc Y.hart vm Y.cycles Y.taken Y.backs), .int .i64 0])∧w'.ownsRow w.heap.size 65 11 vc Y.commits.length (comsV Y.commits)∧w'.ownsRow w.heap.size 5 1 vm Y.mem.length (Y.mem.map (.int .u8))
theorem own_far2 {w w':World} {base:Nat} {e:TypeId} {size:Nat} {v:Value} {n:Nat} {xs:List Value} (ho:w.ownsRow base e size v n xs) {g:Nat} (k:w.grownBy w' (some g)) (hg:g<base):w'.ownsRow base e size v n xs:=
 ⟨ho.1,ho.2.imp id fun⟨j,cap,cur,e,l,hh,r⟩=>⟨j,cap,cur,e,l,by
  have hj:j<w.heap.size:=by
   rcases Nat.lt_or_ge j w.heap.size with h' | h'
   ·exact h'
   ·rw [Array.getElem?_eq_none h'] at hh;cases hh
  rw [←hh]
  exact k.block j hj (fun e=>by injection e;omega),r⟩⟩
theorem coreN_rows {B:Nat} {w:World} {g:Nat} (hg:B≤g) (a b c pc:Int) {A:Option Addr} {cap:Nat} {sc:List Int} (h1:sc.length≤cap) (h2:cap≤9223372036854775807) (h3:IntsAt w B .i64 A sc) (h4:A=none→sc=[]∧cap=0) :
  RowsAt B w g (layN (.slice A sc.length cap)) [] (coreN a b c sc pc).commits (coreN a b c sc pc).mem (coreN a b c sc pc).slots (coreN a b c sc pc).access (coreN a b c sc pc).ops (coreN a b c sc pc).names (coreN a b c sc pc).script:=by
 have hz:MapIn w RMap.zero none 0:=⟨by decide,by decide,rfl,by decide,by decide,fun h=>absurd rfl h,fun _=>⟨rfl,rfl⟩,by decide⟩
 exact⟨hg,World.ownsRow_nil _ _ _ _,World.ownsRow_nil _ _ _ _,World.ownsRow_nil _ _ _ _,World.ownsRow_nil _ _ _ _,Or.inl ⟨rfl,rfl⟩,⟨rfl,fun i u p h _=>(by cases h),List.nodup_nil⟩,hz,fun h=>absurd rfl h,⟨A,cap,rfl,h1,h2,h3,h4⟩⟩
theorem shown_one (A:Option Addr) (n c:Nat) (H:Hart) (A2:Option Addr) (n2 c2:Nat) (cy tk bk:Int):(shownCells (.slice A n c) H (.slice A2 n2 c2) cy tk bk).all (·.oneCell')=true:=by
 have h1:=hart_one H
 rw [←Array.all_toList] at h1
 unfold shownCells
 rw [List.all_toArray,List.all_cons,List.all_append,h1]
 rfl
theorem cshown_info:(Try.prog.info? 34).map (·.size)=some 40:=by kernel_rfl
theorem runC_ok (a b c:Int) (h:Hart) (A:Option Addr) (cap:Nat) (m:List Int) (A2:Option Addr) (cap2:Nat) (sc:List Int) (cycles:Int) (w:World) (ask:Asked a b c h m) (hA:IntsAt w w.heap.size .u8 A m) (hnil:A=none→m=[])
  (hS:IntsAt w w.heap.size .i64 A2 sc) (hSn:A2=none→sc=[]∧cap2=0) (hS1:sc.length≤cap2) (hS2:cap2≤9223372036854775807) (hS3:sc.length≤3000) (hSb:∀ x∈sc,x≤9223372036854775807) (hc0:0≤cycles) (hc1:cycles≤6000) :
  Calls Try.prog 6 #[.agg #[.int .i64 a, .int .i64 b, .int .i64 c], .agg h.cells, .slice A m.length cap, .slice A2 sc.length cap2, .int .i64 cycles] w (RunPost w (runCore a b c h m sc cycles.toNat)):=by
 obtain⟨N,rfl⟩:=Int.eq_ofNat_of_zero_le hc0
 rw [Int.toNat_natCast]
 have hh:=ask.hart.len
 have hroom:=ask.room
 have hpc0:=ask.hart.pc0
 have hpc1:=ask.hart.pc1
 have CC:=Lib.hid (fun W=>coremay_any a b c W)
 have CM:=Lib.hid (fun W=>hmay_any h W hh)
 rw [ask.may] at CM
 have hmc:(decide (1≤a)&&decide (a≤32)&&decide (33≤b)&&decide (b≤96)&&decide (1≤c)&&decide (c≤4))=true:=by
  rw [decide_eq_true ask.window.1,decide_eq_true ask.window.2,decide_eq_true ask.phys.1,decide_eq_true ask.phys.2,decide_eq_true ask.wide.1,decide_eq_true ask.wide.2];rfl
 rw [hmc] at CC
 clear hmc
 have f1:decide ((4096:Int)<(m.length:Int))=false:=decide_eq_false (by omega)
 have f2:decide ((3000:Int)<(sc.length:Int))=false:=decide_eq_false (by omega)
 have f3:decide ((N:Int)<0)=false:=decide_eq_false (by omega)
 have f4:decide ((6000:Int)<(N:Int))=false:=decide_eq_false (by omega)
 have CL:=Lib.hid (fun W (hW:IntsAt W W.heap.size .u8 A m)=>cloneBytes_any A m.length cap (m.map (.int .u8)) W (by omega) (by simp) (ints_oneCell _ _) hW.cells (fun e=>by rw [hnil e];rfl))
 obtain⟨Y,hY⟩:∃ Y,runCore a b c h m sc N=Y:=⟨_,rfl⟩
 rw [hY]
 have HY:=Lib.hid hY
 have ASK:=Lib.hid ask
 have HA:=Lib.hid hA
 have HSC:=Lib.hid (And.intro hS (And.intro hSn (And.intro hS1 hS2)))
 have HSB:=Lib.hid hSb
 clear hY ask hA hS hSn hS1 hS2 hSb hc0 hnil
 go_enter Try.func6,Try.ntmps6
 go_upto_region 1 with(fail)
 go_simp
 refine wp_gen fun wa hq=>?_
 have hC:Blk wa w.heap.size 23 #[.int .i64 a, .int .i64 b, .int .i64 c]:=by rw [hq];exact((Blk.new w _ _).alloc _).alloc _
 have hH:Blk wa (w.heap.size+1) 27 h.cells:=by rw [hq];exact(Blk.newAt (w.alloc _) 27 _ (by simp)).alloc _
 have hR:Blk wa (w.heap.size+2) 34 shown0:=by rw [hq];exact Blk.newAt ((w.alloc _).alloc _) 34 _ (by simp)
 have hbl:Below w.heap.size w wa:=by rw [hq];exact(((Below.refl _ _).alloc (Nat.le_refl _) _).alloc (by simp) _).alloc (by simp;omega) _
 clear hq
 go_upto_region 8 with(first
  |(refine wpList_load_all rfl 23 _ rfl w.heap.size rfl 23 _ _ hC Try.underlying23 rfl cfg_info ?_)
  |(go_at_call 9;(with_reducible refine(CC.out _).mono ?_);rintro e w1 ⟨rfl,hb1⟩;replace hbl:=hbl.trans (hb1.mono hbl.size);replace hR:=hR.ext hb1;replace hH:=hH.ext hb1;replace hC:=hC.ext hb1;clear hb1)
  |(refine wpList_wantd2 rfl fun K hK=>?_;refine wp_load_all 27 _ rfl (w.heap.size+1) rfl 27 _ _ hH Try.underlying27 rfl (hart_info hh) ?_;refine hK _ _ ?_;clear hK K)
  |(go_at_call 10;(with_reducible refine(CM.out _).mono ?_);rintro e w2 ⟨rfl,hb2⟩;replace hbl:=hbl.trans (hb2.mono hbl.size);replace hR:=hR.ext hb2;replace hH:=hH.ext hb2;replace hC:=hC.ext hb2;clear hb2;have c32:=(hH.cell 32).trans (Hart.cells_pc hh).1;have zH:=hH.lt)
  |(refine wpList_build_to rfl 60 _ rfl [(0, .agg #[.int .i64 a, .int .i64 b, .int .i64 c]),(2, .slice A2 sc.length cap2),(11, .int .u32 h.pc)] rfl _ (built_core0 a b c A2 sc.length cap2 h.pc) ?_))
 go_simp
 refine wp_gen fun wz hq=>?_
 have e0:(((((Try.zeroCells60.setIfInBounds 0 (.int .i64 a)).setIfInBounds 1 (.int .i64 b)).setIfInBounds 2 (.int .i64 c)).setIfInBounds 43 (.slice A2 sc.length cap2)).setIfInBounds 338 (.int .u32 h.pc))=coreC0 a b c (.slice A2 sc.length cap2) h.pc:=by kernel_rfl
 rw [e0] at hq
 have hG0:Blk wz w2.heap.size 60 (coreC0 a b c (.slice A2 sc.length cap2) h.pc):=by rw [hq];exact Blk.new w2 _ _
 have hbz:Below w2.heap.size w2 wz:=by rw [hq];exact(Below.refl _ _).alloc (Nat.le_refl _) _
 have zR:=hR.lt
 replace hC:=hC.ext hbz
 replace hH:=hH.ext hbz
 replace hR:=hR.ext hbz
 replace hbl:=hbl.trans (hbz.mono hbl.size)
 obtain⟨g,hg⟩:∃ g,g=w2.heap.size:=⟨_,rfl⟩
 rw [←hg] at hG0 zR ⊢
 have HI0:Hid (CoreIs w.heap.size wz g (coreN a b c sc h.pc) (layN (.slice A2 sc.length cap2)) [] (coreC0 a b c (.slice A2 sc.length cap2) h.pc)):=Lib.hid ⟨hbl.size,hG0,coreC0_cells a b c _ sc h.pc,coreN_rows (by omega) a b c h.pc HSC.out.2.2.1 HSC.out.2.2.2 (HSC.out.1.below hbl) HSC.out.2.1⟩
 have zg:=hG0.lt
 clear e0 hq hbz hg hG0 c32 f1 f2 f3 f4 CC CM HSC zH
 have HZ:=Lib.hid (And.intro hC (And.intro hH (And.intro hR hbl)))
 have hA0:=HA.out.below hbl
 have HA0:=Lib.hid (hA0.mono hbl.size)
 clear hC hR hbl hA0 HA
 refine wp_region_ob 3819 4 3823 [0,1,2,3,4,5,6,7,8,9,10,11,12] (by kernel_rfl) (by kernel_rfl) (by kernel_rfl) rfl ?_
 repeat'(first
  |refine oQ rfl rfl ?_
  |(refine' oE _ (by decide) (by decide) (fun wq K hK=>?_) ?_ ?_;rotate_left 1;(· go_wp2_with(fail);all_goals exact hK);rfl)
  |(refine' oR _ (by decide) (by decide) (by decide) (fun wq hwq K hK=>?_) ?_ ?_;rotate_left 1;(· first | ((refine wp_load_all 27 _ rfl (w.heap.size+1) rfl 27 _ _ (hH.ext hwq) Try.underlying27 rfl (hart_info hh) ?_;exact hK)) | (go_wp2_with(fail);all_goals exact hK));rfl)
  |((first | refine oT rfl rfl rfl rfl ?_ ?_ | refine oF rfl rfl rfl rfl ?_ ?_)<;>intro hc<;>first | (cases hc;done) | ((try cases hc);simp only [Act.put,sA,sS,sZ]))
  |refine oU rfl rfl rfl rfl ?_)
 refine wpOW_beside (by decide) (by decide) (by decide) (by kernel_rfl) (fun w3 hw3 K1 hK1=>?_)
 have hb3:Below wz.heap.size wz w3:=by rw [hw3];exact(Below.refl _ _).drew
 clear hw3
 have hA3:=(HA0.out.below hb3).mono hb3.size
 go_wp2_with(go_at_call 11;(with_reducible refine(CL.out _ hA3).mono ?_);rintro e w4 ⟨v,rfl,hM,hb4⟩;obtain⟨A3,cap3,rfl⟩:=own_value hM)
 replace hb4:=hb3.trans (hb4.mono hb3.size)
 have z34:=hb3.size
 replace hM:=Lib.hid (own_mono hM z34)
 refine hK1 _ _ hb4 ?_
 simp only [Act.put,sA,sS,sZ]
 clear hK1 K1 hb3 hA3 z34 CL HA0
 repeat'(first
  |refine oQ rfl rfl ?_
  |(refine' oE _ (by decide) (by decide) (fun wq K hK=>?_) ?_ ?_;rotate_left 1;(· go_wp2_with(fail);all_goals exact hK);rfl)
  |((first | refine oT rfl rfl rfl rfl ?_ ?_ | refine oF rfl rfl rfl rfl ?_ ?_)<;>intro hc<;>first | (cases hc;done) | ((try cases hc);simp only [Act.put,sA,sS,sZ]))
  |refine oU rfl rfl rfl rfl ?_)
 refine wpOW_solo (by decide) (by decide) (by decide) (by kernel_rfl) (fun w5 hw5 K1 hK1=>?_)
 rw [←hw5] at hb4 hM
 clear hw5
 have h5:=HI0.out.ext hb4
 obtain⟨s1,s2,s3⟩:=splice_part (off:=4) (n:=35) h5.cells.size (by decide) (Hart.cells_size hh)
 have S123:=Lib.hid (And.intro s1 (And.intro s2 s3))
 clear s1 s2 s3
 refine wp_store_blk 27 _ _ rfl g 4 h.cells rfl rfl 60 _ h5.blk (hart_info hh) (by rw [Hart.cells_size hh,h5.cells.size];decide) (hart_one h) ?_
 intro w6 hB6 hg6
 refine hK1 undef _ (fun _=>True) trivial ?_
 simp only [Act.put,sA,sS,sZ]
 clear hK1 K1
 have h6:=Lib.hid (CoreIs.mk (Nat.le_trans h5.low hg6.size) hB6 (h5.cells.part_hart h S123.out.1 S123.out.2.1 S123.out.2.2) (h5.rows.core h5.low h5.blk hg6))
 have HJ6:=Lib.hid (And.intro ((Turned.below (B:=w.heap.size) hb4).trans (h5.turned hg6)) (own_mono (own_far2 hM.out hg6 zg) HI0.out.low))
 clear h5 S123 hB6 hg6 hb4 hM HI0
 repeat'(first
  |refine oQ rfl rfl ?_
  |(refine' oE _ (by decide) (by decide) (fun wq K hK=>?_) ?_ ?_;rotate_left 1;(· go_wp2_with(fail);all_goals exact hK);rfl)
  |((first | refine oT rfl rfl rfl rfl ?_ ?_ | refine oF rfl rfl rfl rfl ?_ ?_)<;>intro hc<;>first | (cases hc;done) | ((try cases hc);simp only [Act.put,sA,sS,sZ]))
  |refine oU rfl rfl rfl rfl ?_)
 refine wpOW_solo (by decide) (by decide) (by decide) (by kernel_rfl) (fun w7 hw7 K1 hK1=>?_)
 rw [←hw7] at h6 HJ6
 clear hw7
 have k39:=h6.out.cell h6.out.cells.mem
 have f39:=h6.out.blk.frozen 39
 have z7:=h6.out.lt
 have hrows:=h6.out.rows
 have s7:=h6.out.set 39 (.slice A3 m.length cap3) (h6.out.cells.set_mem (.slice A3 m.length cap3) m) ⟨hrows.base,hrows.commits,HJ6.out.2,hrows.slots,hrows.access,hrows.ptrs,hrows.uops,hrows.names,fun hne=>absurd rfl hne,hrows.script⟩
 have HJ7:=Lib.hid (And.intro s7 (HJ6.out.1.trans (h6.out.turned (grownBy_setCell w7 ⟨g,39,none⟩ (.slice A3 m.length cap3)))))
 clear s7 hrows h6 HJ6
 go_wp2_with(fail)
 refine hK1 undef _ (fun _=>True) trivial ?_
 simp only [Act.put,sA,sS,sZ]
 clear hK1 K1 k39 f39 z7
 refine wpO_nil ?_
 rintro w8 hw8
 rw [←hw8] at HJ7
 clear hw8
 have CN:=Lib.hid (fun W=>new_any b W (by have:=ASK.out.phys.1;omega) (by have:=ASK.out.phys.2;omega))
 rw [if_pos ASK.out.phys] at CN
 have hC8:=HJ7.out.2.blk HZ.out.1 (by decide)
 have c1:w8.cell? ⟨w.heap.size,1,none⟩=some (.int .i64 b):=hC8.cell 1
 have zc:=hC8.lt
 have zg8:=HJ7.out.1.lt
 clear hC8 zg
 generalize hL7:({ layN (.slice A2 sc.length cap2) with mem := .slice A3 m.length cap3 }:Lay)=L7 at *
 clear hL7
 go_upto_region 10 with(first
  |(go_at_call 12;(with_reducible refine(CN.out _).mono ?_);rintro e w9 ⟨v9,rfl,hb9,A9,c9,rfl,hm9,hf9⟩;have i9:=map_info (phys:=(newD b).phys) (A:=A9) (n:=(newD b).free.length) (cap:=c9) hm9.len;have o9:=map_one (newD b).phys (newD b).regs A9 (newD b).free.length c9;have z9:=mapCells_size (newD b).phys (newD b).regs A9 (newD b).free.length c9 hm9.len;have HN9:=Lib.hid (fun(wy:World) (hB:Blk wy g 60 _) (hg:w9.grownBy wy (some g))=>And.intro (HJ7.out.1.setnames hb9 hm9 hf9 hB hg) (HJ7.out.2.trans ((Turned.below (B:=w.heap.size) hb9).trans ((HJ7.out.1.ext hb9).turned hg))));have HB9:=(HJ7.out.1.ext hb9).blk;have HS9:=HJ7.out.1.cells.size;generalize mapCells (newD b).phys (newD b).regs A9 (newD b).free.length c9=T9 at *;clear hm9 hf9 hb9)
  |(refine wpList_store_blk rfl 53 _ _ rfl g 108 T9 rfl rfl 60 _ HB9 i9 (by rw [z9,HS9];decide) o9 ?_;intro w10 hB10 hg10))
 go_simp
 have hj10:=HN9.out w10 hB10 hg10
 obtain⟨C8,hC8⟩:∃ C8,C8=({ coreN a b c sc h.pc with hart:=h,mem:=m,names:=newD b }:Core):=⟨_,rfl⟩
 obtain⟨LA,ca,h10⟩:∃ LA ca,CoreIs w.heap.size w10 g { C8 with words:=wordsK h.regs 0,there:=thereK 0 } LA [] ca:=by
  rw [hC8]
  exact⟨_,_,hj10.1⟩
 have HJA:=Lib.hid (And.intro h10 hj10.2)
 have HCE:Hid ({ C8 with words:=wordsK h.regs 32,there:=thereK 32 }=core0 a b c h m sc):=Lib.hid (by
  rw [hC8,wordsK_all hh,thereK_all]
  rfl)
 clear HN9 hB10 hg10 hj10 h10 hC8 HB9 HS9 i9 o9 z9 HJ7 CN c1 zc zg8
 go_upto_region 11 with(fail)
 go_loopw [13,68] (fun v13 v68 wr=>∃ (k:Nat) (LX:Lay) (cx:Array Value),v68 = .int .i64 k∧k≤32∧Hid (CoreIs w.heap.size wr g { C8 with words:=wordsK h.regs k,there:=thereK k } LX [] cx∧Turned w.heap.size wz wr)) (fun _ v _=>33 - (intOf v).toNat)
 case atStart=>exact⟨0,_,_,rfl,by omega,HJA⟩
 case round=>
  clear HJA
  obtain⟨k,LX,cx,rfl,hk,HR⟩:=hrel
  by_cases hlt:k<32
  ·have e1:decide (k<32)=true:=decide_eq_true hlt
   go_upto_region 13 with(fail)
   go_simp
   have hHr:=HR.out.2.blk HZ.out.2.1 (by decide)
   have cR:wr.cell? ⟨w.heap.size+1,k,none⟩=some (.int .u32 (h.regs.getD k 0)):=(hHr.cell k).trans (Hart.cells_reg (by rw [hh];exact hlt))
   have zR1:=hHr.lt
   obtain⟨rv,hrv⟩:∃ rv,h.regs.getD k 0=rv:=⟨_,rfl⟩
   rw [hrv] at cR
   have RV:=Lib.hid hrv
   clear hHr hrv
   refine wp_region_ob 30591 128 30719 [0,1,2,3,4,5,6,7,8,9,10,12,13,11,14,15] (by kernel_rfl) (by kernel_rfl) (by kernel_rfl) rfl ?_
   repeat'(first
    |refine oQ rfl rfl ?_
    |(refine' oE _ (by decide) (by decide) (fun wq K hK=>?_) ?_ ?_;rotate_left 1;(· go_wp2_with(fail);all_goals exact hK);rfl)
    |(refine' oR _ (by decide) (by decide) (by decide) (fun wq hwq K hK=>?_) ?_ ?_;rotate_left 1;(· have qR:=hwq.at_ zR1 cR;go_wp2_with(fail);all_goals exact hK);rfl)
    |((first | refine oT rfl rfl rfl rfl ?_ ?_ | refine oF rfl rfl rfl rfl ?_ ?_)<;>intro hc<;>first | (cases hc;done) | ((try cases hc);simp only [Act.put,sA,sS,sZ]))
    |refine oU rfl rfl rfl rfl ?_)
   refine wpOW_solo (by decide) (by decide) (by decide) (by kernel_rfl) (fun w11 hw11 K1 hK1=>?_)
   have hb11:Below wr.heap.size wr w11:=by rw [hw11];exact(Below.refl _ _).drew
   clear hw11
   have h11:=HR.out.1.ext hb11
   have k142:w11.cell? ⟨g,142+k,none⟩=some (.int .u32 ((wordsK h.regs k).getD k 0)):=h11.cell (h11.cells.words k (by omega))
   have f142:=h11.blk.frozen (142+k)
   have z11:=h11.lt
   have s11:=h11.set (142+k) (.int .u32 rv) (h11.cells.set_word k (by omega) (wordsK_len hh hk) rv) h11.rows
   have HJ11:=Lib.hid (And.intro s11 ((HR.out.2.trans (Turned.below (B:=w.heap.size) hb11)).trans (h11.turned (grownBy_setCell w11 ⟨g,142+k,none⟩ (.int .u32 rv)))))
   clear h11 s11 hb11 HR cR zR1
   go_wp2_with(fail)
   refine hK1 undef _ (fun _=>True) trivial ?_
   simp only [Act.put,sA,sS,sZ]
   clear hK1 K1 k142 f142 z11
   repeat'(first
    |refine oQ rfl rfl ?_
    |(refine' oE _ (by decide) (by decide) (fun wq K hK=>?_) ?_ ?_;rotate_left 1;(· go_wp2_with(fail);all_goals exact hK);rfl)
    |((first | refine oT rfl rfl rfl rfl ?_ ?_ | refine oF rfl rfl rfl rfl ?_ ?_)<;>intro hc<;>first | (cases hc;done) | ((try cases hc);simp only [Act.put,sA,sS,sZ]))
    |refine oU rfl rfl rfl rfl ?_)
   refine wpOW_solo (by decide) (by decide) (by decide) (by kernel_rfl) (fun w12 hw12 K1 hK1=>?_)
   rw [←hw12] at HJ11
   clear hw12
   have h12:=HJ11.out.1
   have k238:w12.cell? ⟨g,238+k,none⟩=some (.bool ((thereK k).getD k false)):=h12.cell (h12.cells.there k (by omega))
   have f238:=h12.blk.frozen (238+k)
   have z12:=h12.lt
   have s12:=h12.set (238+k) (.bool true) (h12.cells.set_there k (by omega) (thereK_len (by omega)) true) h12.rows
   have HJ12:=Lib.hid (And.intro s12 (HJ11.out.2.trans (h12.turned (grownBy_setCell w12 ⟨g,238+k,none⟩ (.bool true)))))
   clear h12 s12 HJ11
   go_wp2_with(fail)
   refine hK1 undef _ (fun _=>True) trivial ?_
   simp only [Act.put,sA,sS,sZ]
   clear hK1 K1 k238 f238 z12
   refine wpO_nil ?_
   rintro w13 hw13
   rw [←hw13] at HJ12
   clear hw13
   obtain⟨LB,cb,h13⟩:∃ LB cb,CoreIs w.heap.size w13 g { C8 with words:=wordsK h.regs (k+1),there:=thereK (k+1) } LB [] cb:=by
    rw [←wordsK_set hh hlt,←thereK_set (show k<96 by omega),show h.regs.getD k 0=rv from RV.out]
    exact⟨_,_,HJ12.out.1⟩
   have HJ13:=Lib.hid (And.intro h13 HJ12.out.2)
   clear h13 HJ12
   go_wp2_with(fail)
   go_roundw
   case rel=>exact⟨k+1,_,_,by go_num,by omega,HJ13⟩
   case measure=>simp [intOf];omega
  ·have e1:decide (k<32)=false:=decide_eq_false hlt
   obtain rfl:k=32:=by omega
   have HRE:Hid (CoreIs w.heap.size wr g (core0 a b c h m sc) LX [] cx∧Turned w.heap.size wz wr):=Lib.hid ⟨by rw [←HCE.out];exact HR.out.1,HR.out.2⟩
   clear HR HCE
   go_upto_region 15 with(fail)
   have HR0:=HRE
   clear HRE
   have HL0:Hid (Lp4 (core0 a b c h m sc) Y N (100*((N:Int) - (N:Int))) sc):=Lib.hid (by
    refine⟨?_,HY.out,⟨⟨Int.le_refl _,by show(0:Int)≤_;omega⟩,⟨Int.le_refl _,by show(0:Int)≤_;omega⟩,⟨Int.le_refl _,by show(0:Int)≤_;omega⟩,by show((0:Nat):Int)≤_;omega,⟨Int.le_refl _,by show(0:Int)≤_;omega⟩⟩,fun x hx=>hx,hh⟩
    by_cases hs:h.state=0
    ·exact Or.inr ⟨_,core0_between ASK.out hs sc⟩
    ·exact Or.inl hs)
   clear HY
   go_loopw [101] (fun _ wx=>∃ (r:Nat) (X:Core) (LX:Lay) (px:List Nat) (cx:Array Value),r≤N∧Hid (X.cycles+r=(N:Int))∧Hid (CoreIs w.heap.size wx g X LX px cx∧Turned w.heap.size wz wx)∧Hid (Lp4 X Y r (100*((N:Int) - (r:Int))) sc)) (fun _ wx=>N - (intOf ((wx.cell? ⟨g,40,none⟩).getD undef)).toNat)
   case atStart=>exact⟨N,core0 a b c h m sc,_,_,_,Nat.le_refl _,Lib.hid (by show(0:Int)+N=N;omega),HR0,HL0⟩
   case round=>
    clear HR0 HL0
    obtain⟨r,X,LX,px,cx,hr,HCY,HR,HL⟩:=hrel
    have HHX:=Lib.hid HL.out.hart
    have k40:=HR.out.1.cell HR.out.1.cells.cycles
    have k37:=HR.out.1.hstate HHX.out
    have zg:=HR.out.1.lt
    obtain⟨cy,hcy⟩:∃ cy,X.cycles=cy:=⟨_,rfl⟩
    obtain⟨st,hst⟩:∃ st,X.hart.state=st:=⟨_,rfl⟩
    rw [hcy] at k40
    rw [hst] at k37
    have hcr:cy+r=(N:Int):=by rw [←hcy];exact HCY.out
    by_cases hgo:0<r∧st=0
    ·obtain⟨r2,rfl⟩:∃ r2,r=r2+1:=⟨r - 1,by omega⟩
     obtain⟨hgd,hnx,hcyc⟩:=HL.out.step (by rw [hst];exact hgo.2)
     have CF:=Lib.hid (cycle_any HR.out.1 hgd HL.out.bd (by omega) (fun x hx=>HSB.out x (HL.out.sub x hx)))
     have HNX:Hid (Lp4 (cycleP X) Y r2 (100*((N:Int) - (r2:Int))) sc):=Lib.hid (by
      rw [show(100:Int)*((N:Int) - (r2:Int))=100*((N:Int) - ((r2+1:Nat):Int))+100 by omega]
      exact hnx)
     have HNC:Hid ((cycleP X).cycles+r2=(N:Int)):=Lib.hid (by rw [hcyc,hcy];omega)
     have t1:decide (cy<(N:Int))=true:=decide_eq_true (by omega)
     have t2:(st==0)=true:=by rw [hgo.2];rfl
     have HCYC:=Lib.hid hcyc
     have HK40:=Lib.hid k40
     have HCW:=Lib.hid hcy
     have hcy0:0≤cy:=by rw [←hcy];exact HL.out.bd.cycles.1
     have hcyN:cy<N:=by omega
     have hr2:r2≤N:=by omega
     clear hgd hnx hcyc hcy hst hgo hcr HCY HL
     go_wp2_with(go_at_call 13;(with_reducible refine CF.out.mono ?_);rintro e w14 ⟨rfl,ht14,L14,ps14,cs14,h14⟩;have HJ14:=Lib.hid (And.intro h14 (HR.out.2.trans ht14));clear h14 ht14)
     go_roundw
     case rel=>exact⟨_,_,_,_,_,_,_,_,_,_,_,_,_,_,_,_,_,_,⟨r2,cycleP X,_,_,_,hr2,HNC,HJ14,HNX⟩,rfl⟩
     case measure=>
      rw [HK40.out,show w14.cell? ⟨g,40,none⟩=some (.int .i64 (cycleP X).cycles) from HJ14.out.1.cell HJ14.out.1.cells.cycles,HCYC.out,HCW.out]
      simp only [Option.getD_some,intOf]
      omega
    ·have HXE:Hid (Y=X):=Lib.hid (HL.out.stop (by
      rcases Nat.eq_zero_or_pos r with h0 | h0
      ·exact Or.inl h0
      ·right
       rw [hst]
       exact fun hs=>hgo ⟨h0,hs⟩))
     clear hcy HL HCY
     rcases Nat.eq_zero_or_pos r with h0 | h0
     ·have t1:decide (cy<(N:Int))=false:=decide_eq_false (by omega)
      clear hst hgo hcr
      have HLX:=Lib.hid (HR.out.1.cells.shownX HHX.out)
      obtain⟨AC,cC,hac⟩:=own_value HR.out.1.rows.commits
      obtain⟨AM,cM,ham⟩:=own_value HR.out.1.rows.mem
      have HSZ:=Lib.hid (shown_size LX.commits HHX.out LX.mem X.cycles X.taken X.backs)
      have HON:=Lib.hid (shown_one AC X.commits.length cC X.hart AM X.mem.length cM X.cycles X.taken X.backs)
      rw [←hac,←ham] at HON
      have HBS:=Lib.hid (HR.out.2.blk HZ.out.2.2.1 (by decide))
      have HGC:=HR.out.1.blk
      have HGS:=HR.out.1.cells.size
      have HXT:Hid (shownCells LX.commits X.hart LX.mem X.cycles X.taken X.backs=shownCells LX.commits X.hart LX.mem X.cycles X.taken X.backs):=Lib.hid rfl
      clear hac ham
      obtain⟨T,hT⟩:∃ T,T=shownCells LX.commits X.hart LX.mem X.cycles X.taken X.backs:=⟨_,rfl⟩
      rw [←hT] at HLX HSZ HON
      have HT:=Lib.hid hT
      clear hT HXT
      go_wp2_with(first
       |(refine wpList_load_blk rfl 34 _ rfl g 3 rfl 60 cx 40 _ HGC Try.underlying34 rfl cshown_info (by rw [HGS];decide) ?_;rw [HLX.out])
       |(refine wpList_store_all rfl 34 _ _ rfl (w.heap.size+1+1) T rfl rfl 34 _ HBS.out (shown_info HSZ.out) (by rw [HSZ.out];rfl) HON.out ?_;intro w16 hB16 hg16))
      refine bodyPost_ret (results_ct rfl rfl rfl (shown_load HSZ.out hB16)) rfl ?_
      rw [HXE.out]
      refine⟨below_grown (HR.out.2.toBelow HZ.out.2.2.2 HZ.out.2.2.2.size) hg16 (Nat.le_trans HZ.out.2.2.2.size HR.out.2.size) (by omega),LX.commits,LX.mem,?_,HR.out.1.rows.commits.kept hg16 (own_other HR.out.1.rows.commits HBS.out (by decide)),HR.out.1.rows.mem.kept hg16 (own_other HR.out.1.rows.mem HBS.out (by decide))⟩
      rw [HT.out]
      rfl
     ·have t1:decide (cy<(N:Int))=true:=decide_eq_true (by omega)
      have t2:(st==0)=false:=by
       have:st≠0:=fun hs=>hgo ⟨h0,hs⟩
       simpa using this
      clear hst hgo hcr
      have HLX:=Lib.hid (HR.out.1.cells.shownX HHX.out)
      obtain⟨AC,cC,hac⟩:=own_value HR.out.1.rows.commits
      obtain⟨AM,cM,ham⟩:=own_value HR.out.1.rows.mem
      have HSZ:=Lib.hid (shown_size LX.commits HHX.out LX.mem X.cycles X.taken X.backs)
      have HON:=Lib.hid (shown_one AC X.commits.length cC X.hart AM X.mem.length cM X.cycles X.taken X.backs)
      rw [←hac,←ham] at HON
      have HBS:=Lib.hid (HR.out.2.blk HZ.out.2.2.1 (by decide))
      have HGC:=HR.out.1.blk
      have HGS:=HR.out.1.cells.size
      have HXT:Hid (shownCells LX.commits X.hart LX.mem X.cycles X.taken X.backs=shownCells LX.commits X.hart LX.mem X.cycles X.taken X.backs):=Lib.hid rfl
      clear hac ham
      obtain⟨T,hT⟩:∃ T,T=shownCells LX.commits X.hart LX.mem X.cycles X.taken X.backs:=⟨_,rfl⟩
      rw [←hT] at HLX HSZ HON
      have HT:=Lib.hid hT
      clear hT HXT
      go_wp2_with(first
       |(refine wpList_load_blk rfl 34 _ rfl g 3 rfl 60 cx 40 _ HGC Try.underlying34 rfl cshown_info (by rw [HGS];decide) ?_;rw [HLX.out])
       |(refine wpList_store_all rfl 34 _ _ rfl (w.heap.size+1+1) T rfl rfl 34 _ HBS.out (shown_info HSZ.out) (by rw [HSZ.out];rfl) HON.out ?_;intro w16 hB16 hg16))
      refine bodyPost_ret (results_ct rfl rfl rfl (shown_load HSZ.out hB16)) rfl ?_
      rw [HXE.out]
      refine⟨below_grown (HR.out.2.toBelow HZ.out.2.2.2 HZ.out.2.2.2.size) hg16 (Nat.le_trans HZ.out.2.2.2.size HR.out.2.size) (by omega),LX.commits,LX.mem,?_,HR.out.1.rows.commits.kept hg16 (own_other HR.out.1.rows.commits HBS.out (by decide)),HR.out.1.rows.mem.kept hg16 (own_other HR.out.1.rows.mem HBS.out (by decide))⟩
      rw [HT.out]
      rfl
end Go.Proofs.Ytapgojgcmlnbgac
