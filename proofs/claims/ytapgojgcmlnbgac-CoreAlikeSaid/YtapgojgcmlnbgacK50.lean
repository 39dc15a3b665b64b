/- Parts of a proof. -/
import Derived.Test.YtapgojgcmlnbgacK29
import Derived.Test.YtapgojgcmlnbgacK49
set_option linter.unusedSimpArgs false
set_option linter.unusedVariables false
set_option maxRecDepth 100000
set_option maxHeartbeats 16000000
namespace Go.Proofs.Ytapgojgcmlnbgac
open Go Go.RowKit
theorem wrongC_says (a b c:Int) (h:Hart) (m k:Nat) (cycles:Int) :
  ((a<1∨32<a∨b<33∨96<b∨c<1∨4<c∨mayH h=false∨4096<m)→wrongC a b c h m k cycles=2) ∧
  (¬ (a<1∨32<a∨b<33∨96<b∨c<1∨4<c∨mayH h=false∨4096<m)→wrongC a b c h m k cycles=if 3000<k then 1 else if cycles<0∨6000<cycles then 3 else 0):=by
 have hm:mayC a b c=false↔(a<1∨32<a∨b<33∨96<b∨c<1∨4<c):=by
  unfold mayC
  simp only [Bool.and_eq_false_iff,decide_eq_false_iff_not]
  omega
 unfold wrongC
 constructor
 ·intro hh
  rw [if_pos]
  rw [hm]
  rcases hh with h1 | h1 | h1 | h1 | h1 | h1 | h1 | h1<;>simp [h1]
 ·intro hh
  rw [if_neg]
  rw [hm]
  intro h2
  apply hh
  rcases h2 with(h1 | h1 | h1 | h1 | h1 | h1) | h1 | h1<;>simp [h1]
theorem cwrong_any (a b c:Int) (h:Hart) (A:Option Addr) (cap:Nat) (m:Nat) (A2:Option Addr) (cap2:Nat) (k:Nat) (cycles:Int) (w:World) (hh:h.regs.length=32) (hl:m≤140737488351232) (hl2:k≤4611686018427387904) :
  Calls Try.prog 5 #[.agg #[.int .i64 a, .int .i64 b, .int .i64 c], .agg h.cells, .slice A m cap, .slice A2 k cap2, .int .i64 cycles] w fun e w'=>e = .returned (.int .i64 (wrongC a b c h m k cycles))∧Below w.heap.size w w':=by
 have CM:=Lib.hid (fun W=>rmay_any h W hh)
 obtain⟨hx2,hxe⟩:=wrongC_says a b c h m k cycles
 generalize wrongC a b c h m k cycles=X at *
 have hinfo:=hart_info hh
 by_cases q0:a<1
 focus
  have e0:decide (a<1)=true:=decide_eq_true q0
  obtain rfl:X=2:=hx2 (by omega)
  clear hx2 hxe q0
 rotate_left 1
 have e0:decide (a<1)=false:=decide_eq_false q0
 by_cases q1:32<a
 focus
  have e1:decide (32<a)=true:=decide_eq_true q1
  obtain rfl:X=2:=hx2 (by omega)
  clear hx2 hxe q1 q0
 rotate_left 1
 have e1:decide (32<a)=false:=decide_eq_false q1
 by_cases q2:b<33
 focus
  have e2:decide (b<33)=true:=decide_eq_true q2
  obtain rfl:X=2:=hx2 (by omega)
  clear hx2 hxe q2 q0 q1
 rotate_left 1
 have e2:decide (b<33)=false:=decide_eq_false q2
 by_cases q3:96<b
 focus
  have e3:decide (96<b)=true:=decide_eq_true q3
  obtain rfl:X=2:=hx2 (by omega)
  clear hx2 hxe q3 q0 q1 q2
 rotate_left 1
 have e3:decide (96<b)=false:=decide_eq_false q3
 by_cases q4:c<1
 focus
  have e4:decide (c<1)=true:=decide_eq_true q4
  obtain rfl:X=2:=hx2 (by omega)
  clear hx2 hxe q4 q0 q1 q2 q3
 rotate_left 1
 have e4:decide (c<1)=false:=decide_eq_false q4
 by_cases q5:4<c
 focus
  have e5:decide (4<c)=true:=decide_eq_true q5
  obtain rfl:X=2:=hx2 (by omega)
  clear hx2 hxe q5 q0 q1 q2 q3 q4
 rotate_left 1
 have e5:decide (4<c)=false:=decide_eq_false q5
 rcases hm:mayH h with _ | _
 focus
  rw [hm] at CM
  obtain rfl:X=2:=hx2 (by simp [hm])
  clear hx2 hxe hm q0 q1 q2 q3 q4 q5
 rotate_left 1
 rw [hm] at CM hxe hx2
 by_cases q6:4096<m
 focus
  have e6:decide ((4096:Int)<(m:Int))=true:=decide_eq_true (by omega)
  obtain rfl:X=2:=hx2 (by omega)
  clear hx2 hxe hm q6 q0 q1 q2 q3 q4 q5
 rotate_left 1
 have e6:decide ((4096:Int)<(m:Int))=false:=decide_eq_false (by omega)
 have hx:=hxe (by simp;omega)
 clear hx2 hxe hm q6 q0 q1 q2 q3 q4 q5
 by_cases q7:3000<k
 focus
  have e7:decide ((3000:Int)<(k:Int))=true:=decide_eq_true (by omega)
  obtain rfl:X=1:=by rw [hx,if_pos q7]
  clear hx q7
 rotate_left 1
 have e7:decide ((3000:Int)<(k:Int))=false:=decide_eq_false (by omega)
 rw [if_neg q7] at hx
 by_cases q8:cycles<0
 focus
  have e8:decide (cycles<0)=true:=decide_eq_true q8
  obtain rfl:X=3:=by rw [hx,if_pos (Or.inl q8)]
  clear hx q7 q8
 rotate_left 1
 have e8:decide (cycles<0)=false:=decide_eq_false q8
 by_cases q9:6000<cycles
 focus
  have e9:decide (6000<cycles)=true:=decide_eq_true q9
  obtain rfl:X=3:=by rw [hx,if_pos (Or.inr q9)]
  clear hx q7 q8 q9
 rotate_left 1
 have e9:decide (6000<cycles)=false:=decide_eq_false q9
 obtain rfl:X=0:=by rw [hx,if_neg (by omega)]
 clear hx q7 q8 q9
 rotate_left 1
 rotate_left 2
 rotate_left 3
 rotate_left 4
 rotate_left 5
 rotate_left 6
 rotate_left 7
 rotate_left 8
 rotate_left 9
 rotate_left 10
 rotate_left 11
 all_goals
  go_enter Try.func5,Try.ntmps5
  go_upto_region 1 with(fail)
  go_simp
  refine wp_gen fun wa hq=>?_
  have hC:Blk wa w.heap.size 23 #[.int .i64 a, .int .i64 b, .int .i64 c]:=by rw [hq];exact(Blk.new w _ _).alloc _
  have hH:Blk wa (w.heap.size+1) 27 h.cells:=by rw [hq];exact Blk.newAt (w.alloc _) 27 _ (by simp)
  have hbl:Below w.heap.size w wa:=by rw [hq];exact((Below.refl _ _).alloc (Nat.le_refl _) _).alloc (by simp) _
  clear hq
  have c0:wa.cell? ⟨w.heap.size,0,none⟩=some (.int .i64 a):=hC.cell 0
  have c1:wa.cell? ⟨w.heap.size,1,none⟩=some (.int .i64 b):=hC.cell 1
  have c2:wa.cell? ⟨w.heap.size,2,none⟩=some (.int .i64 c):=hC.cell 2
  have zC:=hC.lt
  clear hC
  go_wp2_with(first
   |(refine wpList_wantd2 rfl fun K hK=>?_;refine wp_load_all 27 _ rfl (w.heap.size+1) rfl 27 _ _ hH Try.underlying27 rfl hinfo ?_;refine hK _ _ ?_;clear hK K)
   |(go_at_call 8;(with_reducible refine(CM.out _).mono ?_);rintro e w2 ⟨rfl,hb2⟩;replace hbl:=hbl.trans (hb2.mono hbl.size);clear hb2))
  go_ret
  exact⟨rfl,hbl⟩
theorem asked_of {a b c:Int} {h:Hart} {m:List Int} {k:Nat} {cycles:Int} (hh:h.Wf) (hm:Bytes m) (hw:wrongC a b c h m.length k cycles=0):Asked a b c h m∧k≤3000∧0≤cycles∧cycles≤6000:=by
 obtain⟨hx2,hxe⟩:=wrongC_says a b c h m.length k cycles
 by_cases h2:(a<1∨32<a∨b<33∨96<b∨c<1∨4<c∨mayH h=false∨4096<m.length)
 ·rw [hx2 h2] at hw;cases hw
 ·have he:=hxe h2
  rw [hw] at he
  have hmay:mayH h=true:=by
   rcases e:mayH h with _ | _
   ·exact absurd (by simp [e]) h2
   ·rfl
  have h3:¬ 3000<k:=fun hk=>by rw [if_pos hk] at he;cases he
  rw [if_neg h3] at he
  have h4:¬ (cycles<0∨6000<cycles):=fun hk=>by rw [if_pos hk] at he;cases he
  exact⟨⟨by omega,by omega,by omega,hh,hmay,hm,by omega⟩,by omega,by omega,by omega⟩
theorem shown_at (vc:Value) {H:Hart} (hl:H.regs.length=32) (vm:Value) (cy tk bk:Int) :
  (shownCells vc H vm cy tk bk)[0]? = some vc∧(shownCells vc H vm cy tk bk)[34]? = some (.int .i64 H.state)∧(shownCells vc H vm cy tk bk)[37]? = some (.int .i64 cy):=by
 have hz:=Hart.cells_size hl
 unfold shownCells
 refine⟨rfl,?_,?_⟩
 ·rw [List.getElem?_toArray,List.getElem?_cons_succ,List.getElem?_append_left (by simp [hz])]
  have:=(Hart.cells_pc hl).2.1
  simpa using this
 ·rw [List.getElem?_toArray,List.getElem?_cons_succ,List.getElem?_append_right (by simp [hz])]
  simp [hz]
theorem coreGoes_no (a b c:Int) (h:Hart) (A:Option Addr) (cap:Nat) (m:Nat) (A2:Option Addr) (cap2:Nat) (k:Nat) (cycles:Int) (w:World) (hh:h.regs.length=32) (hl:m≤140737488351232) (hl2:k≤4611686018427387904) (hno:wrongC a b c h m k cycles≠0) :
  Calls Try.prog 3 #[.agg #[.int .i64 a, .int .i64 b, .int .i64 c], .agg h.cells, .slice A m cap, .slice A2 k cap2, .int .i64 cycles] w fun e w'=>e = .returned (.bool true)∧Below w.heap.size w w':=by
 have CW:=Lib.hid (fun W=>cwrong_any a b c h A cap m A2 cap2 k cycles W hh hl hl2)
 have hinfo:=hart_info hh
 generalize wrongC a b c h m k cycles=X at *
 have e2:(X != 0)=true:=by simpa using hno
 clear hno
 go_enter Try.func3,Try.ntmps3
 go_upto_region 1 with(fail)
 go_simp
 refine wp_gen fun wa hq=>?_
 have hC:Blk wa w.heap.size 23 #[.int .i64 a, .int .i64 b, .int .i64 c]:=by rw [hq];exact(Blk.new w _ _).alloc _
 have hH:Blk wa (w.heap.size+1) 27 h.cells:=by rw [hq];exact Blk.newAt (w.alloc _) 27 _ (by simp)
 have hbl:Below w.heap.size w wa:=by rw [hq];exact((Below.refl _ _).alloc (Nat.le_refl _) _).alloc (by simp) _
 clear hq
 go_wp2_with(first
  |(refine wpList_load_all rfl 23 _ rfl w.heap.size rfl 23 _ _ hC Try.underlying23 rfl cfg_info ?_)
  |(refine wpList_load_all rfl 27 _ rfl (w.heap.size+1) rfl 27 _ _ hH Try.underlying27 rfl hinfo ?_)
  |(go_at_call 5;(with_reducible refine(CW.out _).mono ?_);rintro e w1 ⟨rfl,hb1⟩;replace hbl:=hbl.trans (hb1.mono hbl.size);replace hH:=hH.ext hb1;replace hC:=hC.ext hb1;clear hb1)
  |fail)
 go_ret
 exact⟨rfl,hbl⟩
theorem coreGoes_ok (a b c:Int) (h:Hart) (A:Option Addr) (cap:Nat) (m:List Int) (A2:Option Addr) (cap2:Nat) (sc:List Int) (cycles:Int) (w:World) (ask:Asked a b c h m) (hA:IntsAt w w.heap.size .u8 A m) (hnil:A=none→m=[])
  (hS:IntsAt w w.heap.size .i64 A2 sc) (hSn:A2=none→sc=[]∧cap2=0) (hS1:sc.length≤cap2) (hS2:cap2≤9223372036854775807) (hS3:sc.length≤3000) (hSb:∀ x∈sc,x≤9223372036854775807) (hc0:0≤cycles) (hc1:cycles≤6000) (hno:wrongC a b c h m.length sc.length cycles=0) :
  Calls Try.prog 3 #[.agg #[.int .i64 a, .int .i64 b, .int .i64 c], .agg h.cells, .slice A m.length cap, .slice A2 sc.length cap2, .int .i64 cycles] w fun e w'=>e = .returned (.bool true)∧Below w.heap.size w w':=by
 have hh:=ask.hart.len
 have CW:=Lib.hid (fun W=>cwrong_any a b c h A cap m.length A2 cap2 sc.length cycles W hh (by have:=ask.room;omega) (by omega))
 rw [hno] at CW
 have hinfo:=hart_info hh
 have CR:=Lib.hid (fun W (hb:Below w.heap.size w W)=>runC_ok a b c h A cap m A2 cap2 sc cycles W ask ((hA.below hb).mono hb.size) hnil ((hS.below hb).mono hb.size) hSn hS1 hS2 hS3 hSb hc0 hc1)
 have hs:=run_shown ask sc cycles.toNat
 generalize runCore a b c h m sc cycles.toNat=Y at *
 have hyl:Y.hart.regs.length=32:=by
  have h1:=(runP_ok Y.commits.length (h:=h) (m:=m) ⟨ask.hart,ask.may,ask.bytes⟩).1
  rw [hs.run] at h1
  exact h1.hart.len
 have hcy:=hs.cycles
 have hfew:=hs.few
 have hmany:=hs.many
 have hall:=hs.all
 have hwide:=ask.wide
 obtain⟨cy,hcye⟩:∃ cy,Y.cycles=cy:=⟨_,rfl⟩
 obtain⟨n,hn⟩:∃ n,Y.commits.length=n:=⟨_,rfl⟩
 obtain⟨st,hst⟩:∃ st,Y.hart.state=st:=⟨_,rfl⟩
 rw [hcye] at hcy hfew hmany hall
 rw [hn] at hfew hmany
 rw [hst] at hall
 have hcy1:cy≤6000:=by omega
 have hall2:cy<cycles→st≠0:=fun hlt=>hall (by omega)
 have HYL:=Lib.hid hyl
 have HCE:=Lib.hid hcye
 have HN:=Lib.hid hn
 have HST:=Lib.hid hst
 have hmul:cy*c≤24000:=by
  have h1:cy*c≤6000*c:=Int.mul_le_mul_of_nonneg_right hcy1 (by omega)
  omega
 have hmul0:0≤cy*c:=Int.mul_nonneg hcy.1 (by omega)
 obtain⟨P,hP⟩:∃ P,cy*c=P:=⟨_,rfl⟩
 have hcy0:=hcy.1
 have f1:decide (cy / 60≤(n:Int))=true:=decide_eq_true hmany
 have f2:decide ((n:Int)≤cy*c)=true:=decide_eq_true hfew
 clear hs hA hS hnil hSn hS1 hS2 hS3 hSb hno hyl hcye hn hst hall hfew hmany hP ask
 go_enter Try.func3,Try.ntmps3
 go_upto_region 1 with(fail)
 go_simp
 refine wp_gen fun wa hq=>?_
 have hC:Blk wa w.heap.size 23 #[.int .i64 a, .int .i64 b, .int .i64 c]:=by rw [hq];exact(Blk.new w _ _).alloc _
 have hH:Blk wa (w.heap.size+1) 27 h.cells:=by rw [hq];exact Blk.newAt (w.alloc _) 27 _ (by simp)
 have hbl:Below w.heap.size w wa:=by rw [hq];exact((Below.refl _ _).alloc (Nat.le_refl _) _).alloc (by simp) _
 clear hq
 go_upto_region 4 with(first
  |(refine wpList_load_all rfl 23 _ rfl w.heap.size rfl 23 _ _ hC Try.underlying23 rfl cfg_info ?_)
  |(refine wpList_load_all rfl 27 _ rfl (w.heap.size+1) rfl 27 _ _ hH Try.underlying27 rfl hinfo ?_)
  |(go_at_call 5;(with_reducible refine(CW.out _).mono ?_);rintro e w1 ⟨rfl,hb1⟩;replace hbl:=hbl.trans (hb1.mono hbl.size);replace hH:=hH.ext hb1;replace hC:=hC.ext hb1;clear hb1)
  |(go_at_call 6;(with_reducible refine(CR.out _ hbl).mono ?_);rintro e w2 ⟨hb2,vc,vm,rfl,hvc,hvm⟩;obtain⟨AC,cC,rfl⟩:=own_value hvc;obtain⟨AM,cM,rfl⟩:=own_value hvm;have HON:=Lib.hid (shown_one AC Y.commits.length cC Y.hart AM Y.mem.length cM Y.cycles Y.taken Y.backs);have HSZ:=Lib.hid (shown_size (.slice AC Y.commits.length cC) HYL.out (.slice AM Y.mem.length cM) Y.cycles Y.taken Y.backs);have HAT:=Lib.hid (shown_at (.slice AC Y.commits.length cC) HYL.out (.slice AM Y.mem.length cM) Y.cycles Y.taken Y.backs);generalize shownCells (.slice AC Y.commits.length cC) Y.hart (.slice AM Y.mem.length cM) Y.cycles Y.taken Y.backs=T at *;replace hbl:=hbl.trans (hb2.mono hbl.size);replace hC:=hC.ext hb2;clear hb2 hvc hvm hH)
  |(refine wpList_store_all rfl 34 _ _ rfl w2.heap.size T rfl rfl 34 _ (Blk.new w2 _ _) (shown_info HSZ.out) (by rw [HSZ.out];rfl) HON.out ?_;intro w3 hX hg3))
 go_simp
 have k0:w3.cell? ⟨w2.heap.size,0,none⟩=some (.slice AC n cC):=by rw [←HN.out];exact(hX.cell 0).trans HAT.out.1
 have k34:w3.cell? ⟨w2.heap.size,34,none⟩=some (.int .i64 st):=by rw [←HST.out];exact(hX.cell 34).trans HAT.out.2.1
 have k37:w3.cell? ⟨w2.heap.size,37,none⟩=some (.int .i64 cy):=by rw [←HCE.out];exact(hX.cell 37).trans HAT.out.2.2
 have hz2:=hC.lt
 have hz3:=hg3.size
 simp only [World.size_alloc] at hz3
 have hC3:=(hC.alloc (.cells shown0 34)).grown hg3 (fun e=>by injection e;omega)
 have kc2:w3.cell? ⟨w.heap.size,2,none⟩=some (.int .i64 c):=hC3.cell 2
 have zc3:=hC3.lt
 have zx3:=hX.lt
 replace hbl:=below_grown (hbl.alloc hbl.size (.cells shown0 34)) hg3 (by have:=hbl.size;simp;omega) hbl.size
 clear hg3 hX hC hC3 HON HSZ HAT HN HST HCE CR CW
 by_cases hlt:cy<cycles
 ·have g1:decide (cy<cycles)=true:=decide_eq_true hlt
  have g2:(st==0)=false:=by simpa using hall2 hlt
  clear hall2 hlt
  go_wp2_with(fail)
  go_ret
  exact⟨rfl,hbl⟩
 ·have g1:decide (cy<cycles)=false:=decide_eq_false hlt
  clear hall2 hlt
  go_wp2_with(fail)
  go_ret
  exact⟨rfl,hbl⟩
end Go.Proofs.Ytapgojgcmlnbgac
