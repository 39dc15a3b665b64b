/- Parts of a proof. -/
import Derived.Test.YtapgojgcmlnbgacK30
import Derived.Test.YtapgojgcmlnbgacK25
import Derived.Test.YtapgojgcmlnbgacK29
set_option linter.unusedSimpArgs false
set_option linter.unusedVariables false
set_option maxRecDepth 100000
set_option maxHeartbeats 16000000
namespace Go.Proofs.Ytapgojgcmlnbgac
open Go.RowKit
section
variable {B:Nat} {w:World} {g p:Nat} {C:Core} {L:Lay} {ps:List Nat} {cs:Array Value}
theorem beginP_no (C:Core) (k:Nat) (cycle head:Int) (h:(C.op k).state≠0∨C.has (C.op k).a=false∨C.has (C.op k).b=false∨(aloneB (C.op k).ins=true∧(C.op k).seq≠head)):beginP C k cycle head=(false,C):=by
 unfold beginP
 dsimp only
 rw [if_pos h]
theorem begin_no (h:CoreIs B w g C L ps cs) {k:Nat} (hp:ps[k]? = some p) (cycle head:Int) (ha:0≤(C.op k).a∧(C.op k).a<96) (hb:0≤(C.op k).b∧(C.op k).b<96)
  (hno:(C.op k).state≠0∨C.has (C.op k).a=false∨C.has (C.op k).b=false∨(aloneB (C.op k).ins=true∧(C.op k).seq≠head)) :
  Calls Try.prog 16 #[.pointer (some ⟨g,0,none⟩), .pointer (some ⟨p,0,none⟩), .int .i64 cycle, .int .i64 head] w fun e w'=>e = .returned (.bool false)∧Turned B w w'∧∃ L' cs',CoreIs B w' g C L' ps cs':=by
 obtain⟨hu,hBp,hk,hg⟩:=h.uop_at hp
 generalize C.op k=u at *
 have c0:w.cell? ⟨p,0,none⟩=some (.int .i64 u.seq):=hu.cell 0
 have c1:w.cell? ⟨p,1,none⟩=some (.int .i64 u.state):=hu.cell 1
 have c11:w.cell? ⟨p,11,none⟩=some (.int .i64 u.a):=hu.cell 11
 have c12:w.cell? ⟨p,12,none⟩=some (.int .i64 u.b):=hu.cell 12
 unfold Core.has at hno
 obtain⟨a,e1⟩:=Int.eq_ofNat_of_zero_le ha.1
 obtain⟨b,e2⟩:=Int.eq_ofNat_of_zero_le hb.1
 rw [e1] at c11 ha hno
 rw [e2] at c12 hb hno
 have ca:=h.has (d:=a) (by omega)
 have cb:=h.has (d:=b) (by omega)
 simp only [Int.toNat_natCast] at hno
 generalize C.there.getD a false=ta at *
 generalize C.there.getD b false=tb at *
 have zp:=hu.lt
 have zg:=h.lt
 have HI:=Lib.hid h
 have HP:=Lib.hid hu
 have AL:=Lib.hid (fun W=>alone_any u.ins W)
 generalize aloneB u.ins=al at *
 have ha96:a<96:=by omega
 have hb96:b<96:=by omega
 clear h hu hg e1 e2 ha hb
 generalize u.seq=sq at *
 generalize u.state=st at *
 by_cases q1:st=0
 focus
  subst q1
  rcases ta with _ | _
  focus
   clear hno
  rotate_left 1
  rcases tb with _ | _
  focus
   clear hno
  rotate_left 1
  obtain⟨rfl,q2⟩:al=true∧sq≠head:=by simpa using hno
  have q2':(sq != head)=true:=by simpa using q2
  clear hno
  rotate_left 1
  rotate_left 2
 rotate_left 3
 focus
  have q1':(st != 0)=true:=by simpa using q1
  clear hno
 rotate_left 1
 all_goals
  go_enter Try.func16,Try.ntmps16
  go_upto_region 1 with(fail)
  go_simp
  refine wp_region_ob 17016589106167 558417069064 17592186044415 [0,1,2,3,4,5,6,7,8,9,10,11,12,13,14,15,16,17,18,19,20,21,22,23,24,25,26,27,28,29,30,31,32,33,34,35,36,37,38,39,40,41,42,43] (by kernel_rfl) (by kernel_rfl) (by kernel_rfl) rfl ?_
  repeat'(first
   |refine oQ rfl rfl ?_
   |(refine' oE _ (by decide) (by decide) (fun wq K hK=>?_) ?_ ?_;rotate_left 1;(· go_wp2_with(fail);all_goals exact hK);rfl)
   |(refine' oR _ (by decide) (by decide) (by decide) (fun wq hwq K hK=>?_) ?_ ?_;rotate_left 1;(· have k0:=hwq.at_ zp c0;have k1:=hwq.at_ zp c1;have k11:=hwq.at_ zp c11;have k12:=hwq.at_ zp c12;have ka:=hwq.at_ zg ca;have kb:=hwq.at_ zg cb;first | ((refine wp_load_blk 68 _ rfl p 5 rfl 70 u.cells 5 _ (HP.out.ext hwq) Try.underlying68 rfl cins_info (by rw [Uop.size];decide) ?_;rw [Uop.insX];exact hK)) | (go_wp2_with(go_at_call 24;refine(AL.out _).mono ?_;rintro e w' ⟨rfl,hb⟩;exact hK _ (hwq.trans (hb.mono hwq.size)));all_goals exact hK));rfl)
   |(refine' oC _ (by decide) (by decide) (by decide) (fun wq hwq K hK=>?_) ?_ ?_;rotate_left 1;(· have k0:=hwq.at_ zp c0;have k1:=hwq.at_ zp c1;have k11:=hwq.at_ zp c11;have k12:=hwq.at_ zp c12;have ka:=hwq.at_ zg ca;have kb:=hwq.at_ zg cb;first | ((refine wp_load_blk 68 _ rfl p 5 rfl 70 u.cells 5 _ (HP.out.ext hwq) Try.underlying68 rfl cins_info (by rw [Uop.size];decide) ?_;rw [Uop.insX];exact hK)) | (go_wp2_with(go_at_call 24;refine(AL.out _).mono ?_;rintro e w' ⟨rfl,hb⟩;exact hK _ (hwq.trans (hb.mono hwq.size)));all_goals exact hK _ hwq));rfl)
   |((first | refine oT rfl rfl rfl rfl ?_ ?_ | refine oF rfl rfl rfl rfl ?_ ?_)<;>intro hc<;>first | (cases hc;done) | ((try cases hc);simp only [Act.put,sA,sS,sZ]))
   |(refine oU rfl rfl rfl rfl ?_;(try simp only [Act.put,sA,sS,sZ])))
  refine wpO_nil ?_
  intro w1 hw1
  replace hw1:Below w.heap.size w w1:=by first | exact hw1 | (rw [hw1];exact(Below.refl _ _).drew)
  go_wp2_with(fail)
  go_ret
  exact⟨rfl,Turned.below hw1,L,cs,HI.out.ext hw1⟩
theorem CoreIs.setuop2 (h:CoreIs B w g C L ps cs) {k:Nat} (hp:ps[k]? = some p) (hl:k<C.ops.length) {u:Uop} (hu:Blk w p 70 u.cells) (r:Int) :
  CoreIs B ((w.setCell ⟨p,1,none⟩ (.int .i64 1)).setCell ⟨p,2,none⟩ (.int .i64 r)) g { C with ops:=C.ops.set k { u with state:=1,ready:=r } } L ps cs∧Blk ((w.setCell ⟨p,1,none⟩ (.int .i64 1)).setCell ⟨p,2,none⟩ (.int .i64 r)) p 70 (Uop.cells { u with state:=1,ready:=r })∧Turned B w ((w.setCell ⟨p,1,none⟩ (.int .i64 1)).setCell ⟨p,2,none⟩ (.int .i64 r)):=by
 have hB:=(h.uop_at hp).2.1
 have h1:=h.setuop hp hu 1 (.int .i64 1) (Uop.set_state u 1)
 have hu1:Blk (w.setCell ⟨p,1,none⟩ (.int .i64 1)) p 70 (Uop.cells { u with state:=1 }):=hu.set 1 (.int .i64 1)
 have h2:=h1.setuop hp hu1 2 (.int .i64 r) (Uop.set_ready { u with state:=1 } r)
 have hu2:Blk ((w.setCell ⟨p,1,none⟩ (.int .i64 1)).setCell ⟨p,2,none⟩ (.int .i64 r)) p 70 (Uop.cells { u with state:=1,ready:=r }):=hu1.set 2 (.int .i64 r)
 have e:(C.ops.set k { u with state:=1 }).set k { u with state:=1,ready:=r }=C.ops.set k { u with state:=1,ready:=r }:=List.set_set _
 refine⟨?_,hu2,(turned_uop hu hB (grownBy_setCell w ⟨p,1,none⟩ (.int .i64 1))).trans (turned_uop hu1 hB (grownBy_setCell _ ⟨p,2,none⟩ (.int .i64 r)))⟩
 have h3:CoreIs B _ g { C with ops:=(C.ops.set k { u with state:=1 }).set k { u with state:=1,ready:=r } } L ps cs:=h2
 rw [e] at h3
 exact h3
end
section
variable {B:Nat} {w:World} {g p:Nat} {C:Core} {L:Lay} {ps:List Nat} {cs:Array Value}
theorem begin_plain (h:CoreIs B w g C L ps cs) {k:Nat} (hp:ps[k]? = some p) (cycle head:Int) (ha:0≤(C.op k).a∧(C.op k).a<96) (hb:0≤(C.op k).b∧(C.op k).b<96) (hc0:0≤cycle) (hc1:cycle≤4611686018427387904)
  (hno:¬ ((C.op k).state≠0∨C.has (C.op k).a=false∨C.has (C.op k).b=false∨(aloneB (C.op k).ins=true∧(C.op k).seq≠head))) (hld:loadsB (C.op k).ins=false) :
  Calls Try.prog 16 #[.pointer (some ⟨g,0,none⟩), .pointer (some ⟨p,0,none⟩), .int .i64 cycle, .int .i64 head] w fun e w'=>e = .returned (.bool true)∧Turned B w w'∧∃ L' cs',CoreIs B w' g (beginP C k cycle head).2 L' ps cs':=by
 have hE:(beginP C k cycle head).2=if 38≤(C.op k).ins.op∧(C.op k).ins.op≤45 then { C with ops:=C.ops.set k { C.op k with state:=1,ready:=cycle+3 } } else { C with ops:=C.ops.set k { C.op k with state:=1,ready:=cycle+1 } }:=by
  unfold beginP
  dsimp only
  rw [if_neg hno,hld]
  split<;>rfl
 rw [hE]
 obtain⟨hu,hBp,hk,hg⟩:=h.uop_at hp
 clear hE
 generalize C.op k=u at *
 have c0:w.cell? ⟨p,0,none⟩=some (.int .i64 u.seq):=hu.cell 0
 have c1:w.cell? ⟨p,1,none⟩=some (.int .i64 u.state):=hu.cell 1
 have c11:w.cell? ⟨p,11,none⟩=some (.int .i64 u.a):=hu.cell 11
 have c12:w.cell? ⟨p,12,none⟩=some (.int .i64 u.b):=hu.cell 12
 unfold Core.has at hno
 obtain⟨a,e1⟩:=Int.eq_ofNat_of_zero_le ha.1
 obtain⟨b,e2⟩:=Int.eq_ofNat_of_zero_le hb.1
 rw [e1] at c11 ha hno
 rw [e2] at c12 hb hno
 have ca:=h.has (d:=a) (by omega)
 have cb:=h.has (d:=b) (by omega)
 simp only [Int.toNat_natCast] at hno
 generalize C.there.getD a false=ta at *
 generalize C.there.getD b false=tb at *
 have zp:=hu.lt
 have zg:=h.lt
 have HI:=Lib.hid h
 have HP:=Lib.hid hu
 have AL:=Lib.hid (fun W=>alone_any u.ins W)
 have LD:=Lib.hid (fun W=>loads_any u.ins W)
 rw [hld] at LD
 generalize aloneB u.ins=al at *
 have ha96:a<96:=by omega
 have hb96:b<96:=by omega
 obtain rfl:ta=true:=by
  cases ta
  ·exact absurd (Or.inr (Or.inl rfl)) hno
  ·rfl
 obtain rfl:tb=true:=by
  cases tb
  ·exact absurd (Or.inr (Or.inr (Or.inl rfl))) hno
  ·rfl
 have hst:u.state=0:=by
  by_cases q:u.state=0
  ·exact q
  ·exact absurd (Or.inl q) hno
 have q2:al=true→u.seq=head:=fun hal=>by
  by_cases q:u.seq=head
  ·exact q
  ·exact absurd (Or.inr (Or.inr (Or.inr ⟨hal,q⟩))) hno
 rw [hst] at c1
 clear h hu hg e1 e2 ha hb hno hld
 rcases al with _ | _
 focus
  clear q2
 rotate_left 1
 focus
  obtain rfl:u.seq=head:=q2 rfl
  clear q2
 rotate_left 1
 all_goals
  go_enter Try.func16,Try.ntmps16
  go_upto_region 1 with(fail)
  go_simp
  refine wp_region_ob 17016589106167 558417069064 17592186044415 [0,1,2,3,4,5,6,7,8,9,10,11,12,13,14,15,16,17,18,19,20,21,22,23,24,25,26,27,28,29,30,31,32,33,34,35,36,37,38,39,40,41,42,43] (by kernel_rfl) (by kernel_rfl) (by kernel_rfl) rfl ?_
  repeat'(first
   |refine oQ rfl rfl ?_
   |(refine' oE _ (by decide) (by decide) (fun wq K hK=>?_) ?_ ?_;rotate_left 1;(· go_wp2_with(fail);all_goals exact hK);rfl)
   |(refine' oR _ (by decide) (by decide) (by decide) (fun wq hwq K hK=>?_) ?_ ?_;rotate_left 1;(· have k0:=hwq.at_ zp c0;have k1:=hwq.at_ zp c1;have k11:=hwq.at_ zp c11;have k12:=hwq.at_ zp c12;have ka:=hwq.at_ zg ca;have kb:=hwq.at_ zg cb;first | ((refine wp_load_blk 68 _ rfl p 5 rfl 70 u.cells 5 _ (HP.out.ext hwq) Try.underlying68 rfl cins_info (by rw [Uop.size];decide) ?_;rw [Uop.insX];exact hK)) | (go_wp2_with(go_at_call 24;refine(AL.out _).mono ?_;rintro e w' ⟨rfl,hb⟩;exact hK _ (hwq.trans (hb.mono hwq.size)));all_goals exact hK));rfl)
   |(refine' oC _ (by decide) (by decide) (by decide) (fun wq hwq K hK=>?_) ?_ ?_;rotate_left 1;(· have k0:=hwq.at_ zp c0;have k1:=hwq.at_ zp c1;have k11:=hwq.at_ zp c11;have k12:=hwq.at_ zp c12;have ka:=hwq.at_ zg ca;have kb:=hwq.at_ zg cb;first | ((refine wp_load_blk 68 _ rfl p 5 rfl 70 u.cells 5 _ (HP.out.ext hwq) Try.underlying68 rfl cins_info (by rw [Uop.size];decide) ?_;rw [Uop.insX];exact hK)) | (go_wp2_with(go_at_call 24;refine(AL.out _).mono ?_;rintro e w' ⟨rfl,hb⟩;exact hK _ (hwq.trans (hb.mono hwq.size)));all_goals exact hK _ hwq));rfl)
   |((first | refine oT rfl rfl rfl rfl ?_ ?_ | refine oF rfl rfl rfl rfl ?_ ?_)<;>intro hc<;>first | (cases hc;done) | ((try cases hc);simp only [Act.put,sA,sS,sZ]))
   |(refine oU rfl rfl rfl rfl ?_;(try simp only [Act.put,sA,sS,sZ])))
  refine wpO_nil ?_
  intro w1 hw1
  replace hw1:Below w.heap.size w w1:=by first | exact hw1 | (rw [hw1];exact(Below.refl _ _).drew)
  have h1:=HI.out.ext hw1
  have hu1:=HP.out.ext hw1
  have d1:w1.cell? ⟨p,1,none⟩=some (.int .i64 u.state):=hu1.cell 1
  have d2:w1.cell? ⟨p,2,none⟩=some (.int .i64 u.ready):=hu1.cell 2
  have f1:=hu1.frozen 1
  have f2:=hu1.frozen 2
  have z1:=hu1.lt
  have HS:=Lib.hid (And.intro (h1.setuop2 hp hk hu1 (cycle+1)) (Turned.below (B:=B) hw1))
  clear h1 hu1 hw1 c0 c1 c11 c12 ca cb
  go_upto_region 4 with(fail)
  go_simp
  clear d1 d2 f1 f2 z1
  generalize (w1.setCell ⟨p,1,none⟩ (.int .i64 1)).setCell ⟨p,2,none⟩ (.int .i64 (cycle+1))=w3 at *
  obtain⟨⟨h3,hu3,ht3⟩,ht1⟩:=HS.out
  have c5:w3.cell? ⟨p,5,none⟩=some (.int .i64 u.ins.op):=hu3.cell 5
  have z3:=hu3.lt
  have HI3:=Lib.hid h3
  have HP3:=Lib.hid hu3
  have HT3:=Lib.hid (ht1.trans ht3)
  clear h3 hu3 ht3 ht1 HS zp zg HI HP AL
  by_cases q:38≤u.ins.op∧u.ins.op≤45
  ·obtain⟨q3,q4⟩:=q
   have e3:decide (38≤u.ins.op)=true:=decide_eq_true q3
   have e4:decide (u.ins.op≤45)=true:=decide_eq_true q4
   have d2:w3.cell? ⟨p,2,none⟩=some (.int .i64 (cycle+1)):=HP3.out.cell 2
   have f2:=HP3.out.frozen 2
   have hp3:ps[k]? = some p:=hp
   have h4:=HI3.out.setuop hp3 HP3.out 2 (.int .i64 (cycle+3)) (Uop.set_ready { u with state:=1,ready:=cycle+1 } (cycle+3))
   have HJ:=Lib.hid (And.intro h4 (HT3.out.trans (turned_uop HP3.out hBp (grownBy_setCell w3 ⟨p,2,none⟩ (.int .i64 (cycle+3))))))
   clear h4
   go_wp2_with(fail)
   go_ret
   refine⟨rfl,HJ.out.2,L,cs,?_⟩
   have hj:=HJ.out.1
   rw [show(C.ops.set k { u with state:=1,ready:=cycle+1 }).set k { u with state:=1,ready:=cycle+3 }=C.ops.set k { u with state:=1,ready:=cycle+3 } from List.set_set _] at hj
   exact hj
  ·have q':u.ins.op<38∨(38≤u.ins.op∧45<u.ins.op):=by omega
   have HQ:=Lib.hid q
   clear q
   rcases q' with q3 | ⟨q3,q4⟩
   ·have e3:decide (38≤u.ins.op)=false:=decide_eq_false (by omega)
    go_wp2_with(first
     |(refine wpList_load_blk rfl 68 _ rfl p 5 rfl 70 (Uop.cells { u with state:=1,ready:=cycle+1 }) 5 _ HP3.out Try.underlying68 rfl cins_info (by rw [Uop.size];decide) ?_;rw [Uop.insX])
     |(go_at_call 26;(with_reducible refine(LD.out _).mono ?_);rintro e w4 ⟨rfl,hb4⟩))
    go_ret
    refine⟨rfl,HT3.out.trans (Turned.below hb4),L,cs,?_⟩
    exact HI3.out.ext hb4
   ·have e3:decide (38≤u.ins.op)=true:=decide_eq_true q3
    have e4:decide (u.ins.op≤45)=false:=decide_eq_false (by omega)
    go_wp2_with(first
     |(refine wpList_load_blk rfl 68 _ rfl p 5 rfl 70 (Uop.cells { u with state:=1,ready:=cycle+1 }) 5 _ HP3.out Try.underlying68 rfl cins_info (by rw [Uop.size];decide) ?_;rw [Uop.insX])
     |(go_at_call 26;(with_reducible refine(LD.out _).mono ?_);rintro e w4 ⟨rfl,hb4⟩))
    go_ret
    refine⟨rfl,HT3.out.trans (Turned.below hb4),L,cs,?_⟩
    exact HI3.out.ext hb4
end
section
variable {B:Nat} {w:World} {g p:Nat} {C:Core} {L:Lay} {ps:List Nat} {cs:Array Value}
theorem begin_load (h:CoreIs B w g C L ps cs) {k:Nat} (hp:ps[k]? = some p) (cycle head:Int) (ha:0≤(C.op k).a∧(C.op k).a<96) (hb:0≤(C.op k).b∧(C.op k).b<96) (hc0:0≤cycle) (hc1:cycle≤4611686018427387904)
  (hno:¬ ((C.op k).state≠0∨C.has (C.op k).a=false∨C.has (C.op k).b=false∨(aloneB (C.op k).ins=true∧(C.op k).seq≠head))) (hld:loadsB (C.op k).ins=true) (ht:TabOk C.table) (hpc:0≤(C.op k).pc∧(C.op k).pc≤4294967295) (hsc:headP C.script≤9223372036854775807) (hd:(C.op k).dest<96) (hw96:C.words.length=96) (ht96:C.there.length=96) :
  Calls Try.prog 16 #[.pointer (some ⟨g,0,none⟩), .pointer (some ⟨p,0,none⟩), .int .i64 cycle, .int .i64 head] w fun e w'=>e = .returned (.bool true)∧Turned B w w'∧∃ L' cs',CoreIs B w' g (beginP C k cycle head).2 L' ps cs':=by
 have hE:(beginP C k cycle head).2=if 0<(C.op k).dest∧((valueP (vlOf C.table (C.op k).pc) (C.op k).pc).2=true∨headP C.script / 16%3=1) then { putW32 { C with script:=C.script.tail } (C.op k).dest (u32 ((valueP (vlOf C.table (C.op k).pc) (C.op k).pc).1+headP C.script / 64)) with ops:=C.ops.set k { C.op k with state:=1,ready:=cycle+1+headP C.script%9,guessed:=true } } else { C with script:=C.script.tail,ops:=C.ops.set k { C.op k with state:=1,ready:=cycle+1+headP C.script%9 } }:=by
  have hop:=loads_op.1 hld
  unfold beginP
  dsimp only
  rw [if_neg hno,if_neg (by omega),if_pos hld]
  split<;>rfl
 rw [hE]
 have hal:aloneB (C.op k).ins=false:=by
  have hop:=loads_op.1 hld
  unfold aloneB
  simp
  omega
 have hbg:=h.rows.base
 obtain⟨hu,hBp,hk,hg⟩:=h.uop_at hp
 clear hE
 generalize C.op k=u at *
 have c0:w.cell? ⟨p,0,none⟩=some (.int .i64 u.seq):=hu.cell 0
 have c1:w.cell? ⟨p,1,none⟩=some (.int .i64 u.state):=hu.cell 1
 have c11:w.cell? ⟨p,11,none⟩=some (.int .i64 u.a):=hu.cell 11
 have c12:w.cell? ⟨p,12,none⟩=some (.int .i64 u.b):=hu.cell 12
 unfold Core.has at hno
 obtain⟨a,e1⟩:=Int.eq_ofNat_of_zero_le ha.1
 obtain⟨b,e2⟩:=Int.eq_ofNat_of_zero_le hb.1
 rw [e1] at c11 ha hno
 rw [e2] at c12 hb hno
 have ca:=h.has (d:=a) (by omega)
 have cb:=h.has (d:=b) (by omega)
 simp only [Int.toNat_natCast] at hno
 generalize C.there.getD a false=ta at *
 generalize C.there.getD b false=tb at *
 have zp:=hu.lt
 have zg:=h.lt
 have HI:=Lib.hid h
 have HP:=Lib.hid hu
 have AL:=Lib.hid (fun W=>alone_any u.ins W)
 have LD:=Lib.hid (fun W=>loads_any u.ins W)
 rw [hld] at LD
 rw [hal] at AL
 have ha96:a<96:=by omega
 have hb96:b<96:=by omega
 obtain rfl:ta=true:=by
  cases ta
  ·exact absurd (Or.inr (Or.inl rfl)) hno
  ·rfl
 obtain rfl:tb=true:=by
  cases tb
  ·exact absurd (Or.inr (Or.inr (Or.inl rfl))) hno
  ·rfl
 have hst:u.state=0:=by
  by_cases q:u.state=0
  ·exact q
  ·exact absurd (Or.inl q) hno
 rw [hst] at c1
 obtain⟨hvw,hva⟩:=ht.vl_of u.pc
 have CV:=Lib.hid (fun W=>gvalue_any C.table (vlOf C.table u.pc) u.pc W hpc.1 hpc.2 ht.size hvw hva)
 clear hva
 generalize vlOf C.table u.pc=vl at *
 have hop:=loads_op.1 hld
 have hne:=blk_other hu h.blk (by decide)
 have hn0:=head_nonneg C.script
 have hd96:=hd
 clear hd
 clear h hu hg e1 e2 ha hb hno hld
 clear hal
 have HC0:∀ W C3 L3 cs3,C3.script=C.script→CoreIs B W g C3 L3 ps cs3→Calls Try.prog 34 #[.pointer (some ⟨g,0,none⟩)] W fun e w'=>e = .returned (.int .i64 (headP C.script))∧W.grownBy w' (some g)∧∃ L' cs',CoreIs B w' g { C3 with script:=C.script.tail } L' ps cs':=fun W C3 L3 cs3 hs h=>by
  rw [←hs]
  exact choice_any h
 generalize headP C.script=n at *
 generalize valueP vl u.pc=vp at *
 obtain⟨vv,ok⟩:=vp
 dsimp only at CV ⊢
 generalize hX0:(ite (0<u.dest∧(ok=true∨n / 16%3=1)) _ _:Core)=X0
 have HX0:=Lib.hid hX0
 replace HC0:=Lib.hid HC0
 clear hX0
 go_enter Try.func16,Try.ntmps16
 go_upto_region 1 with(fail)
 go_simp
 refine wp_region_ob 17016589106167 558417069064 17592186044415 [0,1,2,3,4,5,6,7,8,9,10,11,12,13,14,15,16,17,18,19,20,21,22,23,24,25,26,27,28,29,30,31,32,33,34,35,36,37,38,39,40,41,42,43] (by kernel_rfl) (by kernel_rfl) (by kernel_rfl) rfl ?_
 repeat'(first
  |refine oQ rfl rfl ?_
  |(refine' oE _ (by decide) (by decide) (fun wq K hK=>?_) ?_ ?_;rotate_left 1;(· go_wp2_with(fail);all_goals exact hK);rfl)
  |(refine' oR _ (by decide) (by decide) (by decide) (fun wq hwq K hK=>?_) ?_ ?_;rotate_left 1;(· have k0:=hwq.at_ zp c0;have k1:=hwq.at_ zp c1;have k11:=hwq.at_ zp c11;have k12:=hwq.at_ zp c12;have ka:=hwq.at_ zg ca;have kb:=hwq.at_ zg cb;first | ((refine wp_load_blk 68 _ rfl p 5 rfl 70 u.cells 5 _ (HP.out.ext hwq) Try.underlying68 rfl cins_info (by rw [Uop.size];decide) ?_;rw [Uop.insX];exact hK)) | (go_wp2_with(go_at_call 24;refine(AL.out _).mono ?_;rintro e w' ⟨rfl,hb⟩;exact hK _ (hwq.trans (hb.mono hwq.size)));all_goals exact hK));rfl)
  |(refine' oC _ (by decide) (by decide) (by decide) (fun wq hwq K hK=>?_) ?_ ?_;rotate_left 1;(· have k0:=hwq.at_ zp c0;have k1:=hwq.at_ zp c1;have k11:=hwq.at_ zp c11;have k12:=hwq.at_ zp c12;have ka:=hwq.at_ zg ca;have kb:=hwq.at_ zg cb;first | ((refine wp_load_blk 68 _ rfl p 5 rfl 70 u.cells 5 _ (HP.out.ext hwq) Try.underlying68 rfl cins_info (by rw [Uop.size];decide) ?_;rw [Uop.insX];exact hK)) | (go_wp2_with(go_at_call 24;refine(AL.out _).mono ?_;rintro e w' ⟨rfl,hb⟩;exact hK _ (hwq.trans (hb.mono hwq.size)));all_goals exact hK _ hwq));rfl)
  |((first | refine oT rfl rfl rfl rfl ?_ ?_ | refine oF rfl rfl rfl rfl ?_ ?_)<;>intro hc<;>first | (cases hc;done) | ((try cases hc);simp only [Act.put,sA,sS,sZ]))
  |(refine oU rfl rfl rfl rfl ?_;(try simp only [Act.put,sA,sS,sZ])))
 refine wpO_nil ?_
 intro w1 hw1
 replace hw1:Below w.heap.size w w1:=by first | exact hw1 | (rw [hw1];exact(Below.refl _ _).drew)
 have h1:=HI.out.ext hw1
 have hu1:=HP.out.ext hw1
 have d1:w1.cell? ⟨p,1,none⟩=some (.int .i64 u.state):=hu1.cell 1
 have d2:w1.cell? ⟨p,2,none⟩=some (.int .i64 u.ready):=hu1.cell 2
 have f1:=hu1.frozen 1
 have f2:=hu1.frozen 2
 have z1:=hu1.lt
 have HS:=Lib.hid (And.intro (h1.setuop2 hp hk hu1 (cycle+1)) (Turned.below (B:=B) hw1))
 clear h1 hu1 hw1 c0 c1 c11 c12 ca cb
 go_upto_region 4 with(fail)
 go_simp
 clear d1 d2 f1 f2 z1
 generalize (w1.setCell ⟨p,1,none⟩ (.int .i64 1)).setCell ⟨p,2,none⟩ (.int .i64 (cycle+1))=w3 at *
 obtain⟨⟨h3,hu3,ht3⟩,ht1⟩:=HS.out
 have c5:w3.cell? ⟨p,5,none⟩=some (.int .i64 u.ins.op):=hu3.cell 5
 have z3:=hu3.lt
 have HI3:=Lib.hid h3
 have HP3:=Lib.hid hu3
 have HT3:=Lib.hid (ht1.trans ht3)
 clear h3 hu3 ht3 ht1 HS zp zg HI HP AL
 have e3:decide (38≤u.ins.op)=false:=decide_eq_false (by omega)
 have HC:=Lib.hid (fun W (hb:Below w3.heap.size w3 W)=>HC0.out W { C with ops:=C.ops.set k { u with state:=1,ready:=cycle+1 } } L cs rfl (HI3.out.ext hb))
 go_upto_region 9 with(first
  |(refine wpList_load_blk rfl 68 _ rfl p 5 rfl 70 (Uop.cells { u with state:=1,ready:=cycle+1 }) 5 _ HP3.out Try.underlying68 rfl cins_info (by rw [Uop.size];decide) ?_;rw [Uop.insX])
  |(go_at_call 26;(with_reducible refine(LD.out _).mono ?_);rintro e w4 ⟨rfl,hb4⟩)
  |(go_at_call 34;(with_reducible refine(HC.out _ hb4).mono ?_);rintro e w5 ⟨rfl,hg5,L5,cs5,h5⟩))
 go_simp
 have HP5:=Lib.hid ((HP3.out.ext hb4).grown hg5 (by simpa using hne))
 have d2:w5.cell? ⟨p,2,none⟩=some (.int .i64 (cycle+1)):=HP5.out.cell 2
 have f2:=HP5.out.frozen 2
 have z5:=HP5.out.lt
 have h6:=h5.setuop hp HP5.out 2 (.int .i64 (cycle+1+n%9)) (Uop.set_ready { u with state:=1,ready:=cycle+1 } (cycle+1+n%9))
 have hu6:=HP5.out.set 2 (.int .i64 (cycle+1+n%9))
 have HJ:=Lib.hid (And.intro h6 (And.intro hu6 (((HT3.out.trans (Turned.below hb4)).trans ((HI3.out.ext hb4).turned hg5)).trans (turned_uop HP5.out hBp (grownBy_setCell w5 ⟨p,2,none⟩ (.int .i64 (cycle+1+n%9)))))))
 clear h6 hu6 h5
 go_upto_region 10 with(fail)
 go_simp
 clear d2 f2 z5
 generalize w5.setCell ⟨p,2,none⟩ (.int .i64 (cycle+1+n%9))=w6 at *
 obtain⟨h6,hu6,ht6⟩:=HJ.out
 have c3:w6.cell? ⟨p,3,none⟩=some (.int .u32 u.pc):=hu6.cell 3
 have z6:=hu6.lt
 have hT:=h6.cells.tabX ht.size
 have hsz6:=h6.cells.size
 have HT6:=Lib.hid hT
 have HB6:=Lib.hid h6.blk
 clear hT h6 hu6 ht6
 refine wp_region_ob 15991 136 16127 [0,1,2,3,4,5,6,7,8,9,10,11,12,13] (by kernel_rfl) (by kernel_rfl) (by kernel_rfl) rfl ?_
 repeat'(first
  |refine oQ rfl rfl ?_
  |(refine' oE _ (by decide) (by decide) (fun wq K hK=>?_) ?_ ?_;rotate_left 1;(· go_wp2_with(fail);all_goals exact hK);rfl)
  |(refine' oR _ (by decide) (by decide) (by decide) (fun wq hwq K hK=>?_) ?_ ?_;rotate_left 1;(· have k3:=hwq.at_ z6 c3;first | ((refine wp_load_blk 50 _ rfl g 44 rfl 60 _ 64 _ (HB6.out.ext hwq) Try.underlying50 rfl ctab_info (by rw [hsz6];decide) ?_;rw [HT6.out];exact hK)) | (go_wp2_with(fail);all_goals exact hK));rfl)
  |((first | refine oT rfl rfl rfl rfl ?_ ?_ | refine oF rfl rfl rfl rfl ?_ ?_)<;>intro hc<;>first | (cases hc;done) | ((try cases hc);simp only [Act.put,sA,sS,sZ]))
  |refine oU rfl rfl rfl rfl ?_)
 refine wpOW_solo (by decide) (by decide) (by decide) (by kernel_rfl) (fun w7 hw7 K1 hK1=>?_)
 have hb7:Below w6.heap.size w6 w7:=by rw [hw7];exact(Below.refl _ _).drew
 clear hw7
 go_wp2_with(go_at_call 35;(with_reducible refine(CV.out w7).mono ?_);rintro e w8 ⟨rfl,hb8⟩)
 refine hK1 _ _ (fun _=>True) trivial ?_
 simp only [Act.put,sA,sS,sZ]
 clear hK1 K1
 repeat'(first
  |refine oQ rfl rfl ?_
  |(refine' oE _ (by decide) (by decide) (fun wq K hK=>?_) ?_ ?_;rotate_left 1;(· go_wp2_with(fail);all_goals exact hK);rfl)
  |((first | refine oT rfl rfl rfl rfl ?_ ?_ | refine oF rfl rfl rfl rfl ?_ ?_)<;>intro hc<;>first | (cases hc;done) | ((try cases hc);simp only [Act.put,sA,sS,sZ]))
  |refine oU rfl rfl rfl rfl ?_)
 refine wpO_nil ?_
 rintro w9 hw9
 replace hb8:=hb7.trans (hb8.mono hb7.size)
 rw [←hw9] at hb8
 clear hw9 hb7
 obtain⟨h6,hu6,ht6⟩:=HJ.out
 have hu9:Blk w9 p 70 (Uop.cells { u with state:=1,ready:=cycle+1+n%9 }):=hu6.ext hb8
 have c13:w9.cell? ⟨p,13,none⟩=some (.int .i64 u.dest):=hu9.cell 13
 have z9:=hu9.lt
 have e6:(C.ops.set k { u with state:=1,ready:=cycle+1 }).set k { u with state:=1,ready:=cycle+1+n%9 }=C.ops.set k { u with state:=1,ready:=cycle+1+n%9 }:=List.set_set _
 have h9:CoreIs B w9 g { C with script:=C.script.tail,ops:=C.ops.set k { u with state:=1,ready:=cycle+1+n%9 } } L5 ps cs5:=by
  have h9:=h6.ext hb8
  rw [←e6]
  exact h9
 have HI9:=Lib.hid h9
 have HP9:=Lib.hid hu9
 have HT9:=Lib.hid (ht6.trans (Turned.below hb8))
 clear h6 hu6 ht6 hu9 h9 HJ e6 c3 z6 HT6 HB6 HP5 hb8 hsz6
 by_cases hd:0<u.dest
 ·have e13:decide (0<u.dest)=true:=decide_eq_true hd
  rcases ok with _ | _
  ·by_cases q:n / 16%3=1
   ·have q1:(n / 16%3==1)=true:=by simpa using q
    have c15:w9.cell? ⟨p,15,none⟩=some (.bool u.guessed):=HP9.out.cell 15
    have f15:=HP9.out.frozen 15
    have h10:=HI9.out.setuop hp HP9.out 15 (.bool true) (Uop.set_guessed { u with state:=1,ready:=cycle+1+n%9 } true)
    have hu10:=HP9.out.set 15 (.bool true)
    have HJ:=Lib.hid (And.intro h10 (And.intro hu10 (HT9.out.trans (turned_uop HP9.out hBp (grownBy_setCell w9 ⟨p,15,none⟩ (.bool true))))))
    clear h10 hu10
    go_upto_region 13 with(fail)
    go_simp
    clear c15 f15 c13 z9
    generalize w9.setCell ⟨p,15,none⟩ (.bool true)=w10 at *
    obtain⟨h10,hu10,ht10⟩:=HJ.out
    have hu10:Blk w10 p 70 (Uop.cells { u with state:=1,ready:=cycle+1+n%9,guessed:=true }):=hu10
    have e10:(C.ops.set k { u with state:=1,ready:=cycle+1+n%9 }).set k { u with state:=1,ready:=cycle+1+n%9,guessed:=true }=C.ops.set k { u with state:=1,ready:=cycle+1+n%9,guessed:=true }:=List.set_set _
    have h11:CoreIs B w10 g { C with script:=C.script.tail,ops:=C.ops.set k { u with state:=1,ready:=cycle+1+n%9,guessed:=true } } L5 ps cs5:=by
     rw [←e10]
     exact h10
    have HX:=Lib.hid (show u32 (vv+n / 64)=(vv+n / 64)%4294967296 from rfl)
    have CG:=Lib.hid (fun x=>cgive_any h11 hu10 hd96 hw96 ht96 x)
    have HT10:=Lib.hid ht10
    have HB10:=Lib.hid h11.blk
    clear h10 hu10 ht10 h11 e10 HJ
    go_wp2_with(go_at_call 29;(with_reducible refine(CG.out _).mono ?_);rintro e w11 ⟨rfl,hg11,cs11,h11⟩)
    go_ret
    refine⟨rfl,HT10.out.trans (Turned.grown hg11 fun k hk=>by cases hk;exact⟨hbg,_,_,_,HB10.out,rfl⟩),L5,cs11,?_⟩
    rw [←HX0.out,if_pos ⟨hd,Or.inr q⟩,HX.out]
    unfold putW32 at h11 ⊢
    rw [if_pos hd] at h11 ⊢
    exact h11
   ·have q1:(n / 16%3==1)=false:=by simpa using q
    have HQ:=Lib.hid q
    have HDN:=Lib.hid hd
    clear q hd
    go_wp2_with(fail)
    go_ret
    refine⟨rfl,HT9.out,L5,cs5,?_⟩
    rw [←HX0.out,if_neg (fun hh=>by rcases hh.2 with hh | hh;exact absurd hh (by decide);exact HQ.out hh)]
    exact HI9.out
  ·skip
   have c15:w9.cell? ⟨p,15,none⟩=some (.bool u.guessed):=HP9.out.cell 15
   have f15:=HP9.out.frozen 15
   have h10:=HI9.out.setuop hp HP9.out 15 (.bool true) (Uop.set_guessed { u with state:=1,ready:=cycle+1+n%9 } true)
   have hu10:=HP9.out.set 15 (.bool true)
   have HJ:=Lib.hid (And.intro h10 (And.intro hu10 (HT9.out.trans (turned_uop HP9.out hBp (grownBy_setCell w9 ⟨p,15,none⟩ (.bool true))))))
   clear h10 hu10
   go_upto_region 13 with(fail)
   go_simp
   clear c15 f15 c13 z9
   generalize w9.setCell ⟨p,15,none⟩ (.bool true)=w10 at *
   obtain⟨h10,hu10,ht10⟩:=HJ.out
   have hu10:Blk w10 p 70 (Uop.cells { u with state:=1,ready:=cycle+1+n%9,guessed:=true }):=hu10
   have e10:(C.ops.set k { u with state:=1,ready:=cycle+1+n%9 }).set k { u with state:=1,ready:=cycle+1+n%9,guessed:=true }=C.ops.set k { u with state:=1,ready:=cycle+1+n%9,guessed:=true }:=List.set_set _
   have h11:CoreIs B w10 g { C with script:=C.script.tail,ops:=C.ops.set k { u with state:=1,ready:=cycle+1+n%9,guessed:=true } } L5 ps cs5:=by
    rw [←e10]
    exact h10
   have HX:=Lib.hid (show u32 (vv+n / 64)=(vv+n / 64)%4294967296 from rfl)
   have CG:=Lib.hid (fun x=>cgive_any h11 hu10 hd96 hw96 ht96 x)
   have HT10:=Lib.hid ht10
   have HB10:=Lib.hid h11.blk
   clear h10 hu10 ht10 h11 e10 HJ
   go_wp2_with(go_at_call 29;(with_reducible refine(CG.out _).mono ?_);rintro e w11 ⟨rfl,hg11,cs11,h11⟩)
   go_ret
   refine⟨rfl,HT10.out.trans (Turned.grown hg11 fun k hk=>by cases hk;exact⟨hbg,_,_,_,HB10.out,rfl⟩),L5,cs11,?_⟩
   rw [←HX0.out,if_pos ⟨hd,by simp⟩,HX.out]
   unfold putW32 at h11 ⊢
   rw [if_pos hd] at h11 ⊢
   exact h11
 ·have e13:decide (0<u.dest)=false:=decide_eq_false hd
  have HDN:=Lib.hid hd
  clear hd
  go_wp2_with(fail)
  go_ret
  refine⟨rfl,HT9.out,L5,cs5,?_⟩
  rw [←HX0.out,if_neg (fun hh=>by have h1:=HDN.out;have h2:=hh.1;omega)]
  exact HI9.out
end
section
variable {B:Nat} {w:World} {g p:Nat} {C:Core} {L:Lay} {ps:List Nat} {cs:Array Value}
theorem head_bd {l:List Int} (h:∀ x∈l,x≤9223372036854775807):headP l≤9223372036854775807:=by
 unfold headP
 split
 ·decide
 ·rename_i n r
  have:=h n (by simp)
  omega
theorem begin_all (h:CoreIs B w g C L ps cs) (hI:Inv C) {k:Nat} (hp:ps[k]? = some p) (cycle head:Int) (hc0:0≤cycle) (hc1:cycle≤4611686018427387904) (hs:∀ x∈C.script,x≤9223372036854775807) :
  Calls Try.prog 16 #[.pointer (some ⟨g,0,none⟩), .pointer (some ⟨p,0,none⟩), .int .i64 cycle, .int .i64 head] w fun e w'=>e = .returned (.bool (beginP C k cycle head).1)∧Turned B w w'∧∃ L' cs',CoreIs B w' g (beginP C k cycle head).2 L' ps cs':=by
 obtain⟨_,_,hk,hg⟩:=h.uop_at hp
 have hf:=hI.uf (C.op k) (List.mem_of_getElem? hg)
 by_cases hno:(C.op k).state≠0∨C.has (C.op k).a=false∨C.has (C.op k).b=false∨(aloneB (C.op k).ins=true∧(C.op k).seq≠head)
 ·rw [beginP_no C k cycle head hno]
  exact begin_no h hp cycle head hf.a hf.b hno
 ·have h1:(beginP C k cycle head).1=true:=by
   unfold beginP
   dsimp only
   rw [if_neg hno]
   split
   ·rfl
   split
   ·split<;>rfl
   ·rfl
  rw [h1]
  rcases hl:loadsB (C.op k).ins with _ | _
  ·exact begin_plain h hp cycle head hf.a hf.b hc0 hc1 hno hl
  ·exact begin_load h hp cycle head hf.a hf.b hc0 hc1 hno hl hI.tab hf.pc (head_bd hs) hf.dest.2 hI.words.1 hI.there
end
end Go.Proofs.Ytapgojgcmlnbgac
