/- Parts of a proof. -/
import Derived.Test.YtapgojgcmlnbgaaGreatDoorTZ
import Derived.Test.YtapgojgcmlnbgaaGreatDoorT02
import Derived.Test.YtapgojgcmlnbgaaGreatDoorT09
import Derived.Test.YtapgojgcmlnbgaaGreatDoorT08
import Derived.Test.YtapgojgcmlnbgaaGreatDoorT11
import Derived.Test.YtapgojgcmlnbgaaGreatDoorT03
set_option linter.unusedSimpArgs false
set_option linter.unusedVariables false
set_option maxRecDepth 100000
set_option maxHeartbeats 16000000
namespace Go.Proofs.YtapgojgcmlnbgaaGreatDoor
open Go.RowKit
section
variable {B:Nat} {w:World} {g p:Nat} {C:Core} {L:Lay} {ps:List Nat} {cs:Array Value}
theorem Ae1 (C:Core) (k:Nat) (cycle head:Int) (h:(C.op k).state≠0∨C.has (C.op k).a=false∨C.has (C.op k).b=false∨(Ba (C.op k).ins=true∧(C.op k).seq≠head)):Cb C k cycle head=(false,C):=by
 unfold Cb
 dsimp only
 rw [if_pos h]
theorem Ahd (h:Af B w g C L ps cs) {k:Nat} (hp:ps[k]? = some p) (cycle head:Int) (ha:0≤(C.op k).a∧(C.op k).a<96) (hb:0≤(C.op k).b∧(C.op k).b<96)
  (hno:(C.op k).state≠0∨C.has (C.op k).a=false∨C.has (C.op k).b=false∨(Ba (C.op k).ins=true∧(C.op k).seq≠head)) :
  Calls Tryz.prog 39 #[.pointer (some ⟨g,0,none⟩), .pointer (some ⟨p,0,none⟩), .int .i64 cycle, .int .i64 head] w fun e w'=>e = .returned (.bool false)∧Ah B w w'∧∃ L' cs',Af B w' g C L' ps cs':=by
 obtain⟨hu,hBp,hk,hg⟩:=h.uop_at hp
 generalize C.op k=u at *
 have c0:w.cell? ⟨p,0,none⟩=some (.int .i64 u.seq):=hu.cell 0
 have c1:w.cell? ⟨p,1,none⟩=some (.int .i64 u.state):=hu.cell 1
 have c11:w.cell? ⟨p,11,none⟩=some (.int .i64 u.a):=hu.cell 11
 have c12:w.cell? ⟨p,12,none⟩=some (.int .i64 u.b):=hu.cell 12
 unfold Core.has at hno
 obtain⟨a,e1⟩:=qH ha.1
 obtain⟨b,e2⟩:=qH hb.1
 rw [e1] at c11 ha hno
 rw [e2] at c12 hb hno
 have ca:=h.has (d:=a) (by omega)
 have cb:=h.has (d:=b) (by omega)
 simp only [Int.toNat_natCast] at hno
 generalize C.there.getD a false=ta at *
 generalize C.there.getD b false=tb at *
 have zp:=hu.lt
 have zg:=h.lt
 have HI:=qA h
 have HP:=qA hu
 have AL:=qA (fun W=>Ij u.ins W)
 generalize Ba u.ins=al at *
 have ha96:a<96:=by omega
 have hb96:b<96:=by omega
 clear h hu hg e1 e2 ha hb
 generalize u.seq=sq at *
 generalize u.state=st at *
 by_cases q1:st=0
 focus
  subst q1
  rcases ta with _ | _
  focus
   clear hno
  rotate_left 1
  rcases tb with _ | _
  focus
   clear hno
  rotate_left 1
  obtain⟨rfl,q2⟩:al=true∧sq≠head:=by simpa using hno
  have q2':(sq != head)=true:=by simpa using q2
  clear hno
  rotate_left 1
  rotate_left 2
 rotate_left 3
 focus
  have q1':(st != 0)=true:=by simpa using q1
  clear hno
 rotate_left 1
 all_goals
  go_enter Tryz.func39,Tryz.ntmps39
  go_upto_region 1 with(fail)
  go_simp
  refine Ad 17016589106167 558417069064 17592186044415 [0,1,2,3,4,5,6,7,8,9,10,11,12,13,14,15,16,17,18,19,20,21,22,23,24,25,26,27,28,29,30,31,32,33,34,35,36,37,38,39,40,41,42,43] (by kernel_rfl) (by kernel_rfl) (by kernel_rfl) rfl ?_
  repeat'(first
   |refine oQ rfl rfl ?_
   |(refine' oE _ (by decide) (by decide) (fun wq K hK=>?_) ?_ ?_;rotate_left 1;(· go_wp2_with(fail);all_goals exact hK);rfl)
   |(refine' oR _ (by decide) (by decide) (by decide) (fun wq hwq K hK=>?_) ?_ ?_;rotate_left 1;(· have k0:=hwq.at_ zp c0;have k1:=hwq.at_ zp c1;have k11:=hwq.at_ zp c11;have k12:=hwq.at_ zp c12;have ka:=hwq.at_ zg ca;have kb:=hwq.at_ zg cb;first | ((refine Az 53 _ rfl p 5 rfl 107 u.cells 5 _ (HP.out.ext hwq) Tryz.underlying53 rfl Au (by rw [Uop.size];decide) ?_;rw [Uop.insX];exact hK)) | (go_wp2_with(go_at_call 63;refine(AL.out _).mono ?_;rintro e w' ⟨rfl,hb⟩;exact hK _ (hwq.trans (hb.mono hwq.size)));all_goals exact hK));rfl)
   |(refine' oC _ (by decide) (by decide) (by decide) (fun wq hwq K hK=>?_) ?_ ?_;rotate_left 1;(· have k0:=hwq.at_ zp c0;have k1:=hwq.at_ zp c1;have k11:=hwq.at_ zp c11;have k12:=hwq.at_ zp c12;have ka:=hwq.at_ zg ca;have kb:=hwq.at_ zg cb;first | ((refine Az 53 _ rfl p 5 rfl 107 u.cells 5 _ (HP.out.ext hwq) Tryz.underlying53 rfl Au (by rw [Uop.size];decide) ?_;rw [Uop.insX];exact hK)) | (go_wp2_with(go_at_call 63;refine(AL.out _).mono ?_;rintro e w' ⟨rfl,hb⟩;exact hK _ (hwq.trans (hb.mono hwq.size)));all_goals exact hK _ hwq));rfl)
   |((first | refine oT rfl rfl rfl rfl ?_ ?_ | refine oF rfl rfl rfl rfl ?_ ?_)<;>intro hc<;>first | (cases hc;done) | ((try cases hc);simp only [Act.put,sA,sS,sZ]))
   |(refine oU rfl rfl rfl rfl ?_;(try simp only [Act.put,sA,sS,sZ])))
  refine Aj ?_
  intro w1 hw1
  replace hw1:Below w.heap.size w w1:=by first | exact hw1 | (rw [hw1];exact(qB _ _).drew)
  go_wp2_with(fail)
  go_ret
  exact⟨rfl,Ah.below hw1,L,cs,HI.out.ext hw1⟩
theorem Af.setuop2 (h:Af B w g C L ps cs) {k:Nat} (hp:ps[k]? = some p) (hl:k<C.ops.length) {u:Uop} (hu:Blk w p 107 u.cells) (r:Int) :
  Af B ((w.setCell ⟨p,1,none⟩ (.int .i64 1)).setCell ⟨p,2,none⟩ (.int .i64 r)) g { C with ops:=C.ops.set k { u with state:=1,ready:=r } } L ps cs∧Blk ((w.setCell ⟨p,1,none⟩ (.int .i64 1)).setCell ⟨p,2,none⟩ (.int .i64 r)) p 107 (Uop.cells { u with state:=1,ready:=r })∧Ah B w ((w.setCell ⟨p,1,none⟩ (.int .i64 1)).setCell ⟨p,2,none⟩ (.int .i64 r)):=by
 have hB:=(h.uop_at hp).2.1
 have h1:=h.setuop hp hu 1 (.int .i64 1) (Uop.set_state u 1)
 have hu1:Blk (w.setCell ⟨p,1,none⟩ (.int .i64 1)) p 107 (Uop.cells { u with state:=1 }):=hu.set 1 (.int .i64 1)
 have h2:=h1.setuop hp hu1 2 (.int .i64 r) (Uop.set_ready { u with state:=1 } r)
 have hu2:Blk ((w.setCell ⟨p,1,none⟩ (.int .i64 1)).setCell ⟨p,2,none⟩ (.int .i64 r)) p 107 (Uop.cells { u with state:=1,ready:=r }):=hu1.set 2 (.int .i64 r)
 have e:(C.ops.set k { u with state:=1 }).set k { u with state:=1,ready:=r }=C.ops.set k { u with state:=1,ready:=r }:=List.set_set _
 refine⟨?_,hu2,(Cc hu hB (grownBy_setCell w ⟨p,1,none⟩ (.int .i64 1))).trans (Cc hu1 hB (grownBy_setCell _ ⟨p,2,none⟩ (.int .i64 r)))⟩
 have h3:Af B _ g { C with ops:=(C.ops.set k { u with state:=1 }).set k { u with state:=1,ready:=r } } L ps cs:=h2
 rw [e] at h3
 exact h3
end
section
variable {B:Nat} {w:World} {g p:Nat} {C:Core} {L:Lay} {ps:List Nat} {cs:Array Value}
theorem Z3 (h:Af B w g C L ps cs) {k:Nat} (hp:ps[k]? = some p) (cycle head:Int) (ha:0≤(C.op k).a∧(C.op k).a<96) (hb:0≤(C.op k).b∧(C.op k).b<96) (hc0:0≤cycle) (hc1:cycle≤4611686018427387904)
  (hno:¬ ((C.op k).state≠0∨C.has (C.op k).a=false∨C.has (C.op k).b=false∨(Ba (C.op k).ins=true∧(C.op k).seq≠head))) (hld:Bp (C.op k).ins=false) :
  Calls Tryz.prog 39 #[.pointer (some ⟨g,0,none⟩), .pointer (some ⟨p,0,none⟩), .int .i64 cycle, .int .i64 head] w fun e w'=>e = .returned (.bool true)∧Ah B w w'∧∃ L' cs',Af B w' g (Cb C k cycle head).2 L' ps cs':=by
 have hE:(Cb C k cycle head).2=if 38≤(C.op k).ins.op∧(C.op k).ins.op≤45 then { C with ops:=C.ops.set k { C.op k with state:=1,ready:=cycle+3 } } else { C with ops:=C.ops.set k { C.op k with state:=1,ready:=cycle+1 } }:=by
  unfold Cb
  dsimp only
  rw [if_neg hno,hld]
  split<;>rfl
 rw [hE]
 obtain⟨hu,hBp,hk,hg⟩:=h.uop_at hp
 clear hE
 generalize C.op k=u at *
 have c0:w.cell? ⟨p,0,none⟩=some (.int .i64 u.seq):=hu.cell 0
 have c1:w.cell? ⟨p,1,none⟩=some (.int .i64 u.state):=hu.cell 1
 have c11:w.cell? ⟨p,11,none⟩=some (.int .i64 u.a):=hu.cell 11
 have c12:w.cell? ⟨p,12,none⟩=some (.int .i64 u.b):=hu.cell 12
 unfold Core.has at hno
 obtain⟨a,e1⟩:=qH ha.1
 obtain⟨b,e2⟩:=qH hb.1
 rw [e1] at c11 ha hno
 rw [e2] at c12 hb hno
 have ca:=h.has (d:=a) (by omega)
 have cb:=h.has (d:=b) (by omega)
 simp only [Int.toNat_natCast] at hno
 generalize C.there.getD a false=ta at *
 generalize C.there.getD b false=tb at *
 have zp:=hu.lt
 have zg:=h.lt
 have HI:=qA h
 have HP:=qA hu
 have AL:=qA (fun W=>Ij u.ins W)
 have LD:=qA (fun W=>Io u.ins W)
 rw [hld] at LD
 generalize Ba u.ins=al at *
 have ha96:a<96:=by omega
 have hb96:b<96:=by omega
 obtain rfl:ta=true:=by
  cases ta
  ·exact absurd (Or.inr (Or.inl rfl)) hno
  ·rfl
 obtain rfl:tb=true:=by
  cases tb
  ·exact absurd (Or.inr (Or.inr (Or.inl rfl))) hno
  ·rfl
 have hst:u.state=0:=by
  by_cases q:u.state=0
  ·exact q
  ·exact absurd (Or.inl q) hno
 have q2:al=true→u.seq=head:=fun hal=>by
  by_cases q:u.seq=head
  ·exact q
  ·exact absurd (Or.inr (Or.inr (Or.inr ⟨hal,q⟩))) hno
 rw [hst] at c1
 clear h hu hg e1 e2 ha hb hno hld
 rcases al with _ | _
 focus
  clear q2
 rotate_left 1
 focus
  obtain rfl:u.seq=head:=q2 rfl
  clear q2
 rotate_left 1
 all_goals
  go_enter Tryz.func39,Tryz.ntmps39
  go_upto_region 1 with(fail)
  go_simp
  refine Ad 17016589106167 558417069064 17592186044415 [0,1,2,3,4,5,6,7,8,9,10,11,12,13,14,15,16,17,18,19,20,21,22,23,24,25,26,27,28,29,30,31,32,33,34,35,36,37,38,39,40,41,42,43] (by kernel_rfl) (by kernel_rfl) (by kernel_rfl) rfl ?_
  repeat'(first
   |refine oQ rfl rfl ?_
   |(refine' oE _ (by decide) (by decide) (fun wq K hK=>?_) ?_ ?_;rotate_left 1;(· go_wp2_with(fail);all_goals exact hK);rfl)
   |(refine' oR _ (by decide) (by decide) (by decide) (fun wq hwq K hK=>?_) ?_ ?_;rotate_left 1;(· have k0:=hwq.at_ zp c0;have k1:=hwq.at_ zp c1;have k11:=hwq.at_ zp c11;have k12:=hwq.at_ zp c12;have ka:=hwq.at_ zg ca;have kb:=hwq.at_ zg cb;first | ((refine Az 53 _ rfl p 5 rfl 107 u.cells 5 _ (HP.out.ext hwq) Tryz.underlying53 rfl Au (by rw [Uop.size];decide) ?_;rw [Uop.insX];exact hK)) | (go_wp2_with(go_at_call 63;refine(AL.out _).mono ?_;rintro e w' ⟨rfl,hb⟩;exact hK _ (hwq.trans (hb.mono hwq.size)));all_goals exact hK));rfl)
   |(refine' oC _ (by decide) (by decide) (by decide) (fun wq hwq K hK=>?_) ?_ ?_;rotate_left 1;(· have k0:=hwq.at_ zp c0;have k1:=hwq.at_ zp c1;have k11:=hwq.at_ zp c11;have k12:=hwq.at_ zp c12;have ka:=hwq.at_ zg ca;have kb:=hwq.at_ zg cb;first | ((refine Az 53 _ rfl p 5 rfl 107 u.cells 5 _ (HP.out.ext hwq) Tryz.underlying53 rfl Au (by rw [Uop.size];decide) ?_;rw [Uop.insX];exact hK)) | (go_wp2_with(go_at_call 63;refine(AL.out _).mono ?_;rintro e w' ⟨rfl,hb⟩;exact hK _ (hwq.trans (hb.mono hwq.size)));all_goals exact hK _ hwq));rfl)
   |((first | refine oT rfl rfl rfl rfl ?_ ?_ | refine oF rfl rfl rfl rfl ?_ ?_)<;>intro hc<;>first | (cases hc;done) | ((try cases hc);simp only [Act.put,sA,sS,sZ]))
   |(refine oU rfl rfl rfl rfl ?_;(try simp only [Act.put,sA,sS,sZ])))
  refine Aj ?_
  intro w1 hw1
  replace hw1:Below w.heap.size w w1:=by first | exact hw1 | (rw [hw1];exact(qB _ _).drew)
  have h1:=HI.out.ext hw1
  have hu1:=HP.out.ext hw1
  have d1:w1.cell? ⟨p,1,none⟩=some (.int .i64 u.state):=hu1.cell 1
  have d2:w1.cell? ⟨p,2,none⟩=some (.int .i64 u.ready):=hu1.cell 2
  have f1:=hu1.frozen 1
  have f2:=hu1.frozen 2
  have z1:=hu1.lt
  have HS:=qA (qL (h1.setuop2 hp hk hu1 (cycle+1)) (Ah.below (B:=B) hw1))
  clear h1 hu1 hw1 c0 c1 c11 c12 ca cb
  go_upto_region 4 with(fail)
  go_simp
  clear d1 d2 f1 f2 z1
  generalize (w1.setCell ⟨p,1,none⟩ (.int .i64 1)).setCell ⟨p,2,none⟩ (.int .i64 (cycle+1))=w3 at *
  obtain⟨⟨h3,hu3,ht3⟩,ht1⟩:=HS.out
  have c5:w3.cell? ⟨p,5,none⟩=some (.int .i64 u.ins.op):=hu3.cell 5
  have z3:=hu3.lt
  have HI3:=qA h3
  have HP3:=qA hu3
  have HT3:=qA (ht1.trans ht3)
  clear h3 hu3 ht3 ht1 HS zp zg HI HP AL
  by_cases q:38≤u.ins.op∧u.ins.op≤45
  ·obtain⟨q3,q4⟩:=q
   have e3:decide (38≤u.ins.op)=true:=qF q3
   have e4:decide (u.ins.op≤45)=true:=qF q4
   have d2:w3.cell? ⟨p,2,none⟩=some (.int .i64 (cycle+1)):=HP3.out.cell 2
   have f2:=HP3.out.frozen 2
   have hp3:ps[k]? = some p:=hp
   have h4:=HI3.out.setuop hp3 HP3.out 2 (.int .i64 (cycle+3)) (Uop.set_ready { u with state:=1,ready:=cycle+1 } (cycle+3))
   have HJ:=qA (qL h4 (HT3.out.trans (Cc HP3.out hBp (grownBy_setCell w3 ⟨p,2,none⟩ (.int .i64 (cycle+3))))))
   clear h4
   go_wp2_with(fail)
   go_ret
   refine⟨rfl,HJ.out.2,L,cs,?_⟩
   have hj:=HJ.out.1
   rw [show(C.ops.set k { u with state:=1,ready:=cycle+1 }).set k { u with state:=1,ready:=cycle+3 }=C.ops.set k { u with state:=1,ready:=cycle+3 } from List.set_set _] at hj
   exact hj
  ·have q':u.ins.op<38∨(38≤u.ins.op∧45<u.ins.op):=by omega
   have HQ:=qA q
   clear q
   rcases q' with q3 | ⟨q3,q4⟩
   ·have e3:decide (38≤u.ins.op)=false:=qG (by omega)
    go_wp2_with(first
     |(refine Ai rfl 53 _ rfl p 5 rfl 107 (Uop.cells { u with state:=1,ready:=cycle+1 }) 5 _ HP3.out Tryz.underlying53 rfl Au (by rw [Uop.size];decide) ?_;rw [Uop.insX])
     |(go_at_call 65;(with_reducible refine(LD.out _).mono ?_);rintro e w4 ⟨rfl,hb4⟩))
    go_ret
    refine⟨rfl,HT3.out.trans (Ah.below hb4),L,cs,?_⟩
    exact HI3.out.ext hb4
   ·have e3:decide (38≤u.ins.op)=true:=qF q3
    have e4:decide (u.ins.op≤45)=false:=qG (by omega)
    go_wp2_with(first
     |(refine Ai rfl 53 _ rfl p 5 rfl 107 (Uop.cells { u with state:=1,ready:=cycle+1 }) 5 _ HP3.out Tryz.underlying53 rfl Au (by rw [Uop.size];decide) ?_;rw [Uop.insX])
     |(go_at_call 65;(with_reducible refine(LD.out _).mono ?_);rintro e w4 ⟨rfl,hb4⟩))
    go_ret
    refine⟨rfl,HT3.out.trans (Ah.below hb4),L,cs,?_⟩
    exact HI3.out.ext hb4
end
section
variable {B:Nat} {w:World} {g p:Nat} {C:Core} {L:Lay} {ps:List Nat} {cs:Array Value}
theorem Ace (h:Af B w g C L ps cs) {k:Nat} (hp:ps[k]? = some p) (cycle head:Int) (ha:0≤(C.op k).a∧(C.op k).a<96) (hb:0≤(C.op k).b∧(C.op k).b<96) (hc0:0≤cycle) (hc1:cycle≤4611686018427387904)
  (hno:¬ ((C.op k).state≠0∨C.has (C.op k).a=false∨C.has (C.op k).b=false∨(Ba (C.op k).ins=true∧(C.op k).seq≠head))) (hld:Bp (C.op k).ins=true) (ht:E9 C.table) (hpc:0≤(C.op k).pc∧(C.op k).pc≤4294967295) (hsc:Hj C.script≤9223372036854775807) (hd:(C.op k).dest<96) (hw96:C.words.length=96) (ht96:C.there.length=96) :
  Calls Tryz.prog 39 #[.pointer (some ⟨g,0,none⟩), .pointer (some ⟨p,0,none⟩), .int .i64 cycle, .int .i64 head] w fun e w'=>e = .returned (.bool true)∧Ah B w w'∧∃ L' cs',Af B w' g (Cb C k cycle head).2 L' ps cs':=by
 have hE:(Cb C k cycle head).2=if 0<(C.op k).dest∧((Ld (P1 C.table (C.op k).pc) (C.op k).pc).2=true∨Hj C.script / 16%3=1) then { Di { C with script:=C.script.tail } (C.op k).dest (u32 ((Ld (P1 C.table (C.op k).pc) (C.op k).pc).1+Hj C.script / 64)) with ops:=C.ops.set k { C.op k with state:=1,ready:=cycle+1+Hj C.script%9,guessed:=true } } else { C with script:=C.script.tail,ops:=C.ops.set k { C.op k with state:=1,ready:=cycle+1+Hj C.script%9 } }:=by
  have hop:=D5.1 hld
  unfold Cb
  dsimp only
  rw [if_neg hno,if_neg (by omega),if_pos hld]
  split<;>rfl
 rw [hE]
 have hal:Ba (C.op k).ins=false:=by
  have hop:=D5.1 hld
  unfold Ba
  simp
  omega
 have hbg:=h.rows.base
 obtain⟨hu,hBp,hk,hg⟩:=h.uop_at hp
 clear hE
 generalize C.op k=u at *
 have c0:w.cell? ⟨p,0,none⟩=some (.int .i64 u.seq):=hu.cell 0
 have c1:w.cell? ⟨p,1,none⟩=some (.int .i64 u.state):=hu.cell 1
 have c11:w.cell? ⟨p,11,none⟩=some (.int .i64 u.a):=hu.cell 11
 have c12:w.cell? ⟨p,12,none⟩=some (.int .i64 u.b):=hu.cell 12
 unfold Core.has at hno
 obtain⟨a,e1⟩:=qH ha.1
 obtain⟨b,e2⟩:=qH hb.1
 rw [e1] at c11 ha hno
 rw [e2] at c12 hb hno
 have ca:=h.has (d:=a) (by omega)
 have cb:=h.has (d:=b) (by omega)
 simp only [Int.toNat_natCast] at hno
 generalize C.there.getD a false=ta at *
 generalize C.there.getD b false=tb at *
 have zp:=hu.lt
 have zg:=h.lt
 have HI:=qA h
 have HP:=qA hu
 have AL:=qA (fun W=>Ij u.ins W)
 have LD:=qA (fun W=>Io u.ins W)
 rw [hld] at LD
 rw [hal] at AL
 have ha96:a<96:=by omega
 have hb96:b<96:=by omega
 obtain rfl:ta=true:=by
  cases ta
  ·exact absurd (Or.inr (Or.inl rfl)) hno
  ·rfl
 obtain rfl:tb=true:=by
  cases tb
  ·exact absurd (Or.inr (Or.inr (Or.inl rfl))) hno
  ·rfl
 have hst:u.state=0:=by
  by_cases q:u.state=0
  ·exact q
  ·exact absurd (Or.inl q) hno
 rw [hst] at c1
 obtain⟨hvw,hva⟩:=ht.vl_of u.pc
 have CV:=qA (fun W=>Ac4 C.table (P1 C.table u.pc) u.pc W hpc.1 hpc.2 ht.size hvw hva)
 clear hva
 generalize P1 C.table u.pc=vl at *
 have hop:=D5.1 hld
 have hne:=Bm hu h.blk (by decide)
 have hn0:=Sz C.script
 have hd96:=hd
 clear hd
 clear h hu hg e1 e2 ha hb hno hld
 clear hal
 have HC0:∀ W C3 L3 cs3,C3.script=C.script→Af B W g C3 L3 ps cs3→Calls Tryz.prog 72 #[.pointer (some ⟨g,0,none⟩)] W fun e w'=>e = .returned (.int .i64 (Hj C.script))∧W.grownBy w' (some g)∧∃ L' cs',Af B w' g { C3 with script:=C.script.tail } L' ps cs':=fun W C3 L3 cs3 hs h=>by
  rw [←hs]
  exact Ua h
 generalize Hj C.script=n at *
 generalize Ld vl u.pc=vp at *
 obtain⟨vv,ok⟩:=vp
 dsimp only at CV ⊢
 generalize hX0:(ite (0<u.dest∧(ok=true∨n / 16%3=1)) _ _:Core)=X0
 have HX0:=qA hX0
 replace HC0:=qA HC0
 clear hX0
 go_enter Tryz.func39,Tryz.ntmps39
 go_upto_region 1 with(fail)
 go_simp
 refine Ad 17016589106167 558417069064 17592186044415 [0,1,2,3,4,5,6,7,8,9,10,11,12,13,14,15,16,17,18,19,20,21,22,23,24,25,26,27,28,29,30,31,32,33,34,35,36,37,38,39,40,41,42,43] (by kernel_rfl) (by kernel_rfl) (by kernel_rfl) rfl ?_
 repeat'(first
  |refine oQ rfl rfl ?_
  |(refine' oE _ (by decide) (by decide) (fun wq K hK=>?_) ?_ ?_;rotate_left 1;(· go_wp2_with(fail);all_goals exact hK);rfl)
  |(refine' oR _ (by decide) (by decide) (by decide) (fun wq hwq K hK=>?_) ?_ ?_;rotate_left 1;(· have k0:=hwq.at_ zp c0;have k1:=hwq.at_ zp c1;have k11:=hwq.at_ zp c11;have k12:=hwq.at_ zp c12;have ka:=hwq.at_ zg ca;have kb:=hwq.at_ zg cb;first | ((refine Az 53 _ rfl p 5 rfl 107 u.cells 5 _ (HP.out.ext hwq) Tryz.underlying53 rfl Au (by rw [Uop.size];decide) ?_;rw [Uop.insX];exact hK)) | (go_wp2_with(go_at_call 63;refine(AL.out _).mono ?_;rintro e w' ⟨rfl,hb⟩;exact hK _ (hwq.trans (hb.mono hwq.size)));all_goals exact hK));rfl)
  |(refine' oC _ (by decide) (by decide) (by decide) (fun wq hwq K hK=>?_) ?_ ?_;rotate_left 1;(· have k0:=hwq.at_ zp c0;have k1:=hwq.at_ zp c1;have k11:=hwq.at_ zp c11;have k12:=hwq.at_ zp c12;have ka:=hwq.at_ zg ca;have kb:=hwq.at_ zg cb;first | ((refine Az 53 _ rfl p 5 rfl 107 u.cells 5 _ (HP.out.ext hwq) Tryz.underlying53 rfl Au (by rw [Uop.size];decide) ?_;rw [Uop.insX];exact hK)) | (go_wp2_with(go_at_call 63;refine(AL.out _).mono ?_;rintro e w' ⟨rfl,hb⟩;exact hK _ (hwq.trans (hb.mono hwq.size)));all_goals exact hK _ hwq));rfl)
  |((first | refine oT rfl rfl rfl rfl ?_ ?_ | refine oF rfl rfl rfl rfl ?_ ?_)<;>intro hc<;>first | (cases hc;done) | ((try cases hc);simp only [Act.put,sA,sS,sZ]))
  |(refine oU rfl rfl rfl rfl ?_;(try simp only [Act.put,sA,sS,sZ])))
 refine Aj ?_
 intro w1 hw1
 replace hw1:Below w.heap.size w w1:=by first | exact hw1 | (rw [hw1];exact(qB _ _).drew)
 have h1:=HI.out.ext hw1
 have hu1:=HP.out.ext hw1
 have d1:w1.cell? ⟨p,1,none⟩=some (.int .i64 u.state):=hu1.cell 1
 have d2:w1.cell? ⟨p,2,none⟩=some (.int .i64 u.ready):=hu1.cell 2
 have f1:=hu1.frozen 1
 have f2:=hu1.frozen 2
 have z1:=hu1.lt
 have HS:=qA (qL (h1.setuop2 hp hk hu1 (cycle+1)) (Ah.below (B:=B) hw1))
 clear h1 hu1 hw1 c0 c1 c11 c12 ca cb
 go_upto_region 4 with(fail)
 go_simp
 clear d1 d2 f1 f2 z1
 generalize (w1.setCell ⟨p,1,none⟩ (.int .i64 1)).setCell ⟨p,2,none⟩ (.int .i64 (cycle+1))=w3 at *
 obtain⟨⟨h3,hu3,ht3⟩,ht1⟩:=HS.out
 have c5:w3.cell? ⟨p,5,none⟩=some (.int .i64 u.ins.op):=hu3.cell 5
 have z3:=hu3.lt
 have HI3:=qA h3
 have HP3:=qA hu3
 have HT3:=qA (ht1.trans ht3)
 clear h3 hu3 ht3 ht1 HS zp zg HI HP AL
 have e3:decide (38≤u.ins.op)=false:=qG (by omega)
 have HC:=qA (fun W (hb:Below w3.heap.size w3 W)=>HC0.out W { C with ops:=C.ops.set k { u with state:=1,ready:=cycle+1 } } L cs rfl (HI3.out.ext hb))
 go_upto_region 9 with(first
  |(refine Ai rfl 53 _ rfl p 5 rfl 107 (Uop.cells { u with state:=1,ready:=cycle+1 }) 5 _ HP3.out Tryz.underlying53 rfl Au (by rw [Uop.size];decide) ?_;rw [Uop.insX])
  |(go_at_call 65;(with_reducible refine(LD.out _).mono ?_);rintro e w4 ⟨rfl,hb4⟩)
  |(go_at_call 72;(with_reducible refine(HC.out _ hb4).mono ?_);rintro e w5 ⟨rfl,hg5,L5,cs5,h5⟩))
 go_simp
 have HP5:=qA ((HP3.out.ext hb4).grown hg5 (by simpa using hne))
 have d2:w5.cell? ⟨p,2,none⟩=some (.int .i64 (cycle+1)):=HP5.out.cell 2
 have f2:=HP5.out.frozen 2
 have z5:=HP5.out.lt
 have h6:=h5.setuop hp HP5.out 2 (.int .i64 (cycle+1+n%9)) (Uop.set_ready { u with state:=1,ready:=cycle+1 } (cycle+1+n%9))
 have hu6:=HP5.out.set 2 (.int .i64 (cycle+1+n%9))
 have HJ:=qA (qL h6 (qL hu6 (((HT3.out.trans (Ah.below hb4)).trans ((HI3.out.ext hb4).turned hg5)).trans (Cc HP5.out hBp (grownBy_setCell w5 ⟨p,2,none⟩ (.int .i64 (cycle+1+n%9)))))))
 clear h6 hu6 h5
 go_upto_region 10 with(fail)
 go_simp
 clear d2 f2 z5
 generalize w5.setCell ⟨p,2,none⟩ (.int .i64 (cycle+1+n%9))=w6 at *
 obtain⟨h6,hu6,ht6⟩:=HJ.out
 have c3:w6.cell? ⟨p,3,none⟩=some (.int .u32 u.pc):=hu6.cell 3
 have z6:=hu6.lt
 have hT:=h6.cells.tabX ht.size
 have hsz6:=h6.cells.size
 have HT6:=qA hT
 have HB6:=qA h6.blk
 clear hT h6 hu6 ht6
 refine Ad 15991 136 16127 [0,1,2,3,4,5,6,7,8,9,10,11,12,13] (by kernel_rfl) (by kernel_rfl) (by kernel_rfl) rfl ?_
 repeat'(first
  |refine rZ ?_
  |(refine' oR _ (by decide) (by decide) (by decide) (fun wq hwq K hK=>?_) ?_ ?_;rotate_left 1;(· have k3:=hwq.at_ z6 c3;first | ((refine Az 76 _ rfl g 44 rfl 86 _ 64 _ (HB6.out.ext hwq) Tryz.underlying76 rfl Hg (by rw [hsz6];decide) ?_;rw [HT6.out];exact hK)) | (go_wp2_with(fail);all_goals exact hK));rfl)
  |fail)
 refine oS (fun w7 hw7 K1 hK1=>?_)
 have hb7:Below w6.heap.size w6 w7:=by rw [hw7];exact(qB _ _).drew
 clear hw7
 go_wp2_with(go_at_call 73;(with_reducible refine(CV.out w7).mono ?_);rintro e w8 ⟨rfl,hb8⟩)
 refine hK1 _ _ (fun _=>True) trivial ?_
 simp only [Act.put,sA,sS,sZ]
 clear hK1 K1
 refine rO ?_
 refine Aj ?_
 rintro w9 hw9
 replace hb8:=hb7.trans (hb8.mono hb7.size)
 rw [←hw9] at hb8
 clear hw9 hb7
 obtain⟨h6,hu6,ht6⟩:=HJ.out
 have hu9:Blk w9 p 107 (Uop.cells { u with state:=1,ready:=cycle+1+n%9 }):=hu6.ext hb8
 have c13:w9.cell? ⟨p,13,none⟩=some (.int .i64 u.dest):=hu9.cell 13
 have z9:=hu9.lt
 have e6:(C.ops.set k { u with state:=1,ready:=cycle+1 }).set k { u with state:=1,ready:=cycle+1+n%9 }=C.ops.set k { u with state:=1,ready:=cycle+1+n%9 }:=List.set_set _
 have h9:Af B w9 g { C with script:=C.script.tail,ops:=C.ops.set k { u with state:=1,ready:=cycle+1+n%9 } } L5 ps cs5:=by
  have h9:=h6.ext hb8
  rw [←e6]
  exact h9
 have HI9:=qA h9
 have HP9:=qA hu9
 have HT9:=qA (ht6.trans (Ah.below hb8))
 clear h6 hu6 ht6 hu9 h9 HJ e6 c3 z6 HT6 HB6 HP5 hb8 hsz6
 by_cases hd:0<u.dest
 ·have e13:decide (0<u.dest)=true:=qF hd
  rcases ok with _ | _
  ·by_cases q:n / 16%3=1
   ·have q1:(n / 16%3==1)=true:=by simpa using q
    have c15:w9.cell? ⟨p,15,none⟩=some (.bool u.guessed):=HP9.out.cell 15
    have f15:=HP9.out.frozen 15
    have h10:=HI9.out.setuop hp HP9.out 15 (.bool true) (Uop.set_guessed { u with state:=1,ready:=cycle+1+n%9 } true)
    have hu10:=HP9.out.set 15 (.bool true)
    have HJ:=qA (qL h10 (qL hu10 (HT9.out.trans (Cc HP9.out hBp (grownBy_setCell w9 ⟨p,15,none⟩ (.bool true))))))
    clear h10 hu10
    go_upto_region 13 with(fail)
    go_simp
    clear c15 f15 c13 z9
    generalize w9.setCell ⟨p,15,none⟩ (.bool true)=w10 at *
    obtain⟨h10,hu10,ht10⟩:=HJ.out
    have hu10:Blk w10 p 107 (Uop.cells { u with state:=1,ready:=cycle+1+n%9,guessed:=true }):=hu10
    have e10:(C.ops.set k { u with state:=1,ready:=cycle+1+n%9 }).set k { u with state:=1,ready:=cycle+1+n%9,guessed:=true }=C.ops.set k { u with state:=1,ready:=cycle+1+n%9,guessed:=true }:=List.set_set _
    have h11:Af B w10 g { C with script:=C.script.tail,ops:=C.ops.set k { u with state:=1,ready:=cycle+1+n%9,guessed:=true } } L5 ps cs5:=by
     rw [←e10]
     exact h10
    have HX:=qA (show u32 (vv+n / 64)=(vv+n / 64)%4294967296 from rfl)
    have CG:=qA (fun x=>N9 h11 hu10 hd96 hw96 ht96 x)
    have HT10:=qA ht10
    have HB10:=qA h11.blk
    clear h10 hu10 ht10 h11 e10 HJ
    go_wp2_with(go_at_call 67;(with_reducible refine(CG.out _).mono ?_);rintro e w11 ⟨rfl,hg11,cs11,h11⟩)
    go_ret
    refine⟨rfl,HT10.out.trans (Ah.grown hg11 fun k hk=>by cases hk;exact⟨hbg,_,_,_,HB10.out,rfl⟩),L5,cs11,?_⟩
    rw [←HX0.out,if_pos ⟨hd,Or.inr q⟩,HX.out]
    unfold Di at h11 ⊢
    rw [if_pos hd] at h11 ⊢
    exact h11
   ·have q1:(n / 16%3==1)=false:=by simpa using q
    have HQ:=qA q
    have HDN:=qA hd
    clear q hd
    go_wp2_with(fail)
    go_ret
    refine⟨rfl,HT9.out,L5,cs5,?_⟩
    rw [←HX0.out,if_neg (fun hh=>by rcases hh.2 with hh | hh;exact absurd hh (by decide);exact HQ.out hh)]
    exact HI9.out
  ·skip
   have c15:w9.cell? ⟨p,15,none⟩=some (.bool u.guessed):=HP9.out.cell 15
   have f15:=HP9.out.frozen 15
   have h10:=HI9.out.setuop hp HP9.out 15 (.bool true) (Uop.set_guessed { u with state:=1,ready:=cycle+1+n%9 } true)
   have hu10:=HP9.out.set 15 (.bool true)
   have HJ:=qA (qL h10 (qL hu10 (HT9.out.trans (Cc HP9.out hBp (grownBy_setCell w9 ⟨p,15,none⟩ (.bool true))))))
   clear h10 hu10
   go_upto_region 13 with(fail)
   go_simp
   clear c15 f15 c13 z9
   generalize w9.setCell ⟨p,15,none⟩ (.bool true)=w10 at *
   obtain⟨h10,hu10,ht10⟩:=HJ.out
   have hu10:Blk w10 p 107 (Uop.cells { u with state:=1,ready:=cycle+1+n%9,guessed:=true }):=hu10
   have e10:(C.ops.set k { u with state:=1,ready:=cycle+1+n%9 }).set k { u with state:=1,ready:=cycle+1+n%9,guessed:=true }=C.ops.set k { u with state:=1,ready:=cycle+1+n%9,guessed:=true }:=List.set_set _
   have h11:Af B w10 g { C with script:=C.script.tail,ops:=C.ops.set k { u with state:=1,ready:=cycle+1+n%9,guessed:=true } } L5 ps cs5:=by
    rw [←e10]
    exact h10
   have HX:=qA (show u32 (vv+n / 64)=(vv+n / 64)%4294967296 from rfl)
   have CG:=qA (fun x=>N9 h11 hu10 hd96 hw96 ht96 x)
   have HT10:=qA ht10
   have HB10:=qA h11.blk
   clear h10 hu10 ht10 h11 e10 HJ
   go_wp2_with(go_at_call 67;(with_reducible refine(CG.out _).mono ?_);rintro e w11 ⟨rfl,hg11,cs11,h11⟩)
   go_ret
   refine⟨rfl,HT10.out.trans (Ah.grown hg11 fun k hk=>by cases hk;exact⟨hbg,_,_,_,HB10.out,rfl⟩),L5,cs11,?_⟩
   rw [←HX0.out,if_pos ⟨hd,by simp⟩,HX.out]
   unfold Di at h11 ⊢
   rw [if_pos hd] at h11 ⊢
   exact h11
 ·have e13:decide (0<u.dest)=false:=qG hd
  have HDN:=qA hd
  clear hd
  go_wp2_with(fail)
  go_ret
  refine⟨rfl,HT9.out,L5,cs5,?_⟩
  rw [←HX0.out,if_neg (fun hh=>by have h1:=HDN.out;have h2:=hh.1;omega)]
  exact HI9.out
end
section
variable {B:Nat} {w:World} {g p:Nat} {C:Core} {L:Lay} {ps:List Nat} {cs:Array Value}
theorem Ajh {l:List Int} (h:∀ x∈l,x≤9223372036854775807):Hj l≤9223372036854775807:=by
 unfold Hj
 split
 ·decide
 ·rename_i n r
  have:=h n (by simp)
  omega
theorem Ae2 (h:Af B w g C L ps cs) (hI:Inv C) {k:Nat} (hp:ps[k]? = some p) (cycle head:Int) (hc0:0≤cycle) (hc1:cycle≤4611686018427387904) (hs:∀ x∈C.script,x≤9223372036854775807) :
  Calls Tryz.prog 39 #[.pointer (some ⟨g,0,none⟩), .pointer (some ⟨p,0,none⟩), .int .i64 cycle, .int .i64 head] w fun e w'=>e = .returned (.bool (Cb C k cycle head).1)∧Ah B w w'∧∃ L' cs',Af B w' g (Cb C k cycle head).2 L' ps cs':=by
 obtain⟨_,_,hk,hg⟩:=h.uop_at hp
 have hf:=hI.uf (C.op k) (List.mem_of_getElem? hg)
 by_cases hno:(C.op k).state≠0∨C.has (C.op k).a=false∨C.has (C.op k).b=false∨(Ba (C.op k).ins=true∧(C.op k).seq≠head)
 ·rw [Ae1 C k cycle head hno]
  exact Ahd h hp cycle head hf.a hf.b hno
 ·have h1:(Cb C k cycle head).1=true:=by
   unfold Cb
   dsimp only
   rw [if_neg hno]
   split
   ·rfl
   split
   ·split<;>rfl
   ·rfl
  rw [h1]
  rcases hl:Bp (C.op k).ins with _ | _
  ·exact Z3 h hp cycle head hf.a hf.b hc0 hc1 hno hl
  ·exact Ace h hp cycle head hf.a hf.b hc0 hc1 hno hl hI.tab hf.pc (Ajh hs) hf.dest.2 hI.words.1 hI.there
end
end Go.Proofs.YtapgojgcmlnbgaaGreatDoor
namespace Go.Proofs.YtapgojgcmlnbgaaGreatDoor
open Go Go.RowKit
section
variable {B:Nat} {w:World} {g p:Nat} {C:Core} {L:Lay} {ps:List Nat} {cs:Array Value}
theorem Afu (h:Af B w g C L ps cs) (hI:Inv C) (hst:C.still=false) (hfr:C.names.free≠[]) {sl:List Slt} (hp:I8 C.slots C.window C.seq=some sl) (hq:C.seq≤4611686018427387904) (ht:0≤C.taken∧C.taken≤4611686018427387904) {i:Ins} {c:Int} (hsn:Je C=(i,c)) (hc:c≠0) :
  Calls Tryz.prog 40 #[.pointer (some ⟨g,0,none⟩)] w (Rk B w g (Bv C)):=by
 have hXF:=Yy (fun hh=>by rcases hh with hh | hh;rw [hst] at hh;cases hh;exact hfr hh) hp hsn hc
 have hf:=hI.fine
 have c339:w.cell? ⟨g,339,none⟩=some (.bool false):=by
  have:=h.cell h.cells.still
  rw [hst] at this
  exact this
 have c141:=h.nfree
 have e0:((C.names.free.length:Int)==0)=false:=by
  have:C.names.free.length≠0:=fun e=>hfr (qN e)
  simpa using this
 have c334:=h.slots
 have c0:w.cell? ⟨g,0,none⟩=some (.int .i64 C.window):=h.cell h.cells.window
 have c337:w.cell? ⟨g,337,none⟩=some (.int .i64 C.seq):=h.cell h.cells.seq
 have zg:=h.lt
 obtain⟨AS,cS,hsv,hSS,hSn,hS1,hS2⟩:=Hq h.rows.slots
 rw [hsv] at c334
 have hsl:=hf.lens.2.1
 have hsl2:=Vo hp
 have HSL2:=qA hsl2
 clear hsl2
 have hle:=hf.lens
 have CP0:=qA (fun W (hb:Below w.heap.size w W)=>Rb AS cS C.slots C.window C.seq W (by omega) ((hSS.below hb).mono hb.size) hSn)
 rw [hp] at CP0
 have CS0:=qA (fun A cA M cM W h1 h2=>Tx A cA C.access M cM C.mem C.seq C.pc 4 W (by omega) (by have:=hI.room;omega) (hf.wf (by omega)) hI.bytes h1 h2 hI.pc.1 hI.pc.2)
 have HLOW:=qA h.low
 have HI:=qA h
 unfold Je at hsn
 generalize Eb C.access C.mem C.seq C.pc 4=S at *
 obtain⟨sw,so,ss⟩:=S
 dsimp only at CS0 hsn
 have CF0:∀ mb W,Blk W mb 151 #[.int .u8 (sw%256), .int .u8 (sw / 256%256), .int .u8 (sw / 65536%256), .int .u8 (sw / 16777216%256)] →
   Calls Tryz.prog 33 #[.slice (some ⟨mb,0,none⟩) 4 4, .int .u32 0] W fun e w'=>e = .returned (.tuple #[.agg (Dn (bytesOf sw) 0).1.cells, .int .i64 (Dn (bytesOf sw) 0).2])∧Below W.heap.size W w':=fun mb W h2=>
  Of (some ⟨mb,0,none⟩) 4 (bytesOf sw) 0 W (by decide) (by decide) (by show 4≤9223372036854775807;decide) (Gz sw) (fun _=>⟨mb,0,rfl,h2.lt,fun i v hi=>by
   rw [Nat.zero_add,h2.cell]
   match i with
   |0=>cases hi;rfl
   |1=>cases hi;rfl
   |2=>cases hi;rfl
   |3=>cases hi;rfl
   |i+4=>cases hi⟩)
 generalize Bv C=X at *
 have HXF:=qA hXF
 have hq0:=hI.seq0
 have HLEN:=qA h.rows.uops.len
 clear h hXF hSS hSn hp hfr hI hf hst
 rcases so with _ | _
 ·rw [if_neg (by decide)] at hsn
  cases hsn
  clear CF0 hc
  go_enter Tryz.func40,Tryz.ntmps40
  go_upto_region 3 with(fail)
  go_simp
  refine Ad 511735 4360 516095 [0,1,2,3,4,5,6,7,8,9,10,11,12,13,14,15,16,17,18] (by kernel_rfl) (by kernel_rfl) (by kernel_rfl) rfl ?_
  refine rR (fun wq hwq=>i2 (hwq.at_ zg c334) (i2 (hwq.at_ zg c0) (hwq.at_ zg c337))) ?_
  refine oS (fun w1 hw1 K1 hK1=>?_)
  have hb1:Below w.heap.size w w1:=by rw [hw1];exact(qB _ _).drew
  clear hw1
  go_wp2_with(go_at_call 74;(with_reducible refine(CP0.out w1 hb1).mono ?_);intro e w2 hpost;obtain⟨hb2,v2,rfl,ho2⟩:=hpost;obtain⟨A2,c2,rfl⟩:=Al (show w2.ownsRow w1.heap.size 166 2 v2 sl.length (Ay sl) from ho2))
  refine hK1 _ _ (fun _=>True) trivial ?_
  simp only [Act.put,sA,sS,sZ]
  clear hK1 K1
  refine rO ?_
  refine Aj ?_
  rintro w3 hw3
  replace ho2:w2.ownsRow w1.heap.size 166 2 (.slice A2 sl.length c2) sl.length (Ay sl):=ho2
  replace hb2:=hb1.trans (hb2.mono hb1.size)
  rw [←hw3] at hb2 ho2
  have ho3:w3.ownsRow B 166 2 (.slice A2 sl.length c2) sl.length (Ay sl):=Gp ho2 (qD HLOW.out hb1.size)
  clear hw3 ho2 hb1 c339 c141 c334 c0 c337 zg CP0
  have HI3:=qA (HI.out.ext hb2)
  have k337:w3.cell? ⟨g,337,none⟩=some (.int .i64 C.seq):=HI3.out.cell HI3.out.cells.seq
  have k338:w3.cell? ⟨g,338,none⟩=some (.int .u32 C.pc):=HI3.out.cell HI3.out.cells.pc
  have zg3:=HI3.out.lt
  go_upto_region 6 with(fail)
  go_simp
  refine Ad 1143 392 1535 [0,1,2,3,4,5,6,7,8,9,10] (by kernel_rfl) (by kernel_rfl) (by kernel_rfl) rfl ?_
  repeat'(first
   |refine rZ ?_
   |(refine' oR _ (by decide) (by decide) (by decide) (fun wq hwq K hK=>?_) ?_ ?_;rotate_left 1;(· have q337:=hwq.at_ zg3 k337;have q338:=hwq.at_ zg3 k338;first | ((refine Dw 107 _ rfl [(0, .int .i64 C.seq),(3, .int .u32 C.pc)] rfl _ (Mw C.seq C.pc) ?_;exact hK)) | (go_wp2_with(fail);all_goals exact hK));rfl)
   |fail)
  refine oS (fun w4 hw4 K1 hK1=>?_)
  have hb4:Below w3.heap.size w3 w4:=by rw [hw4];exact(qB _ _).drew
  clear hw4
  go_wp2_with(fail)
  have hB5:=Blk.new w4 107 (Uop.cells { Bz with seq:=C.seq,pc:=C.pc })
  have hb5:=hb4.alloc hb4.size (.cells (Uop.cells { Bz with seq:=C.seq,pc:=C.pc }) 107)
  have hpl:=hb4.size
  refine hK1 _ _ (fun _=>True) trivial ?_
  simp only [Act.put,sA,sS,sZ]
  clear hK1 K1
  refine rO ?_
  refine Aj ?_
  rintro w5 hw5
  replace hB5:Blk w5 w4.heap.size 107 (Uop.cells { Bz with seq:=C.seq,pc:=C.pc }):=by rw [hw5];exact hB5
  replace hb5:Below w3.heap.size w3 w5:=by rw [hw5];exact hb5
  clear hw5 hb4 k337 k338 zg3
  generalize w4.heap.size=p at *
  have HP5:=qA hB5
  have HO5:=qA (Cj ho3 hb5)
  have HB5:=qA (hb2.trans (hb5.mono hb2.size))
  have hpw:w.heap.size≤p:=qD hb2.size hpl
  clear hB5 ho3 hb5 hb2 hpl HI3
  have hI5:=HI.out.ext HB5.out
  obtain⟨AA,cA,hav,hAS,_,_,_⟩:=J0 hI5.rows.access
  obtain⟨MA,cM,hMv,hMl,hMn,hMI,_,_⟩:=Fs hI5.rows.mem
  have c336:w5.cell? ⟨g,336,none⟩=some (.slice AA C.access.length cA):=by rw [←hav];exact hI5.access
  have c39:w5.cell? ⟨g,39,none⟩=some (.slice MA C.mem.length cM):=by rw [←hMv];exact hI5.mem
  have c337:w5.cell? ⟨g,337,none⟩=some (.int .i64 C.seq):=hI5.cell hI5.cells.seq
  have c338:w5.cell? ⟨g,338,none⟩=some (.int .u32 C.pc):=hI5.cell hI5.cells.pc
  have zg5:=hI5.lt
  have CS:=qA (fun W (hb:Below w5.heap.size w5 W)=>CS0.out AA cA MA cM W ((hAS.below hb).mono hb.size) ((hMI.below hb).mono hb.size))
  clear hI5 hav hAS hMv hMl hMn hMI
  go_upto_region 7 with(fail)
  go_simp
  refine Ad 33353463 69896 33423359 [0,1,2,3,4,5,6,7,8,9,10,11,12,13,14,15,16,17,18,19,20,21,22,23,24] (by kernel_rfl) (by kernel_rfl) (by kernel_rfl) rfl ?_
  refine rR (fun wq hwq=>i2 (hwq.at_ zg5 c336) (i2 (hwq.at_ zg5 c39) (i2 (hwq.at_ zg5 c337) (hwq.at_ zg5 c338)))) ?_
  refine oS (fun w6 hw6 K1 hK1=>?_)
  have hb6:Below w5.heap.size w5 w6:=by rw [hw6];exact(qB _ _).drew
  clear hw6
  go_wp2_with(go_at_call 75;(with_reducible refine(CS.out w6 hb6).mono ?_);rintro e w7 ⟨rfl,hb7⟩)
  refine hK1 _ _ (fun _=>True) trivial ?_
  simp only [Act.put,sA,sS,sZ]
  clear hK1 K1 CS
  refine rO ?_
  refine Aj ?_
  rintro w8 hw8
  replace hb7:=hb6.trans (hb7.mono hb6.size)
  rw [←hw8] at hb7
  clear hw8 hb6 c336 c39 c337 c338 zg5
  have hP8:=HP5.out.ext hb7
  have hb8:Below w.heap.size w w8:=HB5.out.trans (hb7.mono HB5.out.size)
  have ho8:=Cj HO5.out hb7
  have k10:w8.cell? ⟨p,10,none⟩=some (.int .i64 0):=hP8.cell 10
  have f10:=hP8.frozen 10
  have z8:=hP8.lt
  have HJ9:=qA (show Blk (w8.setCell ⟨p,10,none⟩ (.int .i64 1)) p 107 (Uop.cells { Bz with seq:=C.seq,pc:=C.pc,cause:=1 })∧Below w.heap.size w (w8.setCell ⟨p,10,none⟩ (.int .i64 1))∧(w8.setCell ⟨p,10,none⟩ (.int .i64 1)).ownsRow B 166 2 (.slice A2 sl.length c2) sl.length (Ay sl) from
   ⟨hP8.set 10 (.int .i64 1),Ap hpw hb8,ho8.kept (grownBy_setCell w8 ⟨p,10,none⟩ (.int .i64 1)) (Br ho8 hP8 (by decide))⟩)
  clear hP8 hb8 ho8 hb7 HP5 HB5 HO5
  go_upto_region 9 with(fail)
  go_simp
  clear k10 f10 z8
  generalize w8.setCell ⟨p,10,none⟩ (.int .i64 1)=w9 at *
  have HFR:=qA (qD HLOW.out hpw)
  go_upto_region 12 with(fail)
  go_simp
  have hI9:=HI.out.ext (HJ9).out.2.1
  obtain⟨fr1,fr2,fr3⟩:=HI.out.fresh hpw
  obtain⟨AP,nP,hvo,hno1,hno2,hno3⟩:=Fc hI9.rows.ptrs
  have c335:w9.cell? ⟨g,335,none⟩=some (.slice AP ps.length nP):=by rw [←hvo];exact hI9.ops
  have hba:=(qB w9.heap.size w9).alloc (qC _) (.cells #[.pointer (some ⟨p,0,none⟩)] 105)
  have hIA:=hI9.ext hba
  have hrowA:B8 (w9.alloc (.cells #[.pointer (some ⟨p,0,none⟩)] 105)) B (.slice AP ps.length nP) ps:=by
   have:=hIA.rows.ptrs
   rw [hvo] at this
   exact this
  have hcA:(w9.alloc (.cells #[.pointer (some ⟨p,0,none⟩)] 105)).cell? ⟨w9.heap.size,0,none⟩=some (.pointer (some ⟨p,0,none⟩)):=(Blk.new w9 105 #[.pointer (some ⟨p,0,none⟩)]).cell 0
  have hPA:=(HJ9).out.1.ext hba
  have hOA:=Cj (HJ9).out.2.2 hba
  have hlen:ps.length≤1000:=by rw [hI9.rows.uops.len];omega
  have HPU:=qA (fun w' v' (hr:B8 w' B v' (ps++[p])) (hg:(w9.alloc (.cells #[.pointer (some ⟨p,0,none⟩)] 105)).grownBy w' (Value.slice AP ps.length nP).ownBlock) (hv:v'.ownBlock=(Value.slice AP ps.length nP).ownBlock∨∀ k,v'.ownBlock=some k→(w9.alloc (.cells #[.pointer (some ⟨p,0,none⟩)] 105)).heap.size≤k)=>
   have hg':(w9.alloc (.cells #[.pointer (some ⟨p,0,none⟩)] 105)).grownBy w' L.ops.ownBlock:=by rw [hvo];exact hg
   have hu':C9 w' B C.ops ps:=hIA.rows.uops.kept hg' (fun q hq e=>by
    obtain⟨u,hu,_⟩:=hIA.rows.uops.mem hq
    obtain⟨cur,hk⟩:=Kx hIA.rows.ptrs e.symm
    exact Bm hu hk (by decide) rfl)
   have hP':Blk w' p 107 _:=hPA.grown hg' (by
    rcases hIA.rows.ptrs.other hPA (by decide) with e | e
    ·rw [e];simp
    ·exact fun e'=>e e'.symm)
   hIA.pushed hg' hr (hu'.snoc hP' fr1 fr2) (by rw [hvo];exact hv) (fun q hq=>by
    rcases List.mem_append.1 hq with hq | hq
    ·exact Or.inl hq
    ·obtain rfl:=List.mem_singleton.1 hq
     exact Or.inr fr3) (hOA.kept hg' (by
    have:=Kw hOA hIA.rows.ptrs (by decide)
    exact this)))
  have hlow:=hIA.low
  have HT9:=qA (Ah.below (B:=B) ((HJ9).out.2.1.trans (hba.mono (HJ9).out.2.1.size)))
  clear hI9 hvo hno1 hno2 hno3 hIA hPA hOA fr1 fr2 fr3
  go_upto_region 13 with(at_builtin;refine F7 rfl (.tmp 107) (.tmp 109) rfl (v := .slice AP ps.length nP) rfl hrowA hlow hlen ⟨w9.heap.size,0,none⟩ 1 p rfl hcA ?_;intro v14 w14 hr14 hg14 hv14;obtain⟨A14,m14,n14,rfl⟩:=Q9 hr14;obtain⟨hps14,k334,k335,f334,f335,z14⟩:=HPU.out w14 _ hr14 hg14 hv14;have HJ14:=qA (qL hps14.1 (HT9.out.trans hps14.2));clear hps14 hr14 hg14 hv14)
  go_simp
  clear k334 k335 f334 f335 z14 hrowA hcA hlen hlow hba c335 HPU HT9
  generalize (w14.setCell ⟨g,334,none⟩ (.slice A2 sl.length c2)).setCell ⟨g,335,none⟩ (.slice A14 m14 n14)=w15 at *
  have h15:=HJ14.out.1
  have k337:=h15.cell h15.cells.seq
  have k41:=h15.cell h15.cells.taken
  have f337:=h15.blk.frozen 337
  have f41:=h15.blk.frozen 41
  have z15:=h15.lt
  have h16:=h15.set 337 (.int .i64 (C.seq+1)) (h15.cells.set_seq (C.seq+1)) h15.rows
  have h17:=h16.set 41 (.int .i64 (C.taken+1)) (h16.cells.set_taken (C.taken+1)) h16.rows
  have HJ17:=qA (qL h17 ((HJ14.out.2.trans (h15.turned (grownBy_setCell w15 ⟨g,337,none⟩ (.int .i64 (C.seq+1))))).trans (h16.turned (grownBy_setCell _ ⟨g,41,none⟩ (.int .i64 (C.taken+1))))))
  clear h15 h16 h17 HJ14
  go_upto_region 15 with(fail)
  go_simp
  clear k337 k41 f337 f41 z15
  generalize (w15.setCell ⟨g,337,none⟩ (.int .i64 (C.seq+1))).setCell ⟨g,41,none⟩ (.int .i64 (C.taken+1))=w17 at *
  obtain⟨LQ,csQ,hQ⟩:∃ L' cs',Af B w17 g { C with slots:=sl,ops:=C.ops++[{ Bz with seq:=C.seq,pc:=C.pc,cause:=1,ins:=Fz }],seq:=C.seq+1,taken:=C.taken+1 } L' (ps++[p]) cs':=⟨_,_,HJ17.out.1⟩
  have HTQ:=qA HJ17.out.2
  have hkp:(ps++[p])[C.ops.length]? = some p:=by rw [←HLEN.out];simp
  have hkq:(C.ops++[({ Bz with seq:=C.seq,pc:=C.pc,cause:=1,ins:=Fz }:Uop)])[C.ops.length]? = some { Bz with seq:=C.seq,pc:=C.pc,cause:=1,ins:=Fz }:=by simp
  have huQ:=(hQ.rows.uops.at_ C.ops.length _ p hkq hkp).1
  have HQ:=qA hQ
  have HUQ:=qA huQ
  have HKP:=qA hkp
  have c10:w17.cell? ⟨p,10,none⟩=some (.int .i64 1):=huQ.cell 10
  have c3:w17.cell? ⟨p,3,none⟩=some (.int .u32 C.pc):=huQ.cell 3
  have zQ:=huQ.lt
  clear hQ HJ17 hkp hkq huQ
  go_upto_region 16 with(fail)
  go_simp
  refine Ad 52975 12560 65535 [0,1,2,3,4,5,6,7,8,9,10,11,12,13,14,15,16] (by kernel_rfl) (by kernel_rfl) (by kernel_rfl) rfl ?_
  repeat'(first
   |refine rZ ?_
   |(refine' oR _ (by decide) (by decide) (by decide) (fun wq hwq K hK=>?_) ?_ ?_;rotate_left 1;(· have k3:=hwq.at_ zQ c3;have k10:=hwq.at_ zQ c10;first | ((refine Dw 65 _ rfl [(0, .int .u32 C.pc),(1, .int .u32 C.pc),(2, .int .i64 2),(3, .int .i64 1)] rfl _ (Sp C.pc 1) ?_;exact hK)) | (go_wp2_with(fail);all_goals exact hK));rfl)
   |fail)
  refine oS (fun w18 hw18 K1 hK1=>?_)
  have hb18:Below w17.heap.size w17 w18:=by rw [hw18];exact(qB _ _).drew
  clear hw18
  have hP18:=HUQ.out.ext hb18
  refine Ch 65 _ _ rfl p 16 (By C.pc 1).cells rfl rfl 107 _ hP18 (Kc _) (show 16+11≤27 by decide) (cells_one _) ?_
  intro w19 hB19 hg19
  refine hK1 undef _ (fun _=>True) trivial ?_
  simp only [Act.put,sA,sS,sZ]
  clear hK1 K1
  refine Aj ?_
  rintro w20 hw20
  rw [←hw20] at hB19 hg19
  clear hw20
  have h20:=(HQ.out.ext hb18).uopall HKP.out hP18 hg19 (u':={ Bz with seq:=C.seq,pc:=C.pc,cause:=1,ins:=Fz,commit:=By C.pc 1 }) hB19
  have e20:(C.ops++[({ Bz with seq:=C.seq,pc:=C.pc,cause:=1,ins:=Fz }:Uop)]).set C.ops.length { Bz with seq:=C.seq,pc:=C.pc,cause:=1,ins:=Fz,commit:=By C.pc 1 }=C.ops++[{ Bz with seq:=C.seq,pc:=C.pc,cause:=1,ins:=Fz,commit:=By C.pc 1 }]:=Gj
  have h20':Af B w20 g { C with slots:=sl,ops:=C.ops++[{ Bz with seq:=C.seq,pc:=C.pc,cause:=1,ins:=Fz,commit:=By C.pc 1 }],seq:=C.seq+1,taken:=C.taken+1 } LQ (ps++[p]) csQ:=by
   rw [←e20]
   exact h20
  have k339:=h20'.cell h20'.cells.still
  have f339:=h20'.blk.frozen 339
  have z20:=h20'.lt
  have h21:=h20'.set 339 (.bool true) (h20'.cells.set_still true) h20'.rows
  have HT21:=qA (((HTQ.out.trans (Ah.below (B:=B) hb18)).trans (Cc hP18 HFR.out hg19)).trans (h20'.turned (grownBy_setCell w20 ⟨g,339,none⟩ (.bool true))))
  have CFN:=qA (Mf h21 HKP.out (by show sl.length≤1000;rw [HSL2.out];omega))
  clear h20 e20 h20' h21 hb18 hP18 hB19 hg19 c10 c3 zQ HQ HUQ
  go_wp2_with(go_at_call 68;(with_reducible refine CFN.out.mono ?_);rintro e w22 ⟨rfl,ht22,L22,cs22,h22⟩;have HJ22:=qA (qL h22 (HT21.out.trans ht22));clear h22 ht22)
  have hxf:=HXF.out
  clear HXF
  subst hxf
  go_ret
  exact⟨rfl,HJ22.out.2,L22,_,cs22,HJ22.out.1⟩
 ·rw [if_pos rfl] at hsn
  rw [hsn] at CF0
  dsimp only at CF0
  replace CF0:=qA CF0
  have ec:(c != 0)=true:=by simpa using hc
  clear hsn hc
  go_enter Tryz.func40,Tryz.ntmps40
  go_upto_region 3 with(fail)
  go_simp
  refine Ad 511735 4360 516095 [0,1,2,3,4,5,6,7,8,9,10,11,12,13,14,15,16,17,18] (by kernel_rfl) (by kernel_rfl) (by kernel_rfl) rfl ?_
  refine rR (fun wq hwq=>i2 (hwq.at_ zg c334) (i2 (hwq.at_ zg c0) (hwq.at_ zg c337))) ?_
  refine oS (fun w1 hw1 K1 hK1=>?_)
  have hb1:Below w.heap.size w w1:=by rw [hw1];exact(qB _ _).drew
  clear hw1
  go_wp2_with(go_at_call 74;(with_reducible refine(CP0.out w1 hb1).mono ?_);intro e w2 hpost;obtain⟨hb2,v2,rfl,ho2⟩:=hpost;obtain⟨A2,c2,rfl⟩:=Al (show w2.ownsRow w1.heap.size 166 2 v2 sl.length (Ay sl) from ho2))
  refine hK1 _ _ (fun _=>True) trivial ?_
  simp only [Act.put,sA,sS,sZ]
  clear hK1 K1
  refine rO ?_
  refine Aj ?_
  rintro w3 hw3
  replace ho2:w2.ownsRow w1.heap.size 166 2 (.slice A2 sl.length c2) sl.length (Ay sl):=ho2
  replace hb2:=hb1.trans (hb2.mono hb1.size)
  rw [←hw3] at hb2 ho2
  have ho3:w3.ownsRow B 166 2 (.slice A2 sl.length c2) sl.length (Ay sl):=Gp ho2 (qD HLOW.out hb1.size)
  clear hw3 ho2 hb1 c339 c141 c334 c0 c337 zg CP0
  have HI3:=qA (HI.out.ext hb2)
  have k337:w3.cell? ⟨g,337,none⟩=some (.int .i64 C.seq):=HI3.out.cell HI3.out.cells.seq
  have k338:w3.cell? ⟨g,338,none⟩=some (.int .u32 C.pc):=HI3.out.cell HI3.out.cells.pc
  have zg3:=HI3.out.lt
  go_upto_region 6 with(fail)
  go_simp
  refine Ad 1143 392 1535 [0,1,2,3,4,5,6,7,8,9,10] (by kernel_rfl) (by kernel_rfl) (by kernel_rfl) rfl ?_
  repeat'(first
   |refine rZ ?_
   |(refine' oR _ (by decide) (by decide) (by decide) (fun wq hwq K hK=>?_) ?_ ?_;rotate_left 1;(· have q337:=hwq.at_ zg3 k337;have q338:=hwq.at_ zg3 k338;first | ((refine Dw 107 _ rfl [(0, .int .i64 C.seq),(3, .int .u32 C.pc)] rfl _ (Mw C.seq C.pc) ?_;exact hK)) | (go_wp2_with(fail);all_goals exact hK));rfl)
   |fail)
  refine oS (fun w4 hw4 K1 hK1=>?_)
  have hb4:Below w3.heap.size w3 w4:=by rw [hw4];exact(qB _ _).drew
  clear hw4
  go_wp2_with(fail)
  have hB5:=Blk.new w4 107 (Uop.cells { Bz with seq:=C.seq,pc:=C.pc })
  have hb5:=hb4.alloc hb4.size (.cells (Uop.cells { Bz with seq:=C.seq,pc:=C.pc }) 107)
  have hpl:=hb4.size
  refine hK1 _ _ (fun _=>True) trivial ?_
  simp only [Act.put,sA,sS,sZ]
  clear hK1 K1
  refine rO ?_
  refine Aj ?_
  rintro w5 hw5
  replace hB5:Blk w5 w4.heap.size 107 (Uop.cells { Bz with seq:=C.seq,pc:=C.pc }):=by rw [hw5];exact hB5
  replace hb5:Below w3.heap.size w3 w5:=by rw [hw5];exact hb5
  clear hw5 hb4 k337 k338 zg3
  generalize w4.heap.size=p at *
  have HP5:=qA hB5
  have HO5:=qA (Cj ho3 hb5)
  have HB5:=qA (hb2.trans (hb5.mono hb2.size))
  have hpw:w.heap.size≤p:=qD hb2.size hpl
  clear hB5 ho3 hb5 hb2 hpl HI3
  have hI5:=HI.out.ext HB5.out
  obtain⟨AA,cA,hav,hAS,_,_,_⟩:=J0 hI5.rows.access
  obtain⟨MA,cM,hMv,hMl,hMn,hMI,_,_⟩:=Fs hI5.rows.mem
  have c336:w5.cell? ⟨g,336,none⟩=some (.slice AA C.access.length cA):=by rw [←hav];exact hI5.access
  have c39:w5.cell? ⟨g,39,none⟩=some (.slice MA C.mem.length cM):=by rw [←hMv];exact hI5.mem
  have c337:w5.cell? ⟨g,337,none⟩=some (.int .i64 C.seq):=hI5.cell hI5.cells.seq
  have c338:w5.cell? ⟨g,338,none⟩=some (.int .u32 C.pc):=hI5.cell hI5.cells.pc
  have zg5:=hI5.lt
  have CS:=qA (fun W (hb:Below w5.heap.size w5 W)=>CS0.out AA cA MA cM W ((hAS.below hb).mono hb.size) ((hMI.below hb).mono hb.size))
  clear hI5 hav hAS hMv hMl hMn hMI
  go_upto_region 7 with(fail)
  go_simp
  refine Ad 33353463 69896 33423359 [0,1,2,3,4,5,6,7,8,9,10,11,12,13,14,15,16,17,18,19,20,21,22,23,24] (by kernel_rfl) (by kernel_rfl) (by kernel_rfl) rfl ?_
  refine rR (fun wq hwq=>i2 (hwq.at_ zg5 c336) (i2 (hwq.at_ zg5 c39) (i2 (hwq.at_ zg5 c337) (hwq.at_ zg5 c338)))) ?_
  refine oS (fun w6 hw6 K1 hK1=>?_)
  have hb6:Below w5.heap.size w5 w6:=by rw [hw6];exact(qB _ _).drew
  clear hw6
  go_wp2_with(go_at_call 75;(with_reducible refine(CS.out w6 hb6).mono ?_);rintro e w7 ⟨rfl,hb7⟩)
  refine hK1 _ _ (fun _=>True) trivial ?_
  simp only [Act.put,sA,sS,sZ]
  clear hK1 K1 CS
  refine rO ?_
  refine Aj ?_
  rintro w8 hw8
  replace hb7:=hb6.trans (hb7.mono hb6.size)
  rw [←hw8] at hb7
  clear hw8 hb6 c336 c39 c337 c338 zg5
  have hP8:=HP5.out.ext hb7
  have hb8:Below w.heap.size w w8:=HB5.out.trans (hb7.mono HB5.out.size)
  have ho8:=Cj HO5.out hb7
  have k10:w8.cell? ⟨p,10,none⟩=some (.int .i64 0):=hP8.cell 10
  have f10:=hP8.frozen 10
  have z8:=hP8.lt
  have HJ9:=qA (show Blk (w8.setCell ⟨p,10,none⟩ (.int .i64 1)) p 107 (Uop.cells { Bz with seq:=C.seq,pc:=C.pc,cause:=1 })∧Below w.heap.size w (w8.setCell ⟨p,10,none⟩ (.int .i64 1))∧(w8.setCell ⟨p,10,none⟩ (.int .i64 1)).ownsRow B 166 2 (.slice A2 sl.length c2) sl.length (Ay sl) from
   ⟨hP8.set 10 (.int .i64 1),Ap hpw hb8,ho8.kept (grownBy_setCell w8 ⟨p,10,none⟩ (.int .i64 1)) (Br ho8 hP8 (by decide))⟩)
  clear hP8 hb8 ho8 hb7 HP5 HB5 HO5
  go_upto_region 9 with(fail)
  go_simp
  clear k10 f10 z8
  generalize w8.setCell ⟨p,10,none⟩ (.int .i64 1)=w9 at *
  have HFR:=qA (qD HLOW.out hpw)
  go_upto_region 11 with(first
   |(refine Am rfl 151 _ rfl [(0, .int .u8 _),(1, .int .u8 _),(2, .int .u8 _),(3, .int .u8 _)] rfl _ (Qc _ _ _ _) ?_)
   |(refine Ae rfl 151 _ _ rfl w9.heap.size _ rfl rfl 151 _ (Blk.new w9 _ _) Ts rfl Y8 ?_;intro w10 hB10 hg10))
  go_simp
  have hb10:Below w9.heap.size w9 w10:=below_grown ((qB _ _).alloc (qC _) _) hg10 (by simp) (qC _)
  have hP10:=HJ9.out.1.ext hb10
  clear hg10
  go_upto_region 12 with(first
   |(go_at_call 33;(with_reducible refine(CF0.out w9.heap.size w10 hB10).mono ?_);rintro e w11 ⟨rfl,hb11⟩;have hP11:=hP10.ext hb11)
   |(refine B7 rfl 53 _ _ rfl p 5 i.cells rfl rfl 107 _ hP11 (Ll _) (show 5+5≤27 by decide) (Qt _) ?_;intro w12 hB12 hg12;have k10:w12.cell? ⟨p,10,none⟩=some (.int .i64 1):=hB12.cell 10;have f10:=hB12.frozen 10;have z12:=hB12.lt))
  go_simp
  have hbx:Below w.heap.size w w11:=(HJ9.out.2.1.trans (hb10.mono HJ9.out.2.1.size)).trans (hb11.mono (qD HJ9.out.2.1.size hb10.size))
  have hox:=Cj (Cj HJ9.out.2.2 hb10) hb11
  have hoy:=hox.kept hg12 (Br hox hP11 (by decide))
  have HJ13:=qA (show Blk (w12.setCell ⟨p,10,none⟩ (.int .i64 c)) p 107 (Uop.cells { Bz with seq:=C.seq,pc:=C.pc,cause:=c,ins:=i })∧Below w.heap.size w (w12.setCell ⟨p,10,none⟩ (.int .i64 c))∧(w12.setCell ⟨p,10,none⟩ (.int .i64 c)).ownsRow B 166 2 (.slice A2 sl.length c2) sl.length (Ay sl) from
   ⟨(show Blk w12 p 107 (Uop.cells { Bz with seq:=C.seq,pc:=C.pc,cause:=1,ins:=i }) from hB12).set 10 (.int .i64 c),Ap hpw (below_grown hbx hg12 hbx.size hpw),hoy.kept (grownBy_setCell w12 ⟨p,10,none⟩ (.int .i64 c)) (Br hoy hB12 (by decide))⟩)
  clear k10 f10 z12 hbx hox hoy hB12 hg12 hP11 hP10 hb11 hb10 hB10 HJ9
  generalize w12.setCell ⟨p,10,none⟩ (.int .i64 c)=w13 at *
  have hI9:=HI.out.ext (HJ13).out.2.1
  obtain⟨fr1,fr2,fr3⟩:=HI.out.fresh hpw
  obtain⟨AP,nP,hvo,hno1,hno2,hno3⟩:=Fc hI9.rows.ptrs
  have c335:w13.cell? ⟨g,335,none⟩=some (.slice AP ps.length nP):=by rw [←hvo];exact hI9.ops
  have hba:=(qB w13.heap.size w13).alloc (qC _) (.cells #[.pointer (some ⟨p,0,none⟩)] 105)
  have hIA:=hI9.ext hba
  have hrowA:B8 (w13.alloc (.cells #[.pointer (some ⟨p,0,none⟩)] 105)) B (.slice AP ps.length nP) ps:=by
   have:=hIA.rows.ptrs
   rw [hvo] at this
   exact this
  have hcA:(w13.alloc (.cells #[.pointer (some ⟨p,0,none⟩)] 105)).cell? ⟨w13.heap.size,0,none⟩=some (.pointer (some ⟨p,0,none⟩)):=(Blk.new w13 105 #[.pointer (some ⟨p,0,none⟩)]).cell 0
  have hPA:=(HJ13).out.1.ext hba
  have hOA:=Cj (HJ13).out.2.2 hba
  have hlen:ps.length≤1000:=by rw [hI9.rows.uops.len];omega
  have HPU:=qA (fun w' v' (hr:B8 w' B v' (ps++[p])) (hg:(w13.alloc (.cells #[.pointer (some ⟨p,0,none⟩)] 105)).grownBy w' (Value.slice AP ps.length nP).ownBlock) (hv:v'.ownBlock=(Value.slice AP ps.length nP).ownBlock∨∀ k,v'.ownBlock=some k→(w13.alloc (.cells #[.pointer (some ⟨p,0,none⟩)] 105)).heap.size≤k)=>
   have hg':(w13.alloc (.cells #[.pointer (some ⟨p,0,none⟩)] 105)).grownBy w' L.ops.ownBlock:=by rw [hvo];exact hg
   have hu':C9 w' B C.ops ps:=hIA.rows.uops.kept hg' (fun q hq e=>by
    obtain⟨u,hu,_⟩:=hIA.rows.uops.mem hq
    obtain⟨cur,hk⟩:=Kx hIA.rows.ptrs e.symm
    exact Bm hu hk (by decide) rfl)
   have hP':Blk w' p 107 _:=hPA.grown hg' (by
    rcases hIA.rows.ptrs.other hPA (by decide) with e | e
    ·rw [e];simp
    ·exact fun e'=>e e'.symm)
   hIA.pushed hg' hr (hu'.snoc hP' fr1 fr2) (by rw [hvo];exact hv) (fun q hq=>by
    rcases List.mem_append.1 hq with hq | hq
    ·exact Or.inl hq
    ·obtain rfl:=List.mem_singleton.1 hq
     exact Or.inr fr3) (hOA.kept hg' (by
    have:=Kw hOA hIA.rows.ptrs (by decide)
    exact this)))
  have hlow:=hIA.low
  have HT9:=qA (Ah.below (B:=B) ((HJ13).out.2.1.trans (hba.mono (HJ13).out.2.1.size)))
  clear hI9 hvo hno1 hno2 hno3 hIA hPA hOA fr1 fr2 fr3
  go_upto_region 13 with(at_builtin;refine F7 rfl (.tmp 107) (.tmp 109) rfl (v := .slice AP ps.length nP) rfl hrowA hlow hlen ⟨w13.heap.size,0,none⟩ 1 p rfl hcA ?_;intro v14 w14 hr14 hg14 hv14;obtain⟨A14,m14,n14,rfl⟩:=Q9 hr14;obtain⟨hps14,k334,k335,f334,f335,z14⟩:=HPU.out w14 _ hr14 hg14 hv14;have HJ14:=qA (qL hps14.1 (HT9.out.trans hps14.2));clear hps14 hr14 hg14 hv14)
  go_simp
  clear k334 k335 f334 f335 z14 hrowA hcA hlen hlow hba c335 HPU HT9
  generalize (w14.setCell ⟨g,334,none⟩ (.slice A2 sl.length c2)).setCell ⟨g,335,none⟩ (.slice A14 m14 n14)=w15 at *
  have h15:=HJ14.out.1
  have k337:=h15.cell h15.cells.seq
  have k41:=h15.cell h15.cells.taken
  have f337:=h15.blk.frozen 337
  have f41:=h15.blk.frozen 41
  have z15:=h15.lt
  have h16:=h15.set 337 (.int .i64 (C.seq+1)) (h15.cells.set_seq (C.seq+1)) h15.rows
  have h17:=h16.set 41 (.int .i64 (C.taken+1)) (h16.cells.set_taken (C.taken+1)) h16.rows
  have HJ17:=qA (qL h17 ((HJ14.out.2.trans (h15.turned (grownBy_setCell w15 ⟨g,337,none⟩ (.int .i64 (C.seq+1))))).trans (h16.turned (grownBy_setCell _ ⟨g,41,none⟩ (.int .i64 (C.taken+1))))))
  clear h15 h16 h17 HJ14
  go_upto_region 15 with(fail)
  go_simp
  clear k337 k41 f337 f41 z15
  generalize (w15.setCell ⟨g,337,none⟩ (.int .i64 (C.seq+1))).setCell ⟨g,41,none⟩ (.int .i64 (C.taken+1))=w17 at *
  obtain⟨LQ,csQ,hQ⟩:∃ L' cs',Af B w17 g { C with slots:=sl,ops:=C.ops++[{ Bz with seq:=C.seq,pc:=C.pc,cause:=c,ins:=i }],seq:=C.seq+1,taken:=C.taken+1 } L' (ps++[p]) cs':=⟨_,_,HJ17.out.1⟩
  have HTQ:=qA HJ17.out.2
  have hkp:(ps++[p])[C.ops.length]? = some p:=by rw [←HLEN.out];simp
  have hkq:(C.ops++[({ Bz with seq:=C.seq,pc:=C.pc,cause:=c,ins:=i }:Uop)])[C.ops.length]? = some { Bz with seq:=C.seq,pc:=C.pc,cause:=c,ins:=i }:=by simp
  have huQ:=(hQ.rows.uops.at_ C.ops.length _ p hkq hkp).1
  have HQ:=qA hQ
  have HUQ:=qA huQ
  have HKP:=qA hkp
  have c10:w17.cell? ⟨p,10,none⟩=some (.int .i64 c):=huQ.cell 10
  have c3:w17.cell? ⟨p,3,none⟩=some (.int .u32 C.pc):=huQ.cell 3
  have zQ:=huQ.lt
  clear hQ HJ17 hkp hkq huQ
  go_upto_region 16 with(fail)
  go_simp
  refine Ad 52975 12560 65535 [0,1,2,3,4,5,6,7,8,9,10,11,12,13,14,15,16] (by kernel_rfl) (by kernel_rfl) (by kernel_rfl) rfl ?_
  repeat'(first
   |refine rZ ?_
   |(refine' oR _ (by decide) (by decide) (by decide) (fun wq hwq K hK=>?_) ?_ ?_;rotate_left 1;(· have k3:=hwq.at_ zQ c3;have k10:=hwq.at_ zQ c10;first | ((refine Dw 65 _ rfl [(0, .int .u32 C.pc),(1, .int .u32 C.pc),(2, .int .i64 2),(3, .int .i64 c)] rfl _ (Sp C.pc c) ?_;exact hK)) | (go_wp2_with(fail);all_goals exact hK));rfl)
   |fail)
  refine oS (fun w18 hw18 K1 hK1=>?_)
  have hb18:Below w17.heap.size w17 w18:=by rw [hw18];exact(qB _ _).drew
  clear hw18
  have hP18:=HUQ.out.ext hb18
  refine Ch 65 _ _ rfl p 16 (By C.pc c).cells rfl rfl 107 _ hP18 (Kc _) (show 16+11≤27 by decide) (cells_one _) ?_
  intro w19 hB19 hg19
  refine hK1 undef _ (fun _=>True) trivial ?_
  simp only [Act.put,sA,sS,sZ]
  clear hK1 K1
  refine Aj ?_
  rintro w20 hw20
  rw [←hw20] at hB19 hg19
  clear hw20
  have h20:=(HQ.out.ext hb18).uopall HKP.out hP18 hg19 (u':={ Bz with seq:=C.seq,pc:=C.pc,cause:=c,ins:=i,commit:=By C.pc c }) hB19
  have e20:(C.ops++[({ Bz with seq:=C.seq,pc:=C.pc,cause:=c,ins:=i }:Uop)]).set C.ops.length { Bz with seq:=C.seq,pc:=C.pc,cause:=c,ins:=i,commit:=By C.pc c }=C.ops++[{ Bz with seq:=C.seq,pc:=C.pc,cause:=c,ins:=i,commit:=By C.pc c }]:=Gj
  have h20':Af B w20 g { C with slots:=sl,ops:=C.ops++[{ Bz with seq:=C.seq,pc:=C.pc,cause:=c,ins:=i,commit:=By C.pc c }],seq:=C.seq+1,taken:=C.taken+1 } LQ (ps++[p]) csQ:=by
   rw [←e20]
   exact h20
  have k339:=h20'.cell h20'.cells.still
  have f339:=h20'.blk.frozen 339
  have z20:=h20'.lt
  have h21:=h20'.set 339 (.bool true) (h20'.cells.set_still true) h20'.rows
  have HT21:=qA (((HTQ.out.trans (Ah.below (B:=B) hb18)).trans (Cc hP18 HFR.out hg19)).trans (h20'.turned (grownBy_setCell w20 ⟨g,339,none⟩ (.bool true))))
  have CFN:=qA (Mf h21 HKP.out (by show sl.length≤1000;rw [HSL2.out];omega))
  clear h20 e20 h20' h21 hb18 hP18 hB19 hg19 c10 c3 zQ HQ HUQ
  go_wp2_with(go_at_call 68;(with_reducible refine CFN.out.mono ?_);rintro e w22 ⟨rfl,ht22,L22,cs22,h22⟩;have HJ22:=qA (qL h22 (HT21.out.trans ht22));clear h22 ht22)
  have hxf:=HXF.out
  clear HXF
  subst hxf
  go_ret
  exact⟨rfl,HJ22.out.2,L22,_,cs22,HJ22.out.1⟩
end
def R5 (C:Core) (sl:List Slt) (i:Ins):Core:=
 { C with slots:=sl,seq:=C.seq+1,taken:=C.taken+1,names:=(takeC C i).1,there:=if Bg i=true then C.there.set (takeC C i).2.1.toNat false else C.there,ops:=C.ops++[Me C i] }
theorem Iy (sq:Int) (b:Bool):Tryz.prog.built 139 [(0, .int .i64 sq),(1, .bool b)]=some (Acc.cells ⟨sq,b,false,0,0,0,false⟩):=by kernel_rfl
theorem Gu {P:Program} {ops:Array Oper} {Q:Exit→Act→World→Prop} {a:Act} {w:World} {rest:List Oper} {o:Oper} (hw:Region.wanted o (yielded ops a.tmps)=true)
  (h:∀ K:Act→World→Prop,(∀ a w,wpList P ops Q rest a w→K a w)→o.wp P a w K Q):wpList P ops Q (o::rest) a w:=by
 unfold wpList
 rw [if_pos hw]
 exact Or.inl (h _ fun _ _ h=>h)
end Go.Proofs.YtapgojgcmlnbgaaGreatDoor
