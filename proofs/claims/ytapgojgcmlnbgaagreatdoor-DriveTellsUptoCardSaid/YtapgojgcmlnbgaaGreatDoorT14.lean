/- Parts of a proof. -/
import Derived.Test.YtapgojgcmlnbgaaGreatDoorTZ
import Derived.Test.YtapgojgcmlnbgaaGreatDoorT02
import Derived.Test.YtapgojgcmlnbgaaGreatDoorT11
import Derived.Test.YtapgojgcmlnbgaaGreatDoorT13
set_option linter.unusedSimpArgs false
set_option linter.unusedVariables false
set_option maxRecDepth 100000
set_option maxHeartbeats 16000000
namespace Go.Proofs.YtapgojgcmlnbgaaGreatDoor
open Go.RowKit
theorem Xs {L0 R0:List Uop} {u:Uop} (hs:(L0++u::R0).Pairwise (fun u v=>u.seq<v.seq)) {ps:List Nat} (hl:ps.length=(L0++u::R0).length) :
  (Ce (fun v=>decide (u.seq+1≤v.seq)) (L0++u::R0) ps)[L0.length]? = ps[L0.length]? ∧ ((L0++u::R0).filter fun v=>!decide (u.seq+1≤v.seq))[L0.length]? = some u:=by
 have hk:=S3 (fun v=>decide (u.seq+1≤v.seq)) L0.length (L0++u::R0) ps (fun i v hi hv=>by
  have hsp:=D1 hs
  rcases Nat.lt_or_ge i L0.length with h | h
  ·rw [qQ h] at hv
   have:=hsp.1 v (List.mem_of_getElem? hv)
   simp
   omega
  ·have hi2:i=L0.length:=by omega
   rw [hi2,qR (qC _),Nat.sub_self] at hv
   cases hv
   simp
   omega) hl
 refine⟨hk.1,hk.2.trans ?_⟩
 rw [qR (qC _),Nat.sub_self]
 rfl
section
variable {B:Nat} {w:World} {g p:Nat} {C:Core} {L:Lay} {ps:List Nat} {cs:Array Value}
theorem Wc (h:Af B w g C L ps cs) (hI:Inv C) {L0 R0:List Uop} {u:Uop} (ho:C.ops=L0++u::R0) (h1:u.state=1) (hl:Bp u.ins=true) (hp:ps[L0.length]? = some p) (hq:C.seq≤4611686018427387904) (hb1:0≤C.backs) (hb2:C.backs<4611686018427387904) :
  Calls Tryz.prog 38 #[.pointer (some ⟨g,0,none⟩), .pointer (some ⟨p,0,none⟩)] w (Ro B w g (B6 C L0.length)):=by
 have hu0:C.op L0.length=u:=Core.op_at ho
 obtain⟨hu,hBp,_,hg⟩:=h.uop_at hp
 rw [hu0] at hu hg
 have hum:u∈C.ops:=by rw [ho];simp
 have hf:=hI.uf u hum
 have hO:=hI.ops L0 u R0 ho
 have hCX:=Ake hI ho h1
 obtain⟨l,hlq⟩:∃ l,l=if Bp u.ins=true then M3 C u else (Cl u.ins (Ed C u) C.mem,C.access):=⟨_,rfl⟩
 obtain⟨hl1,hD⟩:=Qp hI ho h1 hlq
 have hcw:(Ac C L0 u).Wf:=Qm hI hf.rd hf.pc
 have hufD:=Akg hI ho
 have hFD:=Mc hI ho (l:=Ac C L0 u) hufD rfl
 have hFD2:=Mc hI ho (l:=Ac C L0 u) (hufD.next' hcw.next) rfl
 have hDN:=Uc C L0 R0 u (Ac C L0 u) (Ac C L0 u).next
 have hsq:=hI.seqs
 rw [ho] at hsq
 have hKP:∀ ps:List Nat,ps.length=(B9 C L0 R0 u (Ac C L0 u) { uD u (Ac C L0 u) with next:=(Ac C L0 u).next } (Cf C u (Ac C L0 u))).ops.length →
   (Ce (fun v=>decide (u.seq+1≤v.seq)) (B9 C L0 R0 u (Ac C L0 u) { uD u (Ac C L0 u) with next:=(Ac C L0 u).next } (Cf C u (Ac C L0 u))).ops ps)[L0.length]? = ps[L0.length]? ∧
   ((B9 C L0 R0 u (Ac C L0 u) { uD u (Ac C L0 u) with next:=(Ac C L0 u).next } (Cf C u (Ac C L0 u))).ops.filter fun v=>!decide (u.seq+1≤v.seq))[L0.length]? = some { uD u (Ac C L0 u) with next:=(Ac C L0 u).next }:=fun ps hl=>Xs (L0:=L0) (R0:=R0) (u:={ uD u (Ac C L0 u) with next:=(Ac C L0 u).next }) (by
  rw [List.pairwise_append,List.pairwise_cons] at hsq ⊢
  obtain⟨p1,⟨p2,p3⟩,p4⟩:=hsq
  exact⟨p1,⟨p2,p3⟩,fun a ha b hb=>by
   rcases List.mem_cons.1 hb with rfl | hb
   ·exact p4 a ha u (by simp)
   ·exact p4 a ha b (by simp [hb])⟩) (ps:=ps) hl
 have hDO:(B9 C L0 R0 u (Ac C L0 u) (uD u (Ac C L0 u)) (Cf C u (Ac C L0 u))).ops[L0.length]? = some (uD u (Ac C L0 u)):=by
  show(L0++uD u (Ac C L0 u)::R0)[L0.length]? = _
  rw [qR (qC _),Nat.sub_self]
  rfl
 have hBK:0≤(B9 C L0 R0 u (Ac C L0 u) (uD u (Ac C L0 u)) (Cf C u (Ac C L0 u))).backs∧(B9 C L0 R0 u (Ac C L0 u) (uD u (Ac C L0 u)) (Cf C u (Ac C L0 u))).backs<4611686018427387904:=⟨hb1,hb2⟩
 have hBK2:0≤(B9 C L0 R0 u (Ac C L0 u) { uD u (Ac C L0 u) with next:=(Ac C L0 u).next } (Cf C u (Ac C L0 u))).backs∧(B9 C L0 R0 u (Ac C L0 u) { uD u (Ac C L0 u) with next:=(Ac C L0 u).next } (Cf C u (Ac C L0 u))).backs<4611686018427387904:=⟨hb1,hb2⟩
 have hSQD:(B9 C L0 R0 u (Ac C L0 u) (uD u (Ac C L0 u)) (Cf C u (Ac C L0 u))).seq≤4611686018427387904:=hq
 have hseqs:0≤u.seq∧u.seq<4611686018427387904:=⟨hO.seq.1,Int.lt_of_lt_of_le hO.seq.2 hq⟩
 have hFA:Be u=true→∃ j:Nat,Jh (B9 C L0 R0 u (Ac C L0 u) (uD u (Ac C L0 u)) (Cf C u (Ac C L0 u))).access u.seq=(j:Int)∧j<(B9 C L0 R0 u (Ac C L0 u) (uD u (Ac C L0 u)) (Cf C u (Ac C L0 u))).access.length:=fun hm=>Og (Tt (Ut C u _) (u:=uD u (Ac C L0 u)) (by show _∈L0++_::R0;simp) hm)
 have hFAC:Be u=true→∃ j:Nat,Jh C.access u.seq=(j:Int)∧j<C.access.length:=fun hm=>by
  rw [hI.access]
  exact Og (Tt (Ew _) hum hm)
 generalize Ac C L0 u=c at *
 generalize B9 C L0 R0 u c (uD u c) (Cf C u c)=D at *
 generalize B9 C L0 R0 u c { uD u c with next:=c.next } (Cf C u c)=D' at *
 generalize B6 C L0.length=X at *
 have hk0:L0.length<C.ops.length:=by rw [ho];simp
 have hDop:D.op L0.length=uD u c:=by unfold Core.op;simp [List.getD,hDO]
 have hCWD:(D.op L0.length).commit.Wf:=by rw [hDop];exact hcw
 have hFA2:Be u=true→∃ j:Nat,Jh D.access (D.op L0.length).seq=(j:Int)∧j<D.access.length:=by rw [hDop];exact hFA
 have hRW:=Vq (C:=C) (u:=u) hI.hart hI.words.2 hf.pc
 have CR:=qA (Abm h hu hI.hart.len hf.rs1 hf.rs2 hf.a hf.b)
 generalize L0.length=k at *
 have LD:=qA (fun W=>Io u.ins W)
 have ST:=qA (fun W=>Mu u.ins W)
 obtain⟨d,hdd⟩:=qH hf.dest.1
 have hd96:d<96:=by have:=hf.dest.2;omega
 obtain⟨wd,hwd⟩:∃ wd,wd=C.word u.dest:=⟨_,rfl⟩
 rw [←hwd] at hCX
 have hwd2:C.words.getD d 0=wd:=by
  rw [hwd]
  unfold Core.word
  rw [hdd]
  rfl
 obtain⟨C1,hC1⟩:∃ C1,C1=({ C with access:=l.2,ops:=C.ops.set k { u with commit:=l.1 } }:Core):=⟨_,rfl⟩
 rw [←hC1,hl1] at hD
 have HWD:Hid (C1.words.getD d 0=wd):=qA (by rw [hC1];exact hwd2)
 have HW96:Hid (C1.words.length=96):=qA (by rw [hC1];exact hI.words.1)
 have HT96:Hid (C1.there.length=96):=qA (by rw [hC1];exact hI.there)
 have HSL:Hid ((Di C1 u.dest c.value).slots.length≤1000):=qA (by
  have e:(Di C1 u.dest c.value).slots=C.slots:=by
   unfold Di
   split<;>rw [hC1]
  rw [e]
  have:=hI.lens
  omega)
 have HDL:=qA hf.dest.2
 have HDD:=qA hdd
 have HC1:=qA hC1
 have HD:=qA hD
 have HDN:=qA hDN
 have HDO:=qA hDO
 have HFD:=qA hFD
 have HFD2:=qA hFD2
 have HBK:=qA hBK
 have HBK2:=qA hBK2
 have HSQ:=qA hSQD
 have HCX:=qA hCX
 have HCW:=qA hCWD
 have HKP:=qA hKP
 have HI:=qA h
 have HP:=qA hu
 have hs0:=hseqs.1
 have hs1:=hseqs.2
 have hsb:A0 u.ins=false:=by
  have h2:=D5.1 hl
  unfold A0
  simp
  omega
 have HSB:=qA hsb
 rw [hl] at LD
 rw [hsb] at ST
 rw [if_pos hl] at hlq
 obtain⟨j,hj,hjl⟩:=hFAC (by unfold Be;rw [hl];rfl)
 have hle:=hI.lens
 have hCL0:∀ W b,Af B W g C L ps cs→Blk W b 30 (Ed C u).cells→Calls Tryz.prog 66 #[.pointer (some ⟨g,0,none⟩), .pointer (some ⟨p,0,none⟩), .pointer (some ⟨b,0,none⟩)] W fun e w'=>e = .returned (.tuple #[])∧Ah B W w'∧Af B w' g C1 L ps cs:=fun W b hh hH=>by
  have hx:C.op k=u:=hu0
  have:=Afb hh hp (b:=b) (by rw [hx];exact hH) (by rw [hx];exact hRW) (by rw [hx];exact hl) (by rw [hx];exact hf) (hI.acc_wf (by omega)) hI.bytes hI.room (by omega) (j:=j) (by rw [hx];exact hj) hjl
  rw [hx,←hlq] at this
  rw [hC1]
  exact this
 have CL:=qA hCL0
 have hC1o:C1.ops[k]? = some { u with commit:=c }:=by
  rw [hC1,hl1]
  exact List.getElem?_set_self hk0
 have HC1O:=qA hC1o
 clear hCL0 hC1o h hI hl ho h1 hu0 hu hg hum hf hO hCX hlq hl1 hD hcw hufD hFD hFD2 hDN hsq hKP hDO hBK hBK2 hSQD hseqs hFA hFAC hk0 hDop hCWD hFA2 hRW hdd hwd hwd2 hC1 hsb hj hjl hle hq hb1 hb2
 generalize Ed C u=hh at *
 rcases hgu:u.guessed with _ | _
 focus
  have HGU:=qA hgu
  have HG:Hid ((u.guessed&&decide (wd≠c.value))=false):=qA (by rw [hgu];rfl)
  clear hgu
 rotate_left 1
 focus
  have HGU:=qA hgu
  by_cases hwv:wd=c.value
  focus
   have e2:(wd != c.value)=false:=by simpa using hwv
   have HG:Hid ((u.guessed&&decide (wd≠c.value))=false):=qA (by rw [hgu,qG (fun hh=>hh hwv)];rfl)
   clear hwv hgu
  rotate_left 1
  focus
   have e2:(wd != c.value)=true:=by simpa using hwv
   have HG:Hid ((u.guessed&&decide (wd≠c.value))=true):=qA (by rw [hgu,qF hwv];rfl)
   clear hwv hgu
 all_goals
  go_enter Tryz.func38,Tryz.ntmps38
  go_upto_region 4 with(first
   |(go_at_call 64;(with_reducible refine CR.out.mono ?_);rintro e w1 ⟨b,rfl,hbw,hb1,hH1⟩;have hP1:=HP.out.ext hb1;have hI1:=HI.out.ext hb1)
   |(refine Ai rfl 53 _ rfl p 5 rfl 107 u.cells 5 _ hP1 Tryz.underlying53 rfl Au (by rw [Uop.size];decide) ?_;rw [Uop.insX])
   |(go_at_call 65;(with_reducible refine(LD.out _).mono ?_);rintro e w2 ⟨rfl,hb2⟩;have hH2:=hH1.ext hb2;have hP2:=hP1.ext hb2;have hI2:=hI1.ext hb2;have ht2:=Ah.below (B:=B) (hb1.trans (hb2.mono hb1.size)))
   |(go_at_call 66;(with_reducible refine(CL.out _ _ hI2 hH2).mono ?_);rintro e w3 ⟨rfl,ht3,h3⟩))
  go_simp
  have HI3:=qA h3
  have HP3:=qA (h3.rows.uops.at_ k _ p HC1O.out hp).1
  have HT3:=qA (ht2.trans ht3)
  clear h3 ht3 ht2 hI2 hP2 hH2 hb2 hI1 hP1 hH1 hb1 hbw HI HP CL CR
  have c15:w3.cell? ⟨p,15,none⟩=some (.bool u.guessed):=HP3.out.cell 15
  have c13:w3.cell? ⟨p,13,none⟩=some (.int .i64 u.dest):=HP3.out.cell 13
  have c21:w3.cell? ⟨p,21,none⟩=some (.int .u32 c.value):=HP3.out.cell 21
  have cw:w3.cell? ⟨g,142+d,none⟩=some (.int .u32 wd):=by
   have:=HI3.out.word hd96
   rw [HWD.out] at this
   exact this
  have z3:=HP3.out.lt
  have zg3:=HI3.out.lt
  rw [HGU.out] at c15
  rw [HDD.out] at c13
  go_upto_region 4 with(fail)
  go_simp
  refine Ad 3923447 270856 4194303 [0,1,2,3,4,5,6,7,8,9,10,11,12,13,14,15,16,17,18,19,20,21] (by kernel_rfl) (by kernel_rfl) (by kernel_rfl) rfl ?_
  repeat'(first
   |refine oQ rfl rfl ?_
   |(refine' oE _ (by decide) (by decide) (fun wq K hK=>?_) ?_ ?_;rotate_left 1;(· go_wp2_with(fail);all_goals exact hK);rfl)
   |(refine' oR _ (by decide) (by decide) (by decide) (fun wq hwq K hK=>?_) ?_ ?_;rotate_left 1;(· have k15:=hwq.at_ z3 c15;have k13:=hwq.at_ z3 c13;have k21:=hwq.at_ z3 c21;have kw:=hwq.at_ zg3 cw;go_wp2_with(fail);all_goals exact hK);rfl)
   |((first | refine oT rfl rfl rfl rfl ?_ ?_ | refine oF rfl rfl rfl rfl ?_ ?_)<;>intro hc<;>first | (cases hc;done) | ((try cases hc);simp only [Act.put,sA,sS,sZ]))
   |(refine oU rfl rfl rfl rfl ?_;(try simp only [Act.put,sA,sS,sZ])))
  refine Aj ?_
  intro w4 hw4
  replace hw4:Below w3.heap.size w3 w4:=by first | exact hw4 | (rw [hw4];exact(qB _ _).drew)
  have c21':w4.cell? ⟨p,21,none⟩=some (.int .u32 c.value):=(hw4.cell (p:=⟨p,21,none⟩) z3).trans c21
  have z4:p<w4.heap.size:=qE z3 hw4.size
  have HI4:=qA (HI3.out.ext hw4)
  have HP4:=qA (HP3.out.ext hw4)
  have HT4:=qA (HT3.out.trans (Ah.below (B:=B) hw4))
  clear c15 c13 c21 cw z3 zg3 hw4 HI3 HP3 HT3
  have CG:=qA (fun x=>N9 HI4.out HP4.out HDL.out HW96.out HT96.out x)
  have CFN:=qA (fun W cs' (h:Af B W g (Di C1 u.dest c.value) L ps cs')=>Mf h hp HSL.out)
  go_upto_region 7 with(first
   |(go_at_call 67;(with_reducible refine(CG.out _).mono ?_);rintro e w5 ⟨rfl,hg5,cs5,h5⟩;have ht5:=HI4.out.turned hg5)
   |(go_at_call 68;(with_reducible refine(CFN.out _ _ h5).mono ?_);rintro e w6 ⟨rfl,ht6,L6,cs6,h6⟩))
  go_simp
  have h7:Af B w6 g D L6 ps cs6:=by rw [←HD.out];exact h6
  have HI6:=qA h7
  have HT6:=qA ((HT4.out.trans ht5).trans ht6)
  have hu6:=(h7.rows.uops.at_ k (uD u c) p HDO.out hp).1
  clear h5 ht5 ht6 h6 h7 hg5 CG CFN HI4 HP4 HT4 z4 c21'
  have c18:w6.cell? ⟨p,18,none⟩=some (.int .i64 c.state):=hu6.cell 18
  have c0:w6.cell? ⟨p,0,none⟩=some (.int .i64 u.seq):=hu6.cell 0
  have c3:w6.cell? ⟨p,3,none⟩=some (.int .u32 u.pc):=hu6.cell 3
  have c4:w6.cell? ⟨p,4,none⟩=some (.int .u32 u.next):=hu6.cell 4
  have c17:w6.cell? ⟨p,17,none⟩=some (.int .u32 c.next):=hu6.cell 17
  have z6:=hu6.lt
  have HP6:=qA hu6
  clear hu6
  by_cases q0:c.state=0
  rotate_left 1
  ·skip
   have q0':(c.state != 0)=true:=by simpa using q0
   have HX:=qA (HCX.out.trap q0)
   have CB:=qA (fun W (hb:Below w6.heap.size w6 W)=>Nh (HI6.out.ext hb) (u.seq+1) u.pc HBK.out.1 HBK.out.2 (by have:=HFD.out.lens;omega) (by have:=HFD.out.lens;omega) (by have:=HFD.out.lens;omega) (by have:=HFD.out.free;omega) (HFD.out.found (u.seq+1)) HFD.out.undo)
   clear q0
   go_upto_region 8 with(fail)
   go_simp
   clear c18 c4 c17
   refine Ad 495 528 1023 [0,1,2,3,4,5,6,7,8,9,10] (by kernel_rfl) (by kernel_rfl) (by kernel_rfl) rfl ?_
   refine rR (fun wq hwq=>i2 (hwq.at_ z6 c0) (hwq.at_ z6 c3)) ?_
   refine oS (fun w7 hw7 K1 hK1=>?_)
   have hb7:Below w6.heap.size w6 w7:=by rw [hw7];exact(qB _ _).drew
   clear hw7
   go_wp2_with(go_at_call 69;(with_reducible refine(CB.out w7 hb7).mono ?_);rintro e w8 ⟨rfl,ht8,L8,cs8,h8⟩)
   refine hK1 _ _ (fun _=>True) trivial ?_
   simp only [Act.put,sA,sS,sZ]
   clear hK1 K1 CB
   refine Aj ?_
   rintro w9 hw9
   rw [←hw9] at ht8 h8
   clear hw9
   have k339:=h8.cell h8.cells.still
   have f339:=h8.blk.frozen 339
   have z9:=h8.lt
   have h9:=h8.set 339 (.bool true) (h8.cells.set_still true) h8.rows
   have HJ:=qA (qL h9 (((HT6.out.trans (Ah.below (B:=B) hb7)).trans ht8).trans (h8.turned (grownBy_setCell w9 ⟨g,339,none⟩ (.bool true)))))
   clear h8 h9 ht8 hb7 c0 c3 z6
   go_wp2_with(fail)
   refine bodyPost_ret (results_none rfl _ _ _) rfl ?_
   exact⟨rfl,HJ.out.2,_,_,_,by rw [HX.out];exact HJ.out.1⟩
  by_cases q1:c.next=u.next
  focus
   have e1:(c.next != u.next)=false:=by simpa using q1
   have HQ1:=qA (show decide (c.next≠u.next)=false from qG (fun h=>h q1))
   clear q1
  rotate_left 1
  focus
   have e1:(c.next != u.next)=true:=by simpa using q1
   have HQ1:=qA (show decide (c.next≠u.next)=true from qF q1)
   clear q1
  all_goals
   first
   |skip
    have q0':(c.state != 0)=false:=by simpa using q0
    have HX:=qA (HCX.out.hit q0 HSB.out (by rw [HG.out,HQ1.out];rfl))
    clear q0
    go_upto_region 10 with(fail)
    go_simp
    refine Ad 7103 1088 8191 [0,1,2,3,4,5,6,7,8,9,10,11,12] (by kernel_rfl) (by kernel_rfl) (by kernel_rfl) rfl ?_
    repeat'(first
     |refine oQ rfl rfl ?_
     |(refine' oE _ (by decide) (by decide) (fun wq K hK=>?_) ?_ ?_;rotate_left 1;(· go_wp2_with(fail);all_goals exact hK);rfl)
     |(refine' oR _ (by decide) (by decide) (by decide) (fun wq hwq K hK=>?_) ?_ ?_;rotate_left 1;(· have k17:=hwq.at_ z6 c17;have k4:=hwq.at_ z6 c4;go_wp2_with(fail);all_goals exact hK);rfl)
     |((first | refine oT rfl rfl rfl rfl ?_ ?_ | refine oF rfl rfl rfl rfl ?_ ?_)<;>intro hc<;>first | (cases hc;done) | ((try cases hc);simp only [Act.put,sA,sS,sZ]))
     |(refine oU rfl rfl rfl rfl ?_;(try simp only [Act.put,sA,sS,sZ])))
    refine Aj ?_
    intro w7 hw7
    replace hw7:Below w6.heap.size w6 w7:=by first | exact hw7 | (rw [hw7];exact(qB _ _).drew)
    have HI7:=qA (HI6.out.ext hw7)
    have HP7:=qA (HP6.out.ext hw7)
    have HT7:=qA (HT6.out.trans (Ah.below (B:=B) hw7))
    clear c18 c0 c3 c4 c17 z6 hw7
    go_wp2_with(first
     |(refine Ai rfl 53 _ rfl p 5 rfl 107 (uD u c).cells 5 _ HP7.out Tryz.underlying53 rfl Au (by rw [Uop.size];decide) ?_;rw [show(uD u c).cells.extract 5 (5+5)=u.ins.cells from rfl])
     |(go_at_call 70;(with_reducible refine(ST.out _).mono ?_);rintro e w8 ⟨rfl,hb8⟩))
    refine bodyPost_end (results_none rfl _ _ _) rfl ?_
    exact⟨rfl,HT7.out.trans (Ah.below hb8),_,_,_,by rw [HX.out];exact HI7.out.ext hb8⟩
   |skip
    have q0':(c.state != 0)=false:=by simpa using q0
    have HX:=qA (HCX.out.miss q0 HSB.out (by rw [HG.out,HQ1.out];rfl))
    clear q0
    go_upto_region 10 with(fail)
    go_simp
    refine Ad 7103 1088 8191 [0,1,2,3,4,5,6,7,8,9,10,11,12] (by kernel_rfl) (by kernel_rfl) (by kernel_rfl) rfl ?_
    repeat'(first
     |refine oQ rfl rfl ?_
     |(refine' oE _ (by decide) (by decide) (fun wq K hK=>?_) ?_ ?_;rotate_left 1;(· go_wp2_with(fail);all_goals exact hK);rfl)
     |(refine' oR _ (by decide) (by decide) (by decide) (fun wq hwq K hK=>?_) ?_ ?_;rotate_left 1;(· have k17:=hwq.at_ z6 c17;have k4:=hwq.at_ z6 c4;go_wp2_with(fail);all_goals exact hK);rfl)
     |((first | refine oT rfl rfl rfl rfl ?_ ?_ | refine oF rfl rfl rfl rfl ?_ ?_)<;>intro hc<;>first | (cases hc;done) | ((try cases hc);simp only [Act.put,sA,sS,sZ]))
     |(refine oU rfl rfl rfl rfl ?_;(try simp only [Act.put,sA,sS,sZ])))
    refine Aj ?_
    intro w7 hw7
    replace hw7:Below w6.heap.size w6 w7:=by first | exact hw7 | (rw [hw7];exact(qB _ _).drew)
    have HI7:=qA (HI6.out.ext hw7)
    have HP7:=qA (HP6.out.ext hw7)
    have HT7:=qA (HT6.out.trans (Ah.below (B:=B) hw7))
    clear c18 c0 c3 c4 c17 z6 hw7
    have e4:w7.cell? ⟨p,4,none⟩=some (.int .u32 u.next):=HP7.out.cell 4
    have e17:w7.cell? ⟨p,17,none⟩=some (.int .u32 c.next):=HP7.out.cell 17
    have f4:=HP7.out.frozen 4
    have z7:=HP7.out.lt
    have h8:=HI7.out.setuop hp HP7.out 4 (.int .u32 c.next) (Uop.set_next (uD u c) c.next)
    have hu8:=HP7.out.set 4 (.int .u32 c.next)
    have HJ8:=qA (qL h8 (qL hu8 (HT7.out.trans (Cc HP7.out hBp (grownBy_setCell w7 ⟨p,4,none⟩ (.int .u32 c.next))))))
    clear h8 hu8
    go_upto_region 12 with(fail)
    go_simp
    clear e4 e17 f4 z7 HI7 HP7 HT7
    generalize w7.setCell ⟨p,4,none⟩ (.int .u32 c.next)=w8 at *
    have HI8:Hid (Af B w8 g D' L6 ps cs6):=qA (by rw [←HDN.out];exact HJ8.out.1)
    have HP8:Blk w8 p 107 (Uop.cells { uD u c with next:=c.next }):=HJ8.out.2.1
    have HT8:=qA HJ8.out.2.2
    have d0:w8.cell? ⟨p,0,none⟩=some (.int .i64 u.seq):=HP8.cell 0
    have d4:w8.cell? ⟨p,4,none⟩=some (.int .u32 c.next):=HP8.cell 4
    have z8:=HP8.lt
    have CB:=qA (fun W (hb:Below w8.heap.size w8 W)=>Nh (HI8.out.ext hb) (u.seq+1) c.next HBK2.out.1 HBK2.out.2 (by have:=HFD2.out.lens;omega) (by have:=HFD2.out.lens;omega) (by have:=HFD2.out.lens;omega) (by have:=HFD2.out.free;omega) (HFD2.out.found (u.seq+1)) HFD2.out.undo)
    clear HP8 HJ8
    refine Ad 495 528 1023 [0,1,2,3,4,5,6,7,8,9,10] (by kernel_rfl) (by kernel_rfl) (by kernel_rfl) rfl ?_
    refine rR (fun wq hwq=>i2 (hwq.at_ z8 d0) (hwq.at_ z8 d4)) ?_
    refine oS (fun w9 hw9 K1 hK1=>?_)
    have hb9:Below w8.heap.size w8 w9:=by rw [hw9];exact(qB _ _).drew
    clear hw9
    go_wp2_with(go_at_call 69;(with_reducible refine(CB.out w9 hb9).mono ?_);rintro e w10 ⟨rfl,ht10,L10,cs10,h10⟩)
    refine hK1 _ _ (fun _=>True) trivial ?_
    simp only [Act.put,sA,sS,sZ]
    clear hK1 K1 CB
    refine Aj ?_
    rintro w11 hw11
    rw [←hw11] at ht10 h10
    clear hw11
    have HT11:=qA ((HT8.out.trans (Ah.below (B:=B) hb9)).trans ht10)
    have hkp:=HKP.out ps (HI8.out.rows.uops.len)
    have hu11:=(h10.rows.uops.at_ k { uD u c with next:=c.next } p hkp.2 (by rw [hkp.1];exact hp)).1
    have HI11:=qA h10
    clear h10 ht10 hb9 d0 d4 z8 hkp
    go_wp2_with(first
     |(refine Ai rfl 53 _ rfl p 5 rfl 107 (Uop.cells { uD u c with next:=c.next }) 5 _ hu11 Tryz.underlying53 rfl Au (by rw [Uop.size];decide) ?_;rw [show(Uop.cells { uD u c with next:=c.next }).extract 5 (5+5)=u.ins.cells from rfl])
     |(go_at_call 70;(with_reducible refine(ST.out _).mono ?_);rintro e w12 ⟨rfl,hb12⟩))
    refine bodyPost_end (results_none rfl _ _ _) rfl ?_
    exact⟨rfl,HT11.out.trans (Ah.below hb12),_,_,_,by rw [HX.out];exact HI11.out.ext hb12⟩
theorem Wb (h:Af B w g C L ps cs) (hI:Inv C) {L0 R0:List Uop} {u:Uop} (ho:C.ops=L0++u::R0) (h1:u.state=1) (hl:Bp u.ins=false) (hp:ps[L0.length]? = some p) (hq:C.seq≤4611686018427387904) (hb1:0≤C.backs) (hb2:C.backs<4611686018427387904) :
  Calls Tryz.prog 38 #[.pointer (some ⟨g,0,none⟩), .pointer (some ⟨p,0,none⟩)] w (Ro B w g (B6 C L0.length)):=by
 have hu0:C.op L0.length=u:=Core.op_at ho
 obtain⟨hu,hBp,_,hg⟩:=h.uop_at hp
 rw [hu0] at hu hg
 have hum:u∈C.ops:=by rw [ho];simp
 have hf:=hI.uf u hum
 have hO:=hI.ops L0 u R0 ho
 have hCX:=Ake hI ho h1
 obtain⟨l,hlq⟩:∃ l,l=if Bp u.ins=true then M3 C u else (Cl u.ins (Ed C u) C.mem,C.access):=⟨_,rfl⟩
 obtain⟨hl1,hD⟩:=Qp hI ho h1 hlq
 have hcw:(Ac C L0 u).Wf:=Qm hI hf.rd hf.pc
 have hufD:=Akg hI ho
 have hFD:=Mc hI ho (l:=Ac C L0 u) hufD rfl
 have hFD2:=Mc hI ho (l:=Ac C L0 u) (hufD.next' hcw.next) rfl
 have hDN:=Uc C L0 R0 u (Ac C L0 u) (Ac C L0 u).next
 have hsq:=hI.seqs
 rw [ho] at hsq
 have hKP:∀ ps:List Nat,ps.length=(B9 C L0 R0 u (Ac C L0 u) { uD u (Ac C L0 u) with next:=(Ac C L0 u).next } (Cf C u (Ac C L0 u))).ops.length →
   (Ce (fun v=>decide (u.seq+1≤v.seq)) (B9 C L0 R0 u (Ac C L0 u) { uD u (Ac C L0 u) with next:=(Ac C L0 u).next } (Cf C u (Ac C L0 u))).ops ps)[L0.length]? = ps[L0.length]? ∧
   ((B9 C L0 R0 u (Ac C L0 u) { uD u (Ac C L0 u) with next:=(Ac C L0 u).next } (Cf C u (Ac C L0 u))).ops.filter fun v=>!decide (u.seq+1≤v.seq))[L0.length]? = some { uD u (Ac C L0 u) with next:=(Ac C L0 u).next }:=fun ps hl=>Xs (L0:=L0) (R0:=R0) (u:={ uD u (Ac C L0 u) with next:=(Ac C L0 u).next }) (by
  rw [List.pairwise_append,List.pairwise_cons] at hsq ⊢
  obtain⟨p1,⟨p2,p3⟩,p4⟩:=hsq
  exact⟨p1,⟨p2,p3⟩,fun a ha b hb=>by
   rcases List.mem_cons.1 hb with rfl | hb
   ·exact p4 a ha u (by simp)
   ·exact p4 a ha b (by simp [hb])⟩) (ps:=ps) hl
 have hDO:(B9 C L0 R0 u (Ac C L0 u) (uD u (Ac C L0 u)) (Cf C u (Ac C L0 u))).ops[L0.length]? = some (uD u (Ac C L0 u)):=by
  show(L0++uD u (Ac C L0 u)::R0)[L0.length]? = _
  rw [qR (qC _),Nat.sub_self]
  rfl
 have hBK:0≤(B9 C L0 R0 u (Ac C L0 u) (uD u (Ac C L0 u)) (Cf C u (Ac C L0 u))).backs∧(B9 C L0 R0 u (Ac C L0 u) (uD u (Ac C L0 u)) (Cf C u (Ac C L0 u))).backs<4611686018427387904:=⟨hb1,hb2⟩
 have hBK2:0≤(B9 C L0 R0 u (Ac C L0 u) { uD u (Ac C L0 u) with next:=(Ac C L0 u).next } (Cf C u (Ac C L0 u))).backs∧(B9 C L0 R0 u (Ac C L0 u) { uD u (Ac C L0 u) with next:=(Ac C L0 u).next } (Cf C u (Ac C L0 u))).backs<4611686018427387904:=⟨hb1,hb2⟩
 have hSQD:(B9 C L0 R0 u (Ac C L0 u) (uD u (Ac C L0 u)) (Cf C u (Ac C L0 u))).seq≤4611686018427387904:=hq
 have hseqs:0≤u.seq∧u.seq<4611686018427387904:=⟨hO.seq.1,Int.lt_of_lt_of_le hO.seq.2 hq⟩
 have hFA:Be u=true→∃ j:Nat,Jh (B9 C L0 R0 u (Ac C L0 u) (uD u (Ac C L0 u)) (Cf C u (Ac C L0 u))).access u.seq=(j:Int)∧j<(B9 C L0 R0 u (Ac C L0 u) (uD u (Ac C L0 u)) (Cf C u (Ac C L0 u))).access.length:=fun hm=>Og (Tt (Ut C u _) (u:=uD u (Ac C L0 u)) (by show _∈L0++_::R0;simp) hm)
 have hFAC:Be u=true→∃ j:Nat,Jh C.access u.seq=(j:Int)∧j<C.access.length:=fun hm=>by
  rw [hI.access]
  exact Og (Tt (Ew _) hum hm)
 generalize Ac C L0 u=c at *
 generalize B9 C L0 R0 u c (uD u c) (Cf C u c)=D at *
 generalize B9 C L0 R0 u c { uD u c with next:=c.next } (Cf C u c)=D' at *
 generalize B6 C L0.length=X at *
 have hk0:L0.length<C.ops.length:=by rw [ho];simp
 have hDop:D.op L0.length=uD u c:=by unfold Core.op;simp [List.getD,hDO]
 have hCWD:(D.op L0.length).commit.Wf:=by rw [hDop];exact hcw
 have hFA2:Be u=true→∃ j:Nat,Jh D.access (D.op L0.length).seq=(j:Int)∧j<D.access.length:=by rw [hDop];exact hFA
 have hRW:=Vq (C:=C) (u:=u) hI.hart hI.words.2 hf.pc
 have CR:=qA (Abm h hu hI.hart.len hf.rs1 hf.rs2 hf.a hf.b)
 generalize L0.length=k at *
 have LD:=qA (fun W=>Io u.ins W)
 have ST:=qA (fun W=>Mu u.ins W)
 obtain⟨d,hdd⟩:=qH hf.dest.1
 have hd96:d<96:=by have:=hf.dest.2;omega
 obtain⟨wd,hwd⟩:∃ wd,wd=C.word u.dest:=⟨_,rfl⟩
 rw [←hwd] at hCX
 have hwd2:C.words.getD d 0=wd:=by
  rw [hwd]
  unfold Core.word
  rw [hdd]
  rfl
 obtain⟨C1,hC1⟩:∃ C1,C1=({ C with access:=l.2,ops:=C.ops.set k { u with commit:=l.1 } }:Core):=⟨_,rfl⟩
 rw [←hC1,hl1] at hD
 have HWD:Hid (C1.words.getD d 0=wd):=qA (by rw [hC1];exact hwd2)
 have HW96:Hid (C1.words.length=96):=qA (by rw [hC1];exact hI.words.1)
 have HT96:Hid (C1.there.length=96):=qA (by rw [hC1];exact hI.there)
 have HSL:Hid ((Di C1 u.dest c.value).slots.length≤1000):=qA (by
  have e:(Di C1 u.dest c.value).slots=C.slots:=by
   unfold Di
   split<;>rw [hC1]
  rw [e]
  have:=hI.lens
  omega)
 have HDL:=qA hf.dest.2
 have HDD:=qA hdd
 have HC1:=qA hC1
 have HD:=qA hD
 have HDN:=qA hDN
 have HDO:=qA hDO
 have HFD:=qA hFD
 have HFD2:=qA hFD2
 have HBK:=qA hBK
 have HBK2:=qA hBK2
 have HSQ:=qA hSQD
 have HCX:=qA hCX
 have HCW:=qA hCWD
 have HKP:=qA hKP
 have HI:=qA h
 have HP:=qA hu
 have hs0:=hseqs.1
 have hs1:=hseqs.2
 have hgu:=Uw hI ho hl
 rw [hl] at LD
 rw [if_neg (by rw [hl];decide)] at hlq
 have hle:=hI.lens
 have hlc:l.2=C.access:=by rw [hlq]
 have hlv:Cl u.ins (Ed C u) C.mem=c:=by rw [←hl1,hlq]
 have hfa2:=hFA2
 have hC1a:C1={ C with ops:=C.ops.set k { u with commit:=c } }:=by rw [hC1,hl1,hlc]
 have hC1o:C1.ops[k]? = some { u with commit:=c }:=by
  rw [hC1a]
  exact List.getElem?_set_self hk0
 have HC1O:=qA hC1o
 have HC1A:=qA hC1a
 have CDO:=qA (fun b A cap W (hh:Blk W b 30 (Ed C u).cells) hA=>Ui u.ins (Ed C u) b 0 A cap C.mem W hRW hf.rs1.1 hf.rs1.2 hf.rs2.1 hf.rs2.2 (F8.of_blk hRW.len hh) (by have:=hI.room;omega) hI.bytes hA)
 rw [hlv] at CDO
 have HGU:=qA hgu
 have hstm:A0 u.ins=true→Be u=true:=fun e=>by unfold Be;rw [e];cases Bp u.ins<;>rfl
 have HFA3:=qA (fun e=>hFA2 (hstm e))
 clear hC1o h hI hl ho h1 hu0 hu hg hum hf hO hCX hlq hl1 hD hcw hufD hFD hFD2 hDN hsq hKP hDO hBK hBK2 hSQD hseqs hFA hFAC hk0 hDop hCWD hFA2 hRW hdd hwd hwd2 hC1 hle hq hb1 hb2 hlc hlv hfa2 hC1a hgu hstm
 generalize Ed C u=hh at *
 have HG:Hid ((u.guessed&&decide (wd≠c.value))=false):=qA (by rw [HGU.out];rfl)
 rcases hsb:A0 u.ins with _ | _
 focus
  have HSB:=qA hsb
  rw [hsb] at ST
  clear hsb HFA3
 rotate_left 1
 focus
  have HSB:=qA hsb
  rw [hsb] at ST
  obtain⟨jf,hjf,hjl⟩:=HFA3.out hsb
  have HFA:=qA (qL hjf hjl)
  clear hsb HFA3 hjf hjl
 rotate_left 1
 all_goals
  go_enter Tryz.func38,Tryz.ntmps38
  go_upto_region 3 with(first
   |(go_at_call 64;(with_reducible refine CR.out.mono ?_);rintro e w1 ⟨b,rfl,hbw,hb1,hH1⟩;have hP1:=HP.out.ext hb1;have hI1:=HI.out.ext hb1)
   |(refine Ai rfl 53 _ rfl p 5 rfl 107 u.cells 5 _ hP1 Tryz.underlying53 rfl Au (by rw [Uop.size];decide) ?_;rw [Uop.insX])
   |(go_at_call 65;(with_reducible refine(LD.out _).mono ?_);rintro e w2 ⟨rfl,hb2⟩;have hH2:=hH1.ext hb2;have hP2:=hP1.ext hb2;have hI2:=hI1.ext hb2;have ht2:=Ah.below (B:=B) (hb1.trans (hb2.mono hb1.size)))
   )
  go_simp
  obtain⟨MA,cM,hMv,hMl,hMn,hMI,_,_⟩:=Fs hI2.rows.mem
  have c39:w2.cell? ⟨g,39,none⟩=some (.slice MA C.mem.length cM):=by rw [←hMv];exact hI2.mem
  have zg2:=hI2.lt
  have z2:=hP2.lt
  have HI2:=qA hI2
  have HP2:=qA hP2
  have CDW:=qA (fun W (hb:Below w2.heap.size w2 W)=>CDO.out b MA cM W (hH2.ext hb) ((hMI.below hb).mono hb.size))
  have HT2:=qA ht2
  clear hMv hMl hMn hMI hI2 hP2 hH2 hb2 hI1 hP1 hH1 hb1 hbw ht2 CDO HI HP CR
  refine Ad 13295 1040 14335 [0,1,2,3,4,5,6,7,8,9,10,11,12,13,14] (by kernel_rfl) (by kernel_rfl) (by kernel_rfl) rfl ?_
  repeat'(first
   |refine rZ ?_
   |(refine' oR _ (by decide) (by decide) (by decide) (fun wq hwq K hK=>?_) ?_ ?_;rotate_left 1;(· have k39:=hwq.at_ zg2 c39;first | ((refine Az 53 _ rfl p 5 rfl 107 u.cells 5 _ (HP2.out.ext hwq) Tryz.underlying53 rfl Au (by rw [Uop.size];decide) ?_;rw [Uop.insX];exact hK)) | (go_wp2_with(fail);all_goals exact hK));rfl)
   |fail)
  refine oS (fun w21 hw21 K1 hK1=>?_)
  have hb21:Below w2.heap.size w2 w21:=by rw [hw21];exact(qB _ _).drew
  clear hw21
  go_wp2_with(go_at_call 35;(with_reducible refine(CDW.out w21 hb21).mono ?_);rintro e w22 ⟨rfl,hb22⟩)
  refine hK1 _ _ (fun _=>True) trivial ?_
  simp only [Act.put,sA,sS,sZ]
  clear hK1 K1 CDW
  refine rO ?_
  refine oS (fun w23 hw23 K1 hK1=>?_)
  replace hb22:=hb21.trans (hb22.mono hb21.size)
  rw [←hw23] at hb22
  clear hw23 hb21
  have hP23:=HP2.out.ext hb22
  refine Ch 65 _ _ rfl p 16 c.cells rfl rfl 107 u.cells hP23 (Kc _) (by rw [Uop.size,Mb];decide) (cells_one _) ?_
  intro w24 hB24 hg24
  refine hK1 undef _ (fun _=>True) trivial ?_
  simp only [Act.put,sA,sS,sZ]
  clear hK1 K1
  refine Aj ?_
  rintro w3 hw3
  rw [←hw3] at hB24 hg24
  clear hw3
  have h3:Af B w3 g C1 L ps cs:=by
   rw [HC1A.out]
   exact(HI2.out.ext hb22).uopall hp hP23 hg24 (u':={ u with commit:=c }) (by rw [←P0];exact hB24)
  have HI3:=qA h3
  have HP3:=qA (h3.rows.uops.at_ k _ p HC1O.out hp).1
  have HT3:=qA ((HT2.out.trans (Ah.below (B:=B) hb22)).trans (Cc hP23 hBp hg24))
  clear h3 hb22 hP23 hB24 hg24 HI2 HP2 HT2 c39 zg2 z2
  have c15:w3.cell? ⟨p,15,none⟩=some (.bool u.guessed):=HP3.out.cell 15
  have c13:w3.cell? ⟨p,13,none⟩=some (.int .i64 u.dest):=HP3.out.cell 13
  have c21:w3.cell? ⟨p,21,none⟩=some (.int .u32 c.value):=HP3.out.cell 21
  have cw:w3.cell? ⟨g,142+d,none⟩=some (.int .u32 wd):=by
   have:=HI3.out.word hd96
   rw [HWD.out] at this
   exact this
  have z3:=HP3.out.lt
  have zg3:=HI3.out.lt
  rw [HGU.out] at c15
  rw [HDD.out] at c13
  go_upto_region 4 with(fail)
  go_simp
  refine Ad 3923447 270856 4194303 [0,1,2,3,4,5,6,7,8,9,10,11,12,13,14,15,16,17,18,19,20,21] (by kernel_rfl) (by kernel_rfl) (by kernel_rfl) rfl ?_
  repeat'(first
   |refine oQ rfl rfl ?_
   |(refine' oE _ (by decide) (by decide) (fun wq K hK=>?_) ?_ ?_;rotate_left 1;(· go_wp2_with(fail);all_goals exact hK);rfl)
   |(refine' oR _ (by decide) (by decide) (by decide) (fun wq hwq K hK=>?_) ?_ ?_;rotate_left 1;(· have k15:=hwq.at_ z3 c15;have k13:=hwq.at_ z3 c13;have k21:=hwq.at_ z3 c21;have kw:=hwq.at_ zg3 cw;go_wp2_with(fail);all_goals exact hK);rfl)
   |((first | refine oT rfl rfl rfl rfl ?_ ?_ | refine oF rfl rfl rfl rfl ?_ ?_)<;>intro hc<;>first | (cases hc;done) | ((try cases hc);simp only [Act.put,sA,sS,sZ]))
   |(refine oU rfl rfl rfl rfl ?_;(try simp only [Act.put,sA,sS,sZ])))
  refine Aj ?_
  intro w4 hw4
  replace hw4:Below w3.heap.size w3 w4:=by first | exact hw4 | (rw [hw4];exact(qB _ _).drew)
  have c21':w4.cell? ⟨p,21,none⟩=some (.int .u32 c.value):=(hw4.cell (p:=⟨p,21,none⟩) z3).trans c21
  have z4:p<w4.heap.size:=qE z3 hw4.size
  have HI4:=qA (HI3.out.ext hw4)
  have HP4:=qA (HP3.out.ext hw4)
  have HT4:=qA (HT3.out.trans (Ah.below (B:=B) hw4))
  clear c15 c13 c21 cw z3 zg3 hw4 HI3 HP3 HT3
  have CG:=qA (fun x=>N9 HI4.out HP4.out HDL.out HW96.out HT96.out x)
  have CFN:=qA (fun W cs' (h:Af B W g (Di C1 u.dest c.value) L ps cs')=>Mf h hp HSL.out)
  go_upto_region 7 with(first
   |(go_at_call 67;(with_reducible refine(CG.out _).mono ?_);rintro e w5 ⟨rfl,hg5,cs5,h5⟩;have ht5:=HI4.out.turned hg5)
   |(go_at_call 68;(with_reducible refine(CFN.out _ _ h5).mono ?_);rintro e w6 ⟨rfl,ht6,L6,cs6,h6⟩))
  go_simp
  have h7:Af B w6 g D L6 ps cs6:=by rw [←HD.out];exact h6
  have HI6:=qA h7
  have HT6:=qA ((HT4.out.trans ht5).trans ht6)
  have hu6:=(h7.rows.uops.at_ k (uD u c) p HDO.out hp).1
  clear h5 ht5 ht6 h6 h7 hg5 CG CFN HI4 HP4 HT4 z4 c21'
  have c18:w6.cell? ⟨p,18,none⟩=some (.int .i64 c.state):=hu6.cell 18
  have c0:w6.cell? ⟨p,0,none⟩=some (.int .i64 u.seq):=hu6.cell 0
  have c3:w6.cell? ⟨p,3,none⟩=some (.int .u32 u.pc):=hu6.cell 3
  have c4:w6.cell? ⟨p,4,none⟩=some (.int .u32 u.next):=hu6.cell 4
  have c17:w6.cell? ⟨p,17,none⟩=some (.int .u32 c.next):=hu6.cell 17
  have z6:=hu6.lt
  have HP6:=qA hu6
  clear hu6
  by_cases q0:c.state=0
  rotate_left 1
  ·skip
   have q0':(c.state != 0)=true:=by simpa using q0
   have HX:=qA (HCX.out.trap q0)
   have CB:=qA (fun W (hb:Below w6.heap.size w6 W)=>Nh (HI6.out.ext hb) (u.seq+1) u.pc HBK.out.1 HBK.out.2 (by have:=HFD.out.lens;omega) (by have:=HFD.out.lens;omega) (by have:=HFD.out.lens;omega) (by have:=HFD.out.free;omega) (HFD.out.found (u.seq+1)) HFD.out.undo)
   clear q0
   go_upto_region 8 with(fail)
   go_simp
   clear c18 c4 c17
   refine Ad 495 528 1023 [0,1,2,3,4,5,6,7,8,9,10] (by kernel_rfl) (by kernel_rfl) (by kernel_rfl) rfl ?_
   refine rR (fun wq hwq=>i2 (hwq.at_ z6 c0) (hwq.at_ z6 c3)) ?_
   refine oS (fun w7 hw7 K1 hK1=>?_)
   have hb7:Below w6.heap.size w6 w7:=by rw [hw7];exact(qB _ _).drew
   clear hw7
   go_wp2_with(go_at_call 69;(with_reducible refine(CB.out w7 hb7).mono ?_);rintro e w8 ⟨rfl,ht8,L8,cs8,h8⟩)
   refine hK1 _ _ (fun _=>True) trivial ?_
   simp only [Act.put,sA,sS,sZ]
   clear hK1 K1 CB
   refine Aj ?_
   rintro w9 hw9
   rw [←hw9] at ht8 h8
   clear hw9
   have k339:=h8.cell h8.cells.still
   have f339:=h8.blk.frozen 339
   have z9:=h8.lt
   have h9:=h8.set 339 (.bool true) (h8.cells.set_still true) h8.rows
   have HJ:=qA (qL h9 (((HT6.out.trans (Ah.below (B:=B) hb7)).trans ht8).trans (h8.turned (grownBy_setCell w9 ⟨g,339,none⟩ (.bool true)))))
   clear h8 h9 ht8 hb7 c0 c3 z6
   go_wp2_with(fail)
   refine bodyPost_ret (results_none rfl _ _ _) rfl ?_
   exact⟨rfl,HJ.out.2,_,_,_,by rw [HX.out];exact HJ.out.1⟩
 ·skip
  by_cases q1:c.next=u.next
  focus
   have e1:(c.next != u.next)=false:=by simpa using q1
   have HQ1:=qA (show decide (c.next≠u.next)=false from qG (fun h=>h q1))
   clear q1
  rotate_left 1
  focus
   have e1:(c.next != u.next)=true:=by simpa using q1
   have HQ1:=qA (show decide (c.next≠u.next)=true from qF q1)
   clear q1
  all_goals
   first
   |skip
    have q0':(c.state != 0)=false:=by simpa using q0
    have HX:=qA (HCX.out.hit q0 HSB.out (by rw [HG.out,HQ1.out];rfl))
    clear q0
    go_upto_region 10 with(fail)
    go_simp
    refine Ad 7103 1088 8191 [0,1,2,3,4,5,6,7,8,9,10,11,12] (by kernel_rfl) (by kernel_rfl) (by kernel_rfl) rfl ?_
    repeat'(first
     |refine oQ rfl rfl ?_
     |(refine' oE _ (by decide) (by decide) (fun wq K hK=>?_) ?_ ?_;rotate_left 1;(· go_wp2_with(fail);all_goals exact hK);rfl)
     |(refine' oR _ (by decide) (by decide) (by decide) (fun wq hwq K hK=>?_) ?_ ?_;rotate_left 1;(· have k17:=hwq.at_ z6 c17;have k4:=hwq.at_ z6 c4;go_wp2_with(fail);all_goals exact hK);rfl)
     |((first | refine oT rfl rfl rfl rfl ?_ ?_ | refine oF rfl rfl rfl rfl ?_ ?_)<;>intro hc<;>first | (cases hc;done) | ((try cases hc);simp only [Act.put,sA,sS,sZ]))
     |(refine oU rfl rfl rfl rfl ?_;(try simp only [Act.put,sA,sS,sZ])))
    refine Aj ?_
    intro w7 hw7
    replace hw7:Below w6.heap.size w6 w7:=by first | exact hw7 | (rw [hw7];exact(qB _ _).drew)
    have HI7:=qA (HI6.out.ext hw7)
    have HP7:=qA (HP6.out.ext hw7)
    have HT7:=qA (HT6.out.trans (Ah.below (B:=B) hw7))
    clear c18 c0 c3 c4 c17 z6 hw7
    go_wp2_with(first
     |(refine Ai rfl 53 _ rfl p 5 rfl 107 (uD u c).cells 5 _ HP7.out Tryz.underlying53 rfl Au (by rw [Uop.size];decide) ?_;rw [show(uD u c).cells.extract 5 (5+5)=u.ins.cells from rfl])
     |(go_at_call 70;(with_reducible refine(ST.out _).mono ?_);rintro e w8 ⟨rfl,hb8⟩))
    refine bodyPost_end (results_none rfl _ _ _) rfl ?_
    exact⟨rfl,HT7.out.trans (Ah.below hb8),_,_,_,by rw [HX.out];exact HI7.out.ext hb8⟩
   |skip
    have q0':(c.state != 0)=false:=by simpa using q0
    have HX:=qA (HCX.out.miss q0 HSB.out (by rw [HG.out,HQ1.out];rfl))
    clear q0
    go_upto_region 10 with(fail)
    go_simp
    refine Ad 7103 1088 8191 [0,1,2,3,4,5,6,7,8,9,10,11,12] (by kernel_rfl) (by kernel_rfl) (by kernel_rfl) rfl ?_
    repeat'(first
     |refine oQ rfl rfl ?_
     |(refine' oE _ (by decide) (by decide) (fun wq K hK=>?_) ?_ ?_;rotate_left 1;(· go_wp2_with(fail);all_goals exact hK);rfl)
     |(refine' oR _ (by decide) (by decide) (by decide) (fun wq hwq K hK=>?_) ?_ ?_;rotate_left 1;(· have k17:=hwq.at_ z6 c17;have k4:=hwq.at_ z6 c4;go_wp2_with(fail);all_goals exact hK);rfl)
     |((first | refine oT rfl rfl rfl rfl ?_ ?_ | refine oF rfl rfl rfl rfl ?_ ?_)<;>intro hc<;>first | (cases hc;done) | ((try cases hc);simp only [Act.put,sA,sS,sZ]))
     |(refine oU rfl rfl rfl rfl ?_;(try simp only [Act.put,sA,sS,sZ])))
    refine Aj ?_
    intro w7 hw7
    replace hw7:Below w6.heap.size w6 w7:=by first | exact hw7 | (rw [hw7];exact(qB _ _).drew)
    have HI7:=qA (HI6.out.ext hw7)
    have HP7:=qA (HP6.out.ext hw7)
    have HT7:=qA (HT6.out.trans (Ah.below (B:=B) hw7))
    clear c18 c0 c3 c4 c17 z6 hw7
    have e4:w7.cell? ⟨p,4,none⟩=some (.int .u32 u.next):=HP7.out.cell 4
    have e17:w7.cell? ⟨p,17,none⟩=some (.int .u32 c.next):=HP7.out.cell 17
    have f4:=HP7.out.frozen 4
    have z7:=HP7.out.lt
    have h8:=HI7.out.setuop hp HP7.out 4 (.int .u32 c.next) (Uop.set_next (uD u c) c.next)
    have hu8:=HP7.out.set 4 (.int .u32 c.next)
    have HJ8:=qA (qL h8 (qL hu8 (HT7.out.trans (Cc HP7.out hBp (grownBy_setCell w7 ⟨p,4,none⟩ (.int .u32 c.next))))))
    clear h8 hu8
    go_upto_region 12 with(fail)
    go_simp
    clear e4 e17 f4 z7 HI7 HP7 HT7
    generalize w7.setCell ⟨p,4,none⟩ (.int .u32 c.next)=w8 at *
    have HI8:Hid (Af B w8 g D' L6 ps cs6):=qA (by rw [←HDN.out];exact HJ8.out.1)
    have HP8:Blk w8 p 107 (Uop.cells { uD u c with next:=c.next }):=HJ8.out.2.1
    have HT8:=qA HJ8.out.2.2
    have d0:w8.cell? ⟨p,0,none⟩=some (.int .i64 u.seq):=HP8.cell 0
    have d4:w8.cell? ⟨p,4,none⟩=some (.int .u32 c.next):=HP8.cell 4
    have z8:=HP8.lt
    have CB:=qA (fun W (hb:Below w8.heap.size w8 W)=>Nh (HI8.out.ext hb) (u.seq+1) c.next HBK2.out.1 HBK2.out.2 (by have:=HFD2.out.lens;omega) (by have:=HFD2.out.lens;omega) (by have:=HFD2.out.lens;omega) (by have:=HFD2.out.free;omega) (HFD2.out.found (u.seq+1)) HFD2.out.undo)
    clear HP8 HJ8
    refine Ad 495 528 1023 [0,1,2,3,4,5,6,7,8,9,10] (by kernel_rfl) (by kernel_rfl) (by kernel_rfl) rfl ?_
    refine rR (fun wq hwq=>i2 (hwq.at_ z8 d0) (hwq.at_ z8 d4)) ?_
    refine oS (fun w9 hw9 K1 hK1=>?_)
    have hb9:Below w8.heap.size w8 w9:=by rw [hw9];exact(qB _ _).drew
    clear hw9
    go_wp2_with(go_at_call 69;(with_reducible refine(CB.out w9 hb9).mono ?_);rintro e w10 ⟨rfl,ht10,L10,cs10,h10⟩)
    refine hK1 _ _ (fun _=>True) trivial ?_
    simp only [Act.put,sA,sS,sZ]
    clear hK1 K1 CB
    refine Aj ?_
    rintro w11 hw11
    rw [←hw11] at ht10 h10
    clear hw11
    have HT11:=qA ((HT8.out.trans (Ah.below (B:=B) hb9)).trans ht10)
    have hkp:=HKP.out ps (HI8.out.rows.uops.len)
    have hu11:=(h10.rows.uops.at_ k { uD u c with next:=c.next } p hkp.2 (by rw [hkp.1];exact hp)).1
    have HI11:=qA h10
    clear h10 ht10 hb9 d0 d4 z8 hkp
    go_wp2_with(first
     |(refine Ai rfl 53 _ rfl p 5 rfl 107 (Uop.cells { uD u c with next:=c.next }) 5 _ hu11 Tryz.underlying53 rfl Au (by rw [Uop.size];decide) ?_;rw [show(Uop.cells { uD u c with next:=c.next }).extract 5 (5+5)=u.ins.cells from rfl])
     |(go_at_call 70;(with_reducible refine(ST.out _).mono ?_);rintro e w12 ⟨rfl,hb12⟩))
    refine bodyPost_end (results_none rfl _ _ _) rfl ?_
    exact⟨rfl,HT11.out.trans (Ah.below hb12),_,_,_,by rw [HX.out];exact HI11.out.ext hb12⟩
 ·skip
  have q0':(c.state != 0)=false:=by simpa using q0
  obtain⟨hnx,hX⟩:=HCX.out.store q0 HSB.out
  have HX:=qA hX
  have e1:(c.next != u.next)=false:=by rw [hnx];simp
  clear q0 hX hnx
  go_upto_region 10 with(fail)
  go_simp
  refine Ad 7103 1088 8191 [0,1,2,3,4,5,6,7,8,9,10,11,12] (by kernel_rfl) (by kernel_rfl) (by kernel_rfl) rfl ?_
  repeat'(first
   |refine oQ rfl rfl ?_
   |(refine' oE _ (by decide) (by decide) (fun wq K hK=>?_) ?_ ?_;rotate_left 1;(· go_wp2_with(fail);all_goals exact hK);rfl)
   |(refine' oR _ (by decide) (by decide) (by decide) (fun wq hwq K hK=>?_) ?_ ?_;rotate_left 1;(· have k17:=hwq.at_ z6 c17;have k4:=hwq.at_ z6 c4;go_wp2_with(fail);all_goals exact hK);rfl)
   |((first | refine oT rfl rfl rfl rfl ?_ ?_ | refine oF rfl rfl rfl rfl ?_ ?_)<;>intro hc<;>first | (cases hc;done) | ((try cases hc);simp only [Act.put,sA,sS,sZ]))
   |(refine oU rfl rfl rfl rfl ?_;(try simp only [Act.put,sA,sS,sZ])))
  refine Aj ?_
  intro w7 hw7
  replace hw7:Below w6.heap.size w6 w7:=by first | exact hw7 | (rw [hw7];exact(qB _ _).drew)
  have HI7:=qA (HI6.out.ext hw7)
  have HP7:=qA (HP6.out.ext hw7)
  have HT7:=qA (HT6.out.trans (Ah.below (B:=B) hw7))
  clear c18 c0 c3 c4 c17 z6 hw7
  have CS:=qA (fun W (hb:Below w7.heap.size w7 W)=>Adr (HI7.out.ext hb) hp HFD.out HCW.out HSQ.out HBK.out.1 HBK.out.2 HFA.out.1 HFA.out.2)
  go_wp2_with(first
   |(refine Ai rfl 53 _ rfl p 5 rfl 107 (uD u c).cells 5 _ HP7.out Tryz.underlying53 rfl Au (by rw [Uop.size];decide) ?_;rw [show(uD u c).cells.extract 5 (5+5)=u.ins.cells from rfl])
   |(go_at_call 70;(with_reducible refine(ST.out _).mono ?_);rintro e w8 ⟨rfl,hb8⟩)
   |(go_at_call 71;(with_reducible refine(CS.out _ hb8).mono ?_);rintro e w9 ⟨rfl,ht9,L9,ps9,cs9,h9⟩))
  refine bodyPost_end (results_none rfl _ _ _) rfl ?_
  exact⟨rfl,(HT7.out.trans (Ah.below hb8)).trans ht9,L9,ps9,cs9,by rw [HX.out];exact h9⟩
end
end Go.Proofs.YtapgojgcmlnbgaaGreatDoor
