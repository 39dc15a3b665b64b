/- Parts of a proof. -/
import Derived.Test.YtapgojgcmlnbgaaGreatDoorTZ
import Derived.Test.YtapgojgcmlnbgaaGreatDoorT02
import Derived.Test.YtapgojgcmlnbgaaGreatDoorT11
import Derived.Test.YtapgojgcmlnbgaaGreatDoorT03
import Derived.Test.YtapgojgcmlnbgaaGreatDoorT04
import Derived.Test.YtapgojgcmlnbgaaGreatDoorT05
set_option linter.unusedSimpArgs false
set_option linter.unusedVariables false
set_option maxRecDepth 100000
set_option maxHeartbeats 16000000
namespace Go.Proofs.YtapgojgcmlnbgaaGreatDoor
open Go Go.RowKit
theorem Xe {sq:List Int} {j:Nat} {x:Int} {r:List Int} (h:sq.drop j=x::r):j<sq.length∧sq.getD j 0=x∧sq[j]? = some x∧sq.drop (j+1)=r:=by
 have hj:j<sq.length:=by
  rcases Nat.lt_or_ge j sq.length with h2 | h2
  ·exact h2
  ·rw [List.drop_eq_nil_of_le h2] at h
   cases h
 rw [qM hj] at h
 injection h with h1 h2
 refine⟨hj,?_,?_,h2⟩
 ·simp [List.getD,qI hj,h1]
 ·rw [qI hj,h1]
section
variable {B:Nat} {w:World} {g p:Nat} {C:Core} {L:Lay} {ps:List Nat} {cs:Array Value}
theorem Ada (hG:Good C) (N:Int) (hN:(C.commits.length:Int)+4≤N):Left { C with slots:=C.slots.drop (Dy C.slots C.wide) } (Bw C) (Dy C.slots C.wide) ((C.slots.take (Dy C.slots C.wide)).map (·.seq)) N:=by
 have hI:=hG.inv
 obtain⟨L,R,ho,hl,hd⟩:=Sa C.ops C.wide
 rw [←hI.slots] at hl
 have hown:own { C with slots:=C.slots.drop (Dy C.slots C.wide) }=C:=by
  unfold own
  show { C with slots:=C.ops.map B5 }=C
  rw [←hI.slots]
 have hm:=On C.slots C.wide (by have:=hI.cfg;omega)
 have htk:C.ops.take (Dy C.slots C.wide)=L:=by rw [ho,←hl];simp
 refine⟨by rw [hown];exact hI,hG.still,rfl,?_,fun u hu=>?_,?_,?_⟩
 ·show(C.ops.take _).map (·.seq)=_
  rw [hI.slots,←List.map_take,List.map_map]
  have e:Dy (C.ops.map B5) C.wide=Dy C.slots C.wide:=by rw [hI.slots]
  rw [e]
  rfl
 ·have hu:u∈C.ops.take (Dy C.slots C.wide):=hu
  rw [htk] at hu
  exact hd u hu
 ·show _≤C.ops.length
  rw [ho,qO]
  omega
 ·show(C.commits.length:Int)+_≤N
  have:=hI.cfg
  omega
theorem Acl (h:Af B w g C L ps cs) (hG:Good C) (hN:(C.commits.length:Int)≤1000000) :
  Calls Tryz.prog 37 #[.pointer (some ⟨g,0,none⟩)] w (Ro B w g (Bw C)):=by
 have hLS:=Ada hG 2000000 (by omega)
 have hle:=hG.inv.lens
 have c334:=h.slots
 have c2:w.cell? ⟨g,2,none⟩=some (.int .i64 C.wide):=h.cell h.cells.wide
 have zg:=h.lt
 obtain⟨AS,cS,hsv,hSS,hSn,hS1,hS2⟩:=Hq h.rows.slots
 rw [hsv] at c334
 have CP0:∀ W,Below w.heap.size w W→Calls Tryz.prog 58 #[.slice AS C.slots.length cS, .int .i64 C.wide] W fun e w'=>Below W.heap.size W w'∧∃ v u,e = .returned (.tuple #[v,u])∧w'.ownsRow W.heap.size 166 2 v (C.slots.drop (Dy C.slots C.wide)).length (Ay (C.slots.drop (Dy C.slots C.wide)))∧w'.ownsRow W.heap.size 3 1 u (Dy C.slots C.wide) (((C.slots.take (Dy C.slots C.wide)).map (·.seq)).map (Value.int .i64)):=fun W hb=>Aj2 AS cS C.slots C.wide W (by omega) hS1 hS2 ((hSS.below hb).mono hb.size) hSn
 have hKm:Dy C.slots C.wide≤32:=by have:=hLS.many;have h2:Dy C.slots C.wide≤C.ops.length:=this;omega
 have hKl:Dy C.slots C.wide≤C.slots.length:=Aem C.slots C.wide
 have hKt:((C.slots.take (Dy C.slots C.wide)).map (·.seq)).length=Dy C.slots C.wide:=by simp;omega
 generalize hYY:Bw C=Y at *
 generalize Dy C.slots C.wide=n at *
 obtain⟨sq,hsq⟩:∃ sq,(C.slots.take n).map (·.seq)=sq:=⟨_,rfl⟩
 obtain⟨sd,hsd⟩:∃ sd,C.slots.drop n=sd:=⟨_,rfl⟩
 rw [hsq,hsd] at CP0
 rw [hsq,hsd] at hLS
 rw [hsq] at hKt
 replace CP0:=qA CP0
 have HI:=qA h
 have HLS:=qA hLS
 have HLOW:=qA h.low
 have HKT:=qA hKt
 clear h hG hN hLS hsv hSS hSn hS1 hS2 hYY hKt hsq hsd
 go_enter Tryz.func37,Tryz.ntmps37
 go_upto_region 0 with(fail)
 go_simp
 refine Ad 31991 264 32255 [0,1,2,3,4,5,6,7,8,9,10,11,12,13,14] (by kernel_rfl) (by kernel_rfl) (by kernel_rfl) rfl ?_
 refine rR (fun wq hwq=>i2 (hwq.at_ zg c334) (hwq.at_ zg c2)) ?_
 refine oS (fun w1 hw1 K1 hK1=>?_)
 have hb1:Below w.heap.size w w1:=by rw [hw1];exact(qB _ _).drew
 clear hw1
 go_wp2_with(go_at_call 58;(with_reducible refine(CP0.out w1 hb1).mono ?_);intro e w2 hpost;obtain⟨hb2,v2,u2,rfl,ho2,hq2⟩:=hpost;obtain⟨A2,c2',rfl⟩:=Al ho2;obtain⟨AI,cI,rfl⟩:=Al hq2)
 refine hK1 _ _ (fun _=>True) trivial ?_
 simp only [Act.put,sA,sS,sZ]
 clear hK1 K1 CP0
 refine rO ?_
 refine Aj ?_
 rintro w3 hw3
 replace hb2:=hb1.trans (hb2.mono hb1.size)
 rw [←hw3] at hb2 ho2 hq2
 have ho3:w3.ownsRow B 166 2 (.slice A2 sd.length c2') sd.length (Ay sd):=Gp ho2 (qD HLOW.out hb1.size)
 have hq3:w3.ownsRow w.heap.size 3 1 (.slice AI n cI) n (sq.map (.int .i64)):=Gp hq2 hb1.size
 have h3:=HI.out.ext hb2
 have k334:w3.cell? ⟨g,334,none⟩=some L.slots:=h3.slots
 have f334:=h3.blk.frozen 334
 have z3:=h3.lt
 obtain⟨s4,t4⟩:=h3.setslots ho3
 have HJ4:=qA (qL s4 (qL ((Ah.below (B:=B) hb2).trans t4) (hq3.kept (grownBy_setCell w3 ⟨g,334,none⟩ (.slice A2 sd.length c2')) (Br hq3 h3.blk (by decide)))))
 clear hw3 ho2 hq2 hb1 hb2 ho3 hq3 h3 s4 t4 c334 c2 zg HI
 obtain⟨LS,hLSv⟩:∃ v,L.slots=v:=⟨_,rfl⟩
 go_upto_region 2 with(fail)
 go_simp
 clear k334 f334 z3
 generalize w3.setCell ⟨g,334,none⟩ (.slice A2 sd.length c2')=w4 at *
 go_upto_region 3 with(fail)
 go_loopw [26] (fun v26 wr=>∃ (j:Nat) (X:Core) (LX:Lay) (px:List Nat) (cx:Array Value),v26 = .int .i64 j∧j≤n∧Hid (Af B wr g X LX px cx∧Ah B w wr∧wr.ownsRow w.heap.size 3 1 (.slice AI n cI) n (sq.map (.int .i64)))∧Hid (Left X Y (n - j) (sq.drop j) 2000000)) (fun v _=>n+1 - (intOf v).toNat)
 case atStart=>exact⟨0,_,_,_,_,rfl,Nat.zero_le _,HJ4,HLS⟩
 case round=>
  obtain⟨j,X,LX,px,cx,rfl,hj,HR,HL⟩:=hrel
  clear HJ4 HLS
  obtain⟨N,hNN⟩:∃ N:Int,N=2000000:=⟨_,rfl⟩
  by_cases hlt:j<n
  ·obtain⟨m,hm⟩:∃ m,n - j=m+1:=⟨n - j - 1,by omega⟩
   rw [hm] at HL
   have HMN:=qA (show n - (j+1)=m by omega)
   obtain⟨u,R,ho,h2,hsq⟩:=HL.out.head
   have HSQ:=qA (Xe hsq)
   have HSQ2:=qA (show sq.drop (j+1)=(sq.drop j).tail by rw [hsq,(Xe hsq).2.2.2];rfl)
   have hinv:=HL.out.inv
   have hH:=Ac5 hinv (C:=own X) (R:=R) (u:=u) ho h2
   have hfine:Rl (own X):=hinv.fine
   have hcm:=HL.out.coms
   have huf:UF u:=hfine.uf u (by show u∈X.ops;rw [ho];simp)
   have hok:(own X).hart.Wf:=hinv.hart
   have hroom:=hinv.room
   have hfl:=hinv.free_len
   have hlens:=hinv.lens
   obtain⟨M,hM⟩:∃ M,O5 X.names u.old=M:=⟨_,rfl⟩
   obtain⟨bg,hbg⟩:∃ bg,(Lk X.names u.old).isSome=bg:=⟨_,rfl⟩
   obtain⟨X1,hX1⟩:∃ X1,X1=({ X with ops:=R,hart:=Cw u.commit X.hart,mem:=C4 u.commit X.mem,commits:=X.commits++[u.commit],names:=if 0<u.dest then O5 X.names u.old else X.names }:Core):=⟨_,rfl⟩
   obtain⟨X3,hX3⟩:∃ X3,X3=K7 X1 u:=⟨_,rfl⟩
   obtain⟨acc',hacc⟩:∃ acc',X3.access.filter (fun a=>!decide (a.seq=u.seq))=acc':=⟨_,rfl⟩
   have hgp:=Wj ho hX1 hX3 hacc
   obtain⟨X6,hX6⟩:∃ X6,Bn X=X6:=⟨_,rfl⟩
   have hx3a:X3.access=X.access:=by
    rw [hX3,Ol,hX1]
   have HHL:Hid (X6.hart.regs.length=32):=qA (by
    rw [←hX6,En ho]
    exact(N8 hH.wf hok).len)
   have HX1:=qA hX1
   have HX3:=qA hX3
   have HACC:=qA hacc
   have HX6:=qA hX6
   have HX6P:=qA hgp
   have HAL:Hid (X3.access.length≤1000):=qA (by rw [hx3a];have h1:X.access.length≤32:=hlens.2.2;omega)
   have HTAB:Hid (E9 X1.table):=qA (by rw [hX1];exact hinv.tab)
   have HPC:=qA huf.pc
   have HCW:=qA hH.wf
   have HFT:Hid (u.commit.many=0∨u.commit.at_+u.commit.many≤X.mem.length):=qA hH.fits
   have HRO:Hid (X.mem.length≤4096):=qA hroom
   have HHL0:Hid (X.hart.regs.length=32):=qA hok.len
   have HNF:Hid (X.names.free.length≤64):=qA hfl
   have GV:=qA hM
   have BG:=qA hbg
   have hcm2:X.commits.length≤2000000:=by omega
   have hold:=huf.old
   have HOLD:=qA hold
   clear hinv hH hfine huf hok hroom hfl hlens hM hbg hX1 hX3 hacc hgp hX6 hx3a hcm hold
   obtain⟨q,qs,rfl⟩:∃ q qs,px=q::qs:=by
    cases px with
    |nil=>
     have h1:=HR.out.1.rows.uops.len
     rw [ho] at h1
     cases h1
    |cons q qs=>exact⟨q,qs,rfl⟩
   obtain⟨bI,oI,rfl,hbI,hcI⟩:=(Ar.own HR.out.2.2).at_ HSQ.out.1
   have kI:wr.cell? ⟨bI,oI+j,none⟩=some (.int .i64 u.seq):=by
    rw [hcI j HSQ.out.1,HSQ.out.2.1]
   obtain⟨go,oo,nl,cp,hov⟩:=Aij HR.out.1.rows.ptrs
   have hrow0:=HR.out.1.rows.ptrs
   rw [hov] at hrow0
   have hnl:=(Ra hrow0).1
   subst hnl
   have hncp:=(Ra hrow0).2.1
   have hcpm:=(Ra hrow0).2.2.1
   have HO:=qA ho
   have HOV:=qA hov
   clear hcI hrow0 ho hsq hov hNN
   go_upto_region 5 with(fail)
   go_simp
   have hb5:Below wr.heap.size wr (wr.alloc (.cells #[.int .i64 u.seq] 3)):=(qB _ _).alloc (qC _) _
   have hB5:Blk (wr.alloc (.cells #[.int .i64 u.seq] 3)) wr.heap.size 3 #[.int .i64 u.seq]:=Blk.new wr 3 #[.int .i64 u.seq]
   generalize wr.alloc (.cells #[.int .i64 u.seq] 3)=w5 at *
   have h5:=HR.out.1.ext hb5
   have hu5:Blk w5 q 107 u.cells:=(h5.rows.uops.at_ 0 u q (by rw [HO.out];rfl) rfl).1
   have hBq:B≤q:=(h5.rows.uops.at_ 0 u q (by rw [HO.out];rfl) rfl).2
   have HS5:Hid (Ah B w w5∧Kh w5 q wr.heap.size u w.heap.size (some ⟨bI,oI,none⟩) n cI sq):=qA ⟨HR.out.2.1.trans (Ah.below hb5),hu5,hB5,Cj HR.out.2.2 hb5⟩
   generalize wr.heap.size=bs at *
   have hrow5:=h5.rows.ptrs
   rw [HOV.out] at hrow5
   have c335:w5.cell? ⟨g,335,none⟩=some (.slice (some ⟨go,oo,none⟩) (qs.length+1) cp):=by rw [←HOV.out];exact h5.ops
   have cgo:w5.cell? ⟨go,oo,none⟩=some (.pointer (some ⟨q,0,none⟩)):=by
    obtain⟨b1,o1,e1,_,k1⟩:=G2 hrow5 (i:=0) (by simp)
    injection e1 with e1
    injection e1 with e1 e2
    rw [e1,e2]
    exact k1
   have zgo:go<w5.heap.size:=by
    obtain⟨b1,o1,e1,z1,k1⟩:=G2 hrow5 (i:=0) (by simp)
    injection e1 with e1
    injection e1 with e1 e2
    rw [e1]
    exact z1
   have f335:=h5.blk.frozen 335
   have z5:=h5.lt
   have HPO:=qA (fun v' (hr:B8 w5 B v' qs) (hv:v'.ownBlock=some go)=>h5.popped HO.out hr (by rw [HOV.out];exact hv))
   have HT5:=qA (fun v'=>h5.turned (grownBy_setCell w5 ⟨g,335,none⟩ v'))
   have HB5:=qA h5.blk
   clear hb5 hB5 h5 hu5 HR kI hbI
   go_upto_region 7 with(refine Tn rfl (.tmp 40) rfl (go:=go) (oo:=oo) (n:=qs.length+1) (cap:=cp) rfl hrow5 ?_;intro A6 m6 c6 hr6 ho6;have HJ6:=qA (qL (HPO.out _ hr6 ho6) (qL (HS5.out.1.trans (HT5.out (.slice A6 m6 c6))) (HS5.out.2.core HB5.out (grownBy_setCell w5 ⟨g,335,none⟩ (.slice A6 m6 c6)))));clear hr6 ho6)
   go_simp
   clear HPO HT5 HB5 HS5 hrow5 c335 cgo zgo f335 z5 hncp hcpm HOV
   generalize w5.setCell ⟨g,335,none⟩ (.slice A6 m6 c6)=w6 at *
   obtain⟨L6,cs6,h6⟩:∃ L6 cs6,Af B w6 g { X with ops:=R } L6 qs cs6:=⟨_,_,HJ6.out.1⟩
   have HI6:=qA h6
   have HS6:=qA HJ6.out.2
   obtain⟨AM,cM,hMv,hMl,hMn,hMI,hMc,hMb⟩:=Fs h6.rows.mem
   have HMV:=qA (show L6.mem = .slice AM X.mem.length cM from hMv)
   have c39:w6.cell? ⟨g,39,none⟩=some (.slice AM X.mem.length cM):=by rw [←HMV.out];exact h6.mem
   have zg6:=h6.lt
   have CA:∀ W,Below w6.heap.size w6 W→Calls Tryz.prog 36 #[.agg u.commit.cells, .pointer (some ⟨g,4,none⟩), .slice AM X.mem.length cM] W fun e w'=>e = .returned (.tuple #[])∧(Af B w' g { X with ops:=R,hart:=Cw u.commit X.hart,mem:=C4 u.commit X.mem } L6 qs (Ou cs6 4 u.commit)∧Ah B w w'∧Kh w' q bs u w.heap.size (some ⟨bI,oI,none⟩) n cI sq):=fun W hb=>by
    have hW:=HI6.out.ext hb
    have hown:=hW.rows.mem
    rw [HMV.out] at hown
    have hneb:=Br hown hW.blk (by decide)
    refine(Rq u.commit g 4 86 cs6 AM B cM X.mem W hW.blk (by rw [hW.cells.size];decide) HCW.out.rd.1 HCW.out.rd.2 hown (by
     rcases hneb with e | e
     ·rw [e];simp
     ·exact e) (by have:=HRO.out;omega) HCW.out.many (by
     rcases HFT.out with e | e
     ·exact Or.inl e
     ·have:=HCW.out.at_
      have:=HCW.out.many
      have:=HRO.out
      exact Or.inr ⟨by omega,by omega,by omega⟩) HCW.out.data.1 HCW.out.data.2).mono fun e w' he=>?_
    obtain⟨e1,w1,hg1,hB1,hown1,hg2⟩:=he
    have hs1:=(HS6.out.2.ext hb).core hW.blk hg1
    have hmem1:=hown.kept hg1 hneb
    refine⟨e1,hW.applied HHL0.out HCW.out.rd.1 HCW.out.rd.2 hg1 hB1 (by rw [HMV.out];exact hown1) (I0 _ _) (by rw [HMV.out];exact hg2),?_,hs1.own hmem1 hg2 (by decide) (by decide)⟩
    refine(HS6.out.1.trans (Ah.below hb)).trans ((hW.turned hg1).trans (Ah.grown hg2 fun k hk=>?_))
    rcases hmem1.2 with⟨e',_⟩ | ⟨gm,c',cur,e',hl',hh',_⟩
    ·rw [e'] at hk;cases hk
    ·rw [e'] at hk
     cases hk
     exact⟨hl',_,_,_,hh',rfl⟩
   replace CA:=qA CA
   clear h6 HJ6 hMv hMl hMn hMI hMc hMb
   refine Ad 4087 4104 8191 [0,1,2,3,4,5,6,7,8,9,10,11,12,13] (by kernel_rfl) (by kernel_rfl) (by kernel_rfl) rfl ?_
   repeat'(first
    |refine rZ ?_
    |(refine' oR _ (by decide) (by decide) (by decide) (fun wq hwq K hK=>?_) ?_ ?_;rotate_left 1;(· have k39:=hwq.at_ zg6 c39;first | ((refine Az 65 _ rfl q 16 rfl 107 u.cells 11 _ (HS6.out.2.head.ext hwq) Tryz.underlying65 rfl Yg (show 16+11≤27 by decide) ?_;rw [Uop.comX];exact hK)) | (go_wp2_with(fail);all_goals exact hK));rfl)
    |fail)
   refine oS (fun w7 hw7 K1 hK1=>?_)
   have hb7:Below w6.heap.size w6 w7:=by rw [hw7];exact(qB _ _).drew
   clear hw7
   go_wp2_with(go_at_call 36;(with_reducible refine(CA.out w7 hb7).mono ?_);rintro e w8 ⟨rfl,hj8⟩;have HJ8:=qA hj8;clear hj8)
   refine hK1 _ _ (fun _=>True) trivial ?_
   simp only [Act.put,sA,sS,sZ]
   clear hK1 K1 CA
   refine Aj ?_
   rintro w9 hw9
   rw [←hw9] at HJ8
   clear hw9 hb7 c39 zg6 HI6 HS6 HMV
   generalize Ou cs6 4 u.commit=cs8 at *
   obtain⟨AC,cC,hcv⟩:=Al HJ8.out.1.rows.commits
   have HCV:=qA (show L6.commits = .slice AC X.commits.length cC from hcv)
   have c3:w9.cell? ⟨g,3,none⟩=some (.slice AC X.commits.length cC):=by rw [←HCV.out];exact HJ8.out.1.commits
   have zg9:=HJ8.out.1.lt
   obtain⟨i0,hi0,hz0,hz1,hz2⟩:=info_parts Xa
   clear hcv
   go_upto_region 8 with(fail)
   go_simp
   refine Ad 29151 544 29695 [0,1,2,3,4,5,6,7,8,9,10,11,12,13,14,15] (by kernel_rfl) (by kernel_rfl) (by kernel_rfl) rfl ?_
   repeat'(first
    |refine rZ ?_
    |(refine' oR _ (by decide) (by decide) (by decide) (fun wq hwq K hK=>?_) ?_ ?_;rotate_left 1;(· have k3:=hwq.at_ zg9 c3;first | ((refine Az 65 _ rfl q 16 rfl 107 u.cells 11 _ (HJ8.out.2.2.head.ext hwq) Tryz.underlying65 rfl Yg (show 16+11≤27 by decide) ?_;rw [Uop.comX];exact hK)) | (go_wp2_with(fail);all_goals exact hK));rfl)
    |fail)
   refine oB (fun w10 hw10 K1 hK1=>?_)
   have hb10:Below w9.heap.size w9 w10:=by rw [hw10];exact(qB _ _).drew
   clear hw10
   go_wp2_with(fail)
   have hb11:=hb10.alloc hb10.size (.cells u.commit.cells 65)
   have hl11:∀ j v,u.commit.cells.toList[j]? = some v→(w10.alloc (.cells u.commit.cells 65)).cell? ((⟨w10.heap.size,0,none⟩:Addr).add j)=some v:=Js w10 _ _ _ rfl
   refine hK1 _ _ hb11 ?_
   simp only [Act.put,sA,sS,sZ]
   clear hK1 K1 hb10
   refine rO ?_
   refine oS (fun w11 hw11 K1 hK1=>?_)
   replace hb11:Below w9.heap.size w9 w11:=by rw [hw11];exact hb11
   replace hl11:∀ j v,u.commit.cells.toList[j]? = some v→w11.cell? ((⟨w10.heap.size,0,none⟩:Addr).add j)=some v:=by rw [hw11];exact hl11
   clear hw11
   have h11:=HJ8.out.1.ext hb11
   have hown11:w11.ownsRow B 65 11 (.slice AC X.commits.length cC) X.commits.length (Ec X.commits):=by
    have:=h11.rows.commits
    rw [HCV.out] at this
    exact this
   refine Ie (.tmp 63) (.tmp 68) 43 rfl B 65 i0 _ 11 64 Tryz.underlying43 hi0 hz0 hz1 hz2 rfl (by decide) (.slice AC X.commits.length cC) X.commits.length (Ec X.commits) rfl hown11 ⟨w10.heap.size,0,none⟩ 1 1 u.commit.cells.toList rfl rfl hl11 (fun v hv=>Oz [u.commit] v (by rw [Ob];exact hv)) (by unfold maxLen;omega) (by omega) h11.low ?_
   intro v12 w12 hown12 hg12 hv12
   obtain⟨A12,c12,rfl⟩:=Al hown12
   have hs12:=h11.setcoms (coms':=X.commits++[u.commit]) (v' := .slice A12 (X.commits.length+1) c12) (by rw [HCV.out];exact hg12) (by
    rw [qO,Qg,Ob]
    exact hown12) (by rw [HCV.out];exact hv12)
   obtain⟨⟨h12,t12⟩,k12,f12,z12⟩:=hs12
   have s12:=(HJ8.out.2.2.ext hb11).own hown11 hg12 (by decide) (by decide)
   have hg12':=h11.blk.grown hg12 (E7 h11.blk hown11 (by decide))
   have HJ12:=qA (qL h12 (qL ((HJ8.out.2.1.trans (Ah.below (B:=B) hb11)).trans t12) (s12.core hg12' (grownBy_setCell w12 ⟨g,3,none⟩ (.slice A12 (X.commits.length+1) c12)))))
   refine hK1 _ _ (fun _=>True) trivial ?_
   simp only [Act.put,sA,sS,sZ]
   clear hK1 K1 h12 t12 s12 hg12' hown12 hg12 hv12 hown11 h11 hl11 hb11 HJ8 c3 zg9 hi0 hz0 hz1 hz2
   refine rO ?_
   refine oS (fun w13 hw13 K1 hK1=>?_)
   rw [←hw13] at HJ12 k12 f12 z12
   clear hw13
   rw [HCV.out] at k12
   go_wp2_with(fail)
   refine hK1 undef _ (fun _=>True) trivial ?_
   simp only [Act.put,sA,sS,sZ]
   clear hK1 K1 k12 f12 z12 HCV
   refine Aj ?_
   rintro w14 hw14
   rw [←hw14] at HJ12
   clear hw14
   obtain⟨X2,hX2⟩:∃ X2,X2=({ X with ops:=R,hart:=Cw u.commit X.hart,mem:=C4 u.commit X.mem,commits:=X.commits++[u.commit] }:Core):=⟨_,rfl⟩
   obtain⟨L12,cs12,h12⟩:∃ L12 cs12,Af B w14 g X2 L12 qs cs12:=by
    rw [hX2]
    exact⟨_,_,HJ12.out.1⟩
   have HX2:=qA hX2
   have HI12:=qA h12
   have HS12:=qA HJ12.out.2
   have en2:X2.names=X.names:=by rw [hX2]
   have HEN:=qA en2
   have c13:w14.cell? ⟨q,13,none⟩=some (.int .i64 u.dest):=HJ12.out.2.2.head.cell 13
   have zq:=HJ12.out.2.2.head.lt
   clear h12 hX2 HJ12 en2
   by_cases hd:0<u.dest
   focus
    have e13:decide (0<u.dest)=true:=qF hd
    obtain⟨ho0,ho1⟩:=HOLD.out hd
    replace HX1:Hid (X1=({ X with ops:=R,hart:=Cw u.commit X.hart,mem:=C4 u.commit X.mem,commits:=X.commits++[u.commit],names:=O5 X.names u.old }:Core)):=qA (by rw [HX1.out,if_pos hd])
    clear hd HOLD
    have hT:=HI12.out.cells.namesX HI12.out.rows.names.len
    have HXN:=qA hT
    have hsz2:=HI12.out.cells.size
    have CG:∀ W,Below w14.heap.size w14 W→Calls Tryz.prog 59 #[.agg (Ag X2.names.phys X2.names.regs L12.freeA X2.names.free.length L12.freeCap), .int .i64 u.old] W fun e w'=>∃ v',e = .returned (.tuple #[v', .bool bg])∧Below W.heap.size W w'∧M9 w' W.heap.size M v':=fun W hb=>by
     have h1:=Aho (HI12.out.mapV.ext hb) u.old (by omega) (by omega) (by rw [HEN.out];have:=HNF.out;omega)
     have h2:O5 X2.names u.old=M:=by rw [HEN.out];exact GV.out
     have h3:(Lk X2.names u.old).isSome=bg:=by rw [HEN.out];exact BG.out
     rw [h2,h3] at h1
     exact h1
    have HCG:=qA CG
    have zg:=HI12.out.lt
    have c14:w14.cell? ⟨q,14,none⟩=some (.int .i64 u.old):=HS12.out.2.head.cell 14
    clear hT CG
    generalize Ag X2.names.phys X2.names.regs L12.freeA X2.names.free.length L12.freeCap=T at *
    go_upto_region 10 with(fail)
    go_simp
    clear c13
    refine Ad 31983 272 32255 [0,1,2,3,4,5,6,7,8,9,10,11,12,13,14,15] (by kernel_rfl) (by kernel_rfl) (by kernel_rfl) rfl ?_
    repeat'(first
     |refine rZ ?_
     |(refine' oR _ (by decide) (by decide) (by decide) (fun wq hwq K hK=>?_) ?_ ?_;rotate_left 1;(· have k14:=hwq.at_ zq c14;first | ((refine Az 79 _ rfl g 108 rfl 86 cs12 34 _ (HI12.out.blk.ext hwq) Tryz.underlying79 rfl Nj (by omega) ?_;rw [HXN.out];exact hK)) | (go_wp2_with(fail);all_goals exact hK));rfl)
     |fail)
    refine oS (fun w22 hw22 K1 hK1=>?_)
    have hb22:Below w14.heap.size w14 w22:=by rw [hw22];exact(qB _ _).drew
    clear hw22
    go_wp2_with(go_at_call 59;(with_reducible refine(HCG.out _ hb22).mono ?_);rintro e w23 ⟨v23,rfl,hb23,A23,c23,rfl,hm23,hf23⟩)
    refine hK1 _ _ (fun _=>True) trivial ?_
    simp only [Act.put,sA,sS,sZ]
    clear hK1 K1 HCG
    have hb79:=hb22.trans (hb23.mono hb22.size)
    have i9:=D6 (phys:=M.phys) (A:=A23) (n:=M.free.length) (cap:=c23) hm23.len
    have o9:=Ez M.phys M.regs A23 M.free.length c23
    have z9:=B3 M.phys M.regs A23 M.free.length c23 hm23.len
    have HN9:=qA (fun(wz:World) (hB:Blk wz g 86 (splice cs12 108 (Ag M.phys M.regs A23 M.free.length c23).toList)) (hg:w23.grownBy wz (some g))=>qL (HI12.out.setnames hb79 hm23 (fun ad e=>qD hb22.size (hf23 ad e)) hB hg) (qL ((HS12.out.1.trans (Ah.below (B:=B) hb79)).trans ((HI12.out.ext hb79).turned hg)) ((HS12.out.2.ext hb79).core (HI12.out.ext hb79).blk hg)))
    generalize Ag M.phys M.regs A23 M.free.length c23=T9 at *
    clear hm23 hf23
    refine rO ?_
    refine oS (fun w24 hw24 K1 hK1=>?_)
    have hB9:=HI12.out.blk.ext hb79
    rw [←hw24] at hB9 HN9
    clear hw24
    refine Ch 79 _ _ rfl g 108 T9 rfl rfl 86 cs12 hB9 i9 (by rw [z9,hsz2];decide) o9 ?_
    intro w25 hB25 hg25
    refine hK1 undef _ (fun _=>True) trivial ?_
    simp only [Act.put,sA,sS,sZ]
    clear hK1 K1
    refine Aj ?_
    rintro w15 hw15
    rw [←hw15] at hB25 hg25
    clear hw15
    have HBn:=qA (HN9.out w15 hB25 hg25)
    obtain⟨L15,cs15,h15⟩:∃ L15 cs15,Af B w15 g X1 L15 qs cs15:=by
     rw [HX1.out]
     have h1:=HBn.out.1
     rw [HX2.out,←GV.out] at h1
     exact⟨_,_,h1⟩
    have HI15:=qA h15
    have HS15:=qA HBn.out.2
    clear HN9 hB9 hB25 hg25 hb79 hb22 hb23 HI12 HS12 i9 o9 z9 c14 zq zg HXN hsz2 HBn h15
    go_upto_region 11 with(fail)
    go_simp
   rotate_left 1
   focus
    have e13:decide (0<u.dest)=false:=qG hd
    replace HX1:Hid (X1=({ X with ops:=R,hart:=Cw u.commit X.hart,mem:=C4 u.commit X.mem,commits:=X.commits++[u.commit] }:Core)):=qA (by rw [HX1.out,if_neg hd])
    clear hd HOLD
    go_upto_region 11 with(fail)
    go_simp
    obtain⟨L15,cs15,h15⟩:∃ L15 cs15,Af B w14 g X1 L15 qs cs15:=by
     rw [HX1.out,←HX2.out]
     exact⟨_,_,HI12.out⟩
    obtain⟨w15,hw15⟩:∃ x,x=w14:=⟨_,rfl⟩
    rw [←hw15] at h15 HS12 ⊢
    have HI15:=qA h15
    have HS15:=HS12
    clear hw15 h15 HI12 c13 zq HS12
   all_goals
    rcases hab:Ba u.ins with _ | _
    ·have HAB:=qA hab
     have HX6E:Hid (X6={ X3 with access:=acc' }):=qA (by rw [←HX6.out,HX6P.out,HAB.out];rfl)
     clear hab
     have CL:Hid (Calls Tryz.prog 60 #[.pointer (some ⟨g,0,none⟩), .pointer (some ⟨q,0,none⟩)] w15 fun e w'=>e = .returned (.tuple #[])∧∃ L' cs',Af B w' g X3 L' qs cs'∧Ah B w w'∧Kh w' q bs u w.heap.size (some ⟨bI,oI,none⟩) n cI sq):=qA ((Xy HI15.out HS15.out.2.head HTAB.out HPC.out HCW.out).mono fun e w' he=>by
      obtain⟨e1,hg,cs',hc⟩:=he
      exact⟨e1,L15,cs',by rw [HX3.out];exact hc,HS15.out.1.trans (HI15.out.turned hg),HS15.out.2.core HI15.out.blk hg⟩)
     go_upto_region 12 with(go_at_call 60;(with_reducible refine CL.out.mono ?_);rintro e w16 ⟨rfl,L16,cs16,hj16⟩;have HJ16:=qA hj16;clear hj16)
     go_simp
     clear CL HI15 HS15
     obtain⟨A7,n7,hv7⟩:=Al HJ16.out.1.rows.access
     have HV7:=qA hv7
     have c336:w16.cell? ⟨g,336,none⟩=some (.slice A7 X3.access.length n7):=by rw [←hv7];exact HJ16.out.1.access
     have zg16:=HJ16.out.1.lt
     have hac:=HJ16.out.1.rows.access
     rw [hv7] at hac
     have CDA:Hid (Calls Tryz.prog 61 #[.slice A7 X3.access.length n7, .func (.func 62) #[] #[.pointer (some ⟨bs,0,none⟩)]] w16 fun e w'=>e = .returned (.slice A7 acc'.length n7) ∧
       (Af B (w'.setCell ⟨g,336,none⟩ (.slice A7 acc'.length n7)) g { X3 with access:=acc' } { L16 with access := .slice A7 acc'.length n7 } qs (cs16.setIfInBounds 336 (.slice A7 acc'.length n7))∧Ah B w (w'.setCell ⟨g,336,none⟩ (.slice A7 acc'.length n7))∧Kh (w'.setCell ⟨g,336,none⟩ (.slice A7 acc'.length n7)) q bs u w.heap.size (some ⟨bI,oI,none⟩) n cI sq) ∧
       w'.cell? ⟨g,336,none⟩=some (.slice A7 X3.access.length n7)∧w'.frozen? ⟨g,336,none⟩=false∧g<w'.heap.size):=qA ((Xm A7 n7 B X3.access u.seq bs w16 HAL.out hac HJ16.out.2.2.box).mono fun e w' he=>by
      obtain⟨e1,hg,hr⟩:=he
      rw [HACC.out] at e1 hr
      have hs:=HJ16.out.1.setaccess (acc':=acc') (v' := .slice A7 acc'.length n7) (by rw [HV7.out];exact hg) hr (Or.inl (by rw [HV7.out];exact H9 _ _ _ _))
      have hsd:=HJ16.out.2.2.own hac hg (by decide) (by decide)
      have hbk:=HJ16.out.1.blk.grown hg (E7 HJ16.out.1.blk hac (by decide))
      exact⟨e1,⟨hs.1,HJ16.out.2.1.trans hs.2.1,hsd.core hbk (grownBy_setCell w' ⟨g,336,none⟩ _)⟩,by rw [←HV7.out];exact hs.2.2.1,hs.2.2.2.1,hs.2.2.2.2⟩)
     clear hv7 hac
     go_upto_region 13 with(go_at_call 61;(with_reducible refine CDA.out.mono ?_);rintro e w18 ⟨rfl,hj18,k18,f18,z18⟩;have HJ18:=qA hj18;clear hj18)
     go_simp
     (try clear k18);(try clear f18);(try clear z18)
     clear CDA c336 zg16 HV7
     generalize w18.setCell ⟨g,336,none⟩ (.slice A7 acc'.length n7)=w19 at *
     obtain⟨L19,cs19,h19⟩:∃ L19 cs19,Af B w19 g { X3 with access:=acc' } L19 qs cs19:=⟨_,_,HJ18.out.1⟩
     have HI19:=qA h19
     have HS19:=qA HJ18.out.2
     clear h19 HJ18 HJ16
     have AL:=qA (fun W=>Ij u.ins W)
     rw [HAB.out] at AL
     go_upto_region 15 with(first
      |(refine Ai rfl 53 _ rfl q 5 rfl 107 u.cells 5 _ HS19.out.2.head Tryz.underlying53 rfl Au (show 5+5≤27 by decide) ?_;rw [Uop.insX])
      |(go_at_call 63;(with_reducible refine(AL.out _).mono ?_);rintro e w20 ⟨rfl,hb20⟩))
     go_simp
     have HI20:=qA (HI19.out.ext hb20)
     have HS20:Hid (Ah B w w20∧Kh w20 q bs u w.heap.size (some ⟨bI,oI,none⟩) n cI sq):=qA ⟨HS19.out.1.trans (Ah.below hb20),HS19.out.2.ext hb20⟩
     clear AL HI19 HS19 hb20
     obtain⟨w17,hw17⟩:∃ x,x=w20:=⟨_,rfl⟩
     rw [←hw17] at HI20 HS20 ⊢
     have HJ17:Hid (Af B w17 g X6 _ qs _∧Ah B w w17∧Kh w17 q bs u w.heap.size (some ⟨bI,oI,none⟩) n cI sq):=qA ⟨by rw [HX6E.out];exact HI20.out,HS20.out.1,HS20.out.2⟩
     clear hw17 HI20 HS20
     have q37:w17.cell? ⟨g,37,none⟩=some (.int .i64 X6.hart.state):=by
      have h1:=HJ17.out.1.hstate HHL.out
      exact h1
     have z17:=HJ17.out.1.lt
     by_cases qs:X6.hart.state=0
     ·have e15:(X6.hart.state != 0)=false:=by simpa using qs
      have HL2:Hid (Left X6 Y m (sq.drop (j+1)) 2000000):=qA (by
       have h1:=HL.out.next (by rw [HX6.out];exact qs)
       rw [HX6.out] at h1
       rw [HSQ2.out]
       exact h1)
      have HS17:=qA HJ17.out
      clear HJ17 qs
      go_wp2_with(fail)
      go_roundw
      case rel=>exact⟨j+1,X6,_,_,_,by go_num,by omega,qA ⟨HS17.out.1,HS17.out.2.1,HS17.out.2.2.gone⟩,by rw [HMN.out];exact HL2⟩
      case measure=>simp [intOf];omega
     ·have e15:(X6.hart.state != 0)=true:=by simpa using qs
      have HY:Hid (Y=X6):=qA (by
       have h1:=HL.out.stop (by rw [HX6.out];exact qs)
       rw [h1,HX6.out])
      clear qs
      go_wp2_with(fail)
      refine bodyPost_ret (results_none rfl _ _ _) rfl ?_
      exact⟨rfl,HJ17.out.2.1,_,_,_,by rw [HY.out];exact HJ17.out.1⟩
    ·have HAB:=qA hab
     have HX6E:Hid (X6={ X3 with access:=acc',still:=false }):=qA (by rw [←HX6.out,HX6P.out,HAB.out];rfl)
     clear hab
     have CL:Hid (Calls Tryz.prog 60 #[.pointer (some ⟨g,0,none⟩), .pointer (some ⟨q,0,none⟩)] w15 fun e w'=>e = .returned (.tuple #[])∧∃ L' cs',Af B w' g X3 L' qs cs'∧Ah B w w'∧Kh w' q bs u w.heap.size (some ⟨bI,oI,none⟩) n cI sq):=qA ((Xy HI15.out HS15.out.2.head HTAB.out HPC.out HCW.out).mono fun e w' he=>by
      obtain⟨e1,hg,cs',hc⟩:=he
      exact⟨e1,L15,cs',by rw [HX3.out];exact hc,HS15.out.1.trans (HI15.out.turned hg),HS15.out.2.core HI15.out.blk hg⟩)
     go_upto_region 12 with(go_at_call 60;(with_reducible refine CL.out.mono ?_);rintro e w16 ⟨rfl,L16,cs16,hj16⟩;have HJ16:=qA hj16;clear hj16)
     go_simp
     clear CL HI15 HS15
     obtain⟨A7,n7,hv7⟩:=Al HJ16.out.1.rows.access
     have HV7:=qA hv7
     have c336:w16.cell? ⟨g,336,none⟩=some (.slice A7 X3.access.length n7):=by rw [←hv7];exact HJ16.out.1.access
     have zg16:=HJ16.out.1.lt
     have hac:=HJ16.out.1.rows.access
     rw [hv7] at hac
     have CDA:Hid (Calls Tryz.prog 61 #[.slice A7 X3.access.length n7, .func (.func 62) #[] #[.pointer (some ⟨bs,0,none⟩)]] w16 fun e w'=>e = .returned (.slice A7 acc'.length n7) ∧
       (Af B (w'.setCell ⟨g,336,none⟩ (.slice A7 acc'.length n7)) g { X3 with access:=acc' } { L16 with access := .slice A7 acc'.length n7 } qs (cs16.setIfInBounds 336 (.slice A7 acc'.length n7))∧Ah B w (w'.setCell ⟨g,336,none⟩ (.slice A7 acc'.length n7))∧Kh (w'.setCell ⟨g,336,none⟩ (.slice A7 acc'.length n7)) q bs u w.heap.size (some ⟨bI,oI,none⟩) n cI sq) ∧
       w'.cell? ⟨g,336,none⟩=some (.slice A7 X3.access.length n7)∧w'.frozen? ⟨g,336,none⟩=false∧g<w'.heap.size):=qA ((Xm A7 n7 B X3.access u.seq bs w16 HAL.out hac HJ16.out.2.2.box).mono fun e w' he=>by
      obtain⟨e1,hg,hr⟩:=he
      rw [HACC.out] at e1 hr
      have hs:=HJ16.out.1.setaccess (acc':=acc') (v' := .slice A7 acc'.length n7) (by rw [HV7.out];exact hg) hr (Or.inl (by rw [HV7.out];exact H9 _ _ _ _))
      have hsd:=HJ16.out.2.2.own hac hg (by decide) (by decide)
      have hbk:=HJ16.out.1.blk.grown hg (E7 HJ16.out.1.blk hac (by decide))
      exact⟨e1,⟨hs.1,HJ16.out.2.1.trans hs.2.1,hsd.core hbk (grownBy_setCell w' ⟨g,336,none⟩ _)⟩,by rw [←HV7.out];exact hs.2.2.1,hs.2.2.2.1,hs.2.2.2.2⟩)
     clear hv7 hac
     go_upto_region 13 with(go_at_call 61;(with_reducible refine CDA.out.mono ?_);rintro e w18 ⟨rfl,hj18,k18,f18,z18⟩;have HJ18:=qA hj18;clear hj18)
     go_simp
     (try clear k18);(try clear f18);(try clear z18)
     clear CDA c336 zg16 HV7
     generalize w18.setCell ⟨g,336,none⟩ (.slice A7 acc'.length n7)=w19 at *
     obtain⟨L19,cs19,h19⟩:∃ L19 cs19,Af B w19 g { X3 with access:=acc' } L19 qs cs19:=⟨_,_,HJ18.out.1⟩
     have HI19:=qA h19
     have HS19:=qA HJ18.out.2
     clear h19 HJ18 HJ16
     have AL:=qA (fun W=>Ij u.ins W)
     rw [HAB.out] at AL
     go_upto_region 14 with(first
      |(refine Ai rfl 53 _ rfl q 5 rfl 107 u.cells 5 _ HS19.out.2.head Tryz.underlying53 rfl Au (show 5+5≤27 by decide) ?_;rw [Uop.insX])
      |(go_at_call 63;(with_reducible refine(AL.out _).mono ?_);rintro e w20 ⟨rfl,hb20⟩))
     go_simp
     have HI20:=qA (HI19.out.ext hb20)
     have HS20:Hid (Ah B w w20∧Kh w20 q bs u w.heap.size (some ⟨bI,oI,none⟩) n cI sq):=qA ⟨HS19.out.1.trans (Ah.below hb20),HS19.out.2.ext hb20⟩
     clear AL HI19 HS19 hb20
     have k339:=HI20.out.cell HI20.out.cells.still
     have f339:=HI20.out.blk.frozen 339
     have z20:=HI20.out.lt
     have h21:=HI20.out.set 339 (.bool false) (HI20.out.cells.set_still false) HI20.out.rows
     have HJ17:Hid (Af B (w20.setCell ⟨g,339,none⟩ (.bool false)) g X6 _ qs _∧Ah B w (w20.setCell ⟨g,339,none⟩ (.bool false))∧Kh (w20.setCell ⟨g,339,none⟩ (.bool false)) q bs u w.heap.size (some ⟨bI,oI,none⟩) n cI sq):=qA ⟨by rw [HX6E.out];exact h21,HS20.out.1.trans (HI20.out.turned (grownBy_setCell w20 ⟨g,339,none⟩ (.bool false))),HS20.out.2.core HI20.out.blk (grownBy_setCell w20 ⟨g,339,none⟩ (.bool false))⟩
     clear h21
     go_upto_region 15 with(fail)
     go_simp
     clear k339 f339 z20 HI20 HS20
     generalize w20.setCell ⟨g,339,none⟩ (.bool false)=w17 at *
     have q37:w17.cell? ⟨g,37,none⟩=some (.int .i64 X6.hart.state):=by
      have h1:=HJ17.out.1.hstate HHL.out
      exact h1
     have z17:=HJ17.out.1.lt
     by_cases qs:X6.hart.state=0
     ·have e15:(X6.hart.state != 0)=false:=by simpa using qs
      have HL2:Hid (Left X6 Y m (sq.drop (j+1)) 2000000):=qA (by
       have h1:=HL.out.next (by rw [HX6.out];exact qs)
       rw [HX6.out] at h1
       rw [HSQ2.out]
       exact h1)
      have HS17:=qA HJ17.out
      clear HJ17 qs
      go_wp2_with(fail)
      go_roundw
      case rel=>exact⟨j+1,X6,_,_,_,by go_num,by omega,qA ⟨HS17.out.1,HS17.out.2.1,HS17.out.2.2.gone⟩,by rw [HMN.out];exact HL2⟩
      case measure=>simp [intOf];omega
     ·have e15:(X6.hart.state != 0)=true:=by simpa using qs
      have HY:Hid (Y=X6):=qA (by
       have h1:=HL.out.stop (by rw [HX6.out];exact qs)
       rw [h1,HX6.out])
      clear qs
      go_wp2_with(fail)
      refine bodyPost_ret (results_none rfl _ _ _) rfl ?_
      exact⟨rfl,HJ17.out.2.1,_,_,_,by rw [HY.out];exact HJ17.out.1⟩
  ·obtain rfl:j=n:=by omega
   have e1:decide ((j:Int)<j)=false:=by simp
   have HY:Hid (Y=X):=qA (by
    have h1:=HL.out.goes
    rw [Nat.sub_self] at h1
    exact h1.symm)
   clear HL
   go_wp2_with(fail)
   refine bodyPost_end (results_none rfl _ _ _) rfl ?_
   exact⟨rfl,HR.out.2.1,_,_,_,by rw [HY.out];exact HR.out.1⟩
end
end Go.Proofs.YtapgojgcmlnbgaaGreatDoor
