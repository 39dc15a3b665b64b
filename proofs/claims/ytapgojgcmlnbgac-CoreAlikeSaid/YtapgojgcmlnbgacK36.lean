/- Parts of a proof. -/
import Derived.Test.YtapgojgcmlnbgacK35
import Derived.Test.YtapgojgcmlnbgacK29
set_option linter.unusedSimpArgs false
set_option linter.unusedVariables false
set_option maxRecDepth 100000
set_option maxHeartbeats 16000000
namespace Go.Proofs.Ytapgojgcmlnbgac
open Go.RowKit
theorem first_take (seq at_ many:Int) (x:Int×Bool) (l:List Uop) {k:Nat} (hk:k<l.length):(l.take (k+1)).foldl (firstStep seq at_ many) x=firstStep seq at_ many ((l.take k).foldl (firstStep seq at_ many) x) (l[k]'hk):=by
 rw [List.take_succ_eq_append_getElem hk,List.foldl_append]
 rfl
section
variable {B:Nat} {w:World} {g p:Nat} {C:Core} {L:Lay} {ps:List Nat} {cs:Array Value}
def StPost (B:Nat) (w:World) (g:Nat) (C':Core) (e:Ending) (w':World):Prop:=e = .returned (.tuple #[])∧Turned B w w'∧∃ L' ps' cs',CoreIs B w' g C' L' ps' cs'
theorem stored_any (h:CoreIs B w g C L ps cs) {k0:Nat} (hp:ps[k0]? = some p) (hf:Fine C) (hc:(C.op k0).commit.Wf) (hq:C.seq≤4611686018427387904) (hb1:0≤C.backs) (hb2:C.backs<4611686018427387904) {j:Nat} (hj:findA C.access (C.op k0).seq=(j:Int)) (hjl:j<C.access.length) :
  Calls Try.prog 33 #[.pointer (some ⟨g,0,none⟩), .pointer (some ⟨p,0,none⟩)] w (StPost B w g (storedP C k0)):=by
 obtain⟨hu,hBp,hk,hg⟩:=h.uop_at hp
 obtain⟨a0,hja⟩:∃ a0,C.access[j]? = some a0:=⟨_,List.getElem?_eq_getElem hjl⟩
 have hjd:C.access.getD j default=a0:=by simp [List.getD,hja]
 unfold storedP
 dsimp only
 rw [hj]
 simp only [Int.toNat_natCast]
 rw [hjd]
 generalize C.op k0=u at *
 obtain⟨C1,hC1⟩:∃ C1,C1=({ C with access:=C.access.set j { a0 with known:=true,at_:=u.commit.at_,many:=u.commit.many,data:=u.commit.data } }:Core):=⟨_,rfl⟩
 have hf1:Fine C1:=by rw [hC1];exact hf.setacc hja hc
 have ea:C1.access=C.access.set j { a0 with known:=true,at_:=u.commit.at_,many:=u.commit.many,data:=u.commit.data }:=by rw [hC1]
 have eo:C1.ops=C.ops:=by rw [hC1]
 have eb:C1.backs=C.backs:=by rw [hC1]
 have es:C1.seq=C.seq:=by rw [hC1]
 have eal:C1.access.length=C.access.length:=by rw [ea,List.length_set]
 rw [←hC1,←ea,←eo]
 have hff:=fun hh=>first_found hf1.acc u.seq u.commit.at_ u.commit.many hh
 generalize hx0:wrongP C1.access u.seq=x0 at *
 obtain⟨f,hfo⟩:∃ f,f=C1.ops.foldl (firstStep u.seq u.commit.at_ u.commit.many) x0:=⟨_,rfl⟩
 rw [←hfo] at hff ⊢
 obtain⟨X,hX⟩:∃ X,X=(if f.2=true then backP C1 f.1 (C1.ops.getD (findU C1.ops f.1).toNat uopZ).pc else C1):=⟨_,rfl⟩
 rw [←hX]
 have HXT:Hid (f.2=true→X=backP C1 f.1 (C1.ops.getD (findU C1.ops f.1).toNat uopZ).pc):=Lib.hid fun e=>by rw [hX,if_pos e]
 have HXF:Hid (f.2=false→X=C1):=Lib.hid fun e=>by rw [hX,if_neg (by rw [e];decide)]
 clear hX
 have h22:w.cell? ⟨p,22,none⟩=some (.int .u32 u.commit.at_):=hu.cell 22
 have h23:w.cell? ⟨p,23,none⟩=some (.int .i64 u.commit.many):=hu.cell 23
 have h24:w.cell? ⟨p,24,none⟩=some (.int .u32 u.commit.data):=hu.cell 24
 have c0:w.cell? ⟨p,0,none⟩=some (.int .i64 u.seq):=hu.cell 0
 have zp:=hu.lt
 have zg:=h.lt
 obtain⟨ga,cA,cur,hAv,hbA,hBA,hrA,hszA⟩:=acc_block h.rows.access (by omega)
 have c336:w.cell? ⟨g,336,none⟩=some (.slice (some ⟨ga,0,none⟩) C.access.length cA):=by rw [←hAv];exact h.access
 have hna:p≠ga:=blk_other hu hBA (by decide)
 have HAV:=Lib.hid hAv
 have HOP:=Lib.hid (show C1.ops[k0]? = some u by rw [eo];exact hg)
 have hs2:=hc.at_
 have hs3:0≤u.commit.many∧u.commit.many≤4:=by have:=hc.many;omega
 generalize u.commit.at_=at_ at *
 generalize u.commit.many=many at *
 generalize u.commit.data=data at *
 have CA:=Lib.hid (fun W (hb:Below w.heap.size w W)=>show Calls Try.prog 49 #[.pointer (some ⟨g,0,none⟩), .int .i64 u.seq] W fun e w'=>e = .returned (.int .i64 (j:Int))∧Below W.heap.size W w' by
  have:=at_any (h.ext hb) u.seq (by have:=hf.lens.2.2;omega)
  rw [hj] at this
  exact this)
 have HI:=Lib.hid h
 have HP:=Lib.hid hu
 have HC1:=Lib.hid hC1
 have HJA:=Lib.hid hja
 have HF1:=Lib.hid hf1
 have HFF:=Lib.hid hff
 have HFO:=Lib.hid hfo
 have HX0:=Lib.hid hx0
 have HEAL:=Lib.hid eal
 have HAJ:=Lib.hid (show C1.access[j]? = some ({ a0 with known:=true,at_:=at_,many:=many,data:=data }:Acc) by rw [ea];exact List.getElem?_set_self hjl)
 have hlen1:=hf1.lens
 have hbk:0≤C1.backs∧C1.backs<4611686018427387904:=by rw [eb];exact⟨hb1,hb2⟩
 have hsq:C1.seq≤9223372036854775807:=by rw [es];omega
 have HBK:=Lib.hid (And.intro hbk hsq)
 have HUF:=Lib.hid hf1.uf
 clear h hu hg hf hc hAv hbA hBA hrA hszA ea eo eb es eal hC1 hf1 hja hj hjd hq hb1 hb2 hff hfo hx0 hbk hsq
 go_enter Try.func33,Try.ntmps33
 go_upto_region 0 with(fail)
 go_simp
 refine wp_region_ob 3319 264 3583 [0,1,2,3,4,5,6,7,8,9,10,11] (by kernel_rfl) (by kernel_rfl) (by kernel_rfl) rfl ?_
 repeat'(first
  |refine oQ rfl rfl ?_
  |(refine' oE _ (by decide) (by decide) (fun wq K hK=>?_) ?_ ?_;rotate_left 1;(· go_wp2_with(fail);all_goals exact hK);rfl)
  |(refine' oR _ (by decide) (by decide) (by decide) (fun wq hwq K hK=>?_) ?_ ?_;rotate_left 1;(· have k336:=hwq.at_ zg c336;have k0:=hwq.at_ zp c0;go_wp2_with(fail);all_goals exact hK);rfl)
  |((first | refine oT rfl rfl rfl rfl ?_ ?_ | refine oF rfl rfl rfl rfl ?_ ?_)<;>intro hc<;>first | (cases hc;done) | ((try cases hc);simp only [Act.put,sA,sS,sZ]))
  |refine oU rfl rfl rfl rfl ?_)
 refine wpOW_beside (by decide) (by decide) (by decide) (by kernel_rfl) (fun w6 hw6 K1 hK1=>?_)
 have hb6:Below w.heap.size w w6:=by rw [hw6];exact(Below.refl _ _).drew
 clear hw6
 go_wp2_with(go_at_call 49;(with_reducible refine(CA.out w6 hb6).mono ?_);rintro e w7 ⟨rfl,hb7⟩)
 replace hb7:=hb6.trans (hb7.mono hb6.size)
 refine hK1 _ _ hb7 ?_
 simp only [Act.put,sA,sS,sZ]
 clear hK1 K1
 repeat'(first
  |refine oQ rfl rfl ?_
  |(refine' oE _ (by decide) (by decide) (fun wq K hK=>?_) ?_ ?_;rotate_left 1;(· go_wp2_with(fail);all_goals exact hK);rfl)
  |((first | refine oT rfl rfl rfl rfl ?_ ?_ | refine oF rfl rfl rfl rfl ?_ ?_)<;>intro hc<;>first | (cases hc;done) | ((try cases hc);simp only [Act.put,sA,sS,sZ]))
  |refine oU rfl rfl rfl rfl ?_)
 refine wpO_nil ?_
 rintro w8 hw8
 rw [←hw8] at hb7
 clear hw8 hb6 CA c336 c0
 replace h22:=(hb7.cell (p:=⟨p,22,none⟩) zp).trans h22
 replace h23:=(hb7.cell (p:=⟨p,23,none⟩) zp).trans h23
 replace h24:=(hb7.cell (p:=⟨p,24,none⟩) zp).trans h24
 replace zp:=Nat.lt_of_lt_of_le zp hb7.size
 have HJ8:=Lib.hid (And.intro ((HI.out.ext hb7).setaccI HJA.out) (Turned.below (B:=B) hb7))
 clear hb7 HI HP zg
 go_upto_region 1 with(fail)
 go_simp
 refine wp_region_ob 920379135 270592 920649727 [0,1,2,3,4,5,6,7,8,9,10,11,12,13,14,15,16,17,18,19,20,21,22,23,24,25,26,27,28,29,30] (by kernel_rfl) (by kernel_rfl) (by kernel_rfl) rfl ?_
 repeat'(first
  |refine oQ rfl rfl ?_
  |(refine' oE _ (by decide) (by decide) (fun wq K hK=>?_) ?_ ?_;rotate_left 1;(· go_wp2_with(fail);all_goals exact hK);rfl)
  |(refine' oR _ (by decide) (by decide) (by decide) (fun wq hwq K hK=>?_) ?_ ?_;rotate_left 1;(· have k22:=hwq.at_ zp h22;have k23:=hwq.at_ zp h23;have k24:=hwq.at_ zp h24;go_wp2_with(fail);all_goals exact hK);rfl)
  |((first | refine oT rfl rfl rfl rfl ?_ ?_ | refine oF rfl rfl rfl rfl ?_ ?_)<;>intro hc<;>first | (cases hc;done) | ((try cases hc);simp only [Act.put,sA,sS,sZ]))
  |refine oU rfl rfl rfl rfl ?_)
 replace HJ8:Hid (CoreIs B w8.drew g { C with access:=C.access.set j a0 } L ps cs∧Turned B w w8.drew):=Lib.hid ⟨HJ8.out.1.ext (Below.refl _ _).drew,HJ8.out.2.trans (Turned.below (Below.refl _ _).drew)⟩
 clear h22 h23 h24 zp
 refine wpOW_solo (by decide) (by decide) (by decide) (by kernel_rfl) (fun w9 hw9 K1 hK1=>?_)
 rw [←hw9] at HJ8
 clear hw9
 obtain⟨⟨h9,t9⟩,k1,f1,z1⟩:=(HJ8).out.1.setaccN HAV.out hjl (i:=2) (by decide) (x := .bool true) (a':={ a0 with known:=true }) rfl
 have HJ9:=Lib.hid (And.intro h9 ((HJ8).out.2.trans t9))
 clear h9 t9 HJ8
 go_wp2_with(fail)
 refine hK1 undef _ (fun _=>True) trivial ?_
 simp only [Act.put,sA,sS,sZ]
 clear hK1 K1 k1 f1 z1
 repeat'(first
  |refine oQ rfl rfl ?_
  |(refine' oE _ (by decide) (by decide) (fun wq K hK=>?_) ?_ ?_;rotate_left 1;(· go_wp2_with(fail);all_goals exact hK);rfl)
  |((first | refine oT rfl rfl rfl rfl ?_ ?_ | refine oF rfl rfl rfl rfl ?_ ?_)<;>intro hc<;>first | (cases hc;done) | ((try cases hc);simp only [Act.put,sA,sS,sZ]))
  |refine oU rfl rfl rfl rfl ?_)
 refine wpOW_solo (by decide) (by decide) (by decide) (by kernel_rfl) (fun w10 hw10 K1 hK1=>?_)
 rw [←hw10] at HJ9
 clear hw10
 obtain⟨⟨h10,t10⟩,k1,f1,z1⟩:=(HJ9).out.1.setaccN HAV.out hjl (i:=3) (by decide) (x := .int .u32 at_) (a':={ a0 with known:=true,at_:=at_ }) rfl
 have HJ10:=Lib.hid (And.intro h10 ((HJ9).out.2.trans t10))
 clear h10 t10 HJ9
 go_wp2_with(fail)
 refine hK1 undef _ (fun _=>True) trivial ?_
 simp only [Act.put,sA,sS,sZ]
 clear hK1 K1 k1 f1 z1
 repeat'(first
  |refine oQ rfl rfl ?_
  |(refine' oE _ (by decide) (by decide) (fun wq K hK=>?_) ?_ ?_;rotate_left 1;(· go_wp2_with(fail);all_goals exact hK);rfl)
  |((first | refine oT rfl rfl rfl rfl ?_ ?_ | refine oF rfl rfl rfl rfl ?_ ?_)<;>intro hc<;>first | (cases hc;done) | ((try cases hc);simp only [Act.put,sA,sS,sZ]))
  |refine oU rfl rfl rfl rfl ?_)
 refine wpOW_solo (by decide) (by decide) (by decide) (by kernel_rfl) (fun w11 hw11 K1 hK1=>?_)
 rw [←hw11] at HJ10
 clear hw11
 obtain⟨⟨h11,t11⟩,k1,f1,z1⟩:=(HJ10).out.1.setaccN HAV.out hjl (i:=4) (by decide) (x := .int .i64 many) (a':={ a0 with known:=true,at_:=at_,many:=many }) rfl
 have HJ11:=Lib.hid (And.intro h11 ((HJ10).out.2.trans t11))
 clear h11 t11 HJ10
 go_wp2_with(fail)
 refine hK1 undef _ (fun _=>True) trivial ?_
 simp only [Act.put,sA,sS,sZ]
 clear hK1 K1 k1 f1 z1
 repeat'(first
  |refine oQ rfl rfl ?_
  |(refine' oE _ (by decide) (by decide) (fun wq K hK=>?_) ?_ ?_;rotate_left 1;(· go_wp2_with(fail);all_goals exact hK);rfl)
  |((first | refine oT rfl rfl rfl rfl ?_ ?_ | refine oF rfl rfl rfl rfl ?_ ?_)<;>intro hc<;>first | (cases hc;done) | ((try cases hc);simp only [Act.put,sA,sS,sZ]))
  |refine oU rfl rfl rfl rfl ?_)
 refine wpOW_solo (by decide) (by decide) (by decide) (by kernel_rfl) (fun w12 hw12 K1 hK1=>?_)
 rw [←hw12] at HJ11
 clear hw12
 obtain⟨⟨h12,t12⟩,k1,f1,z1⟩:=(HJ11).out.1.setaccN HAV.out hjl (i:=5) (by decide) (x := .int .u32 data) (a':={ a0 with known:=true,at_:=at_,many:=many,data:=data }) rfl
 have HJ12:=Lib.hid (And.intro h12 ((HJ11).out.2.trans t12))
 clear h12 t12 HJ11
 go_wp2_with(fail)
 refine hK1 undef _ (fun _=>True) trivial ?_
 simp only [Act.put,sA,sS,sZ]
 clear hK1 K1 k1 f1 z1
 repeat'(first
  |refine oQ rfl rfl ?_
  |(refine' oE _ (by decide) (by decide) (fun wq K hK=>?_) ?_ ?_;rotate_left 1;(· go_wp2_with(fail);all_goals exact hK);rfl)
  |((first | refine oT rfl rfl rfl rfl ?_ ?_ | refine oF rfl rfl rfl rfl ?_ ?_)<;>intro hc<;>first | (cases hc;done) | ((try cases hc);simp only [Act.put,sA,sS,sZ]))
  |refine oU rfl rfl rfl rfl ?_)
 refine wpO_nil ?_
 rintro w13 hw13
 rw [←hw13] at HJ12
 clear hw13
 have HI13:Hid (CoreIs B w13 g C1 L ps cs):=Lib.hid (by rw [HC1.out];exact HJ12.out.1)
 have HT13:Hid (Turned B w w13):=Lib.hid HJ12.out.2
 have hal:=HI13.out.rows.access
 have hv1:L.access = .slice (some ⟨ga,0,none⟩) C1.access.length cA:=by rw [HEAL.out];exact HAV.out
 obtain⟨l1,hl1⟩:∃ l1,l1=C1.access:=⟨_,rfl⟩
 have hS:AccsAt w13 w13.heap.size (some ⟨ga,0,none⟩) C1.access:=by
  rw [hv1] at hal
  exact AccsAt.own hal
 have hu13:=(HI13.out.rows.uops.at_ k0 u p HOP.out hp).1
 have c336:w13.cell? ⟨g,336,none⟩=some (.slice (some ⟨ga,0,none⟩) C1.access.length cA):=by rw [←hv1];exact HI13.out.access
 have c0:w13.cell? ⟨p,0,none⟩=some (.int .i64 u.seq):=hu13.cell 0
 have zp:=hu13.lt
 have zg:=HI13.out.lt
 have CW:=Lib.hid (fun W (hb:Below w13.heap.size w13 W)=>wrong_any (some ⟨ga,0,none⟩) cA C1.access u.seq W (by unfold maxLen;omega) (HF1.out.wf HBK.out.2) ((hS.below hb).mono hb.size))
 rw [HX0.out] at CW
 clear HJ12 hal hS hu13 hl1
 go_upto_region 2 with(fail)
 go_simp
 refine wp_region_ob 15991 136 16127 [0,1,2,3,4,5,6,7,8,9,10,11,12,13] (by kernel_rfl) (by kernel_rfl) (by kernel_rfl) rfl ?_
 repeat'(first
  |refine oQ rfl rfl ?_
  |(refine' oE _ (by decide) (by decide) (fun wq K hK=>?_) ?_ ?_;rotate_left 1;(· go_wp2_with(fail);all_goals exact hK);rfl)
  |(refine' oR _ (by decide) (by decide) (by decide) (fun wq hwq K hK=>?_) ?_ ?_;rotate_left 1;(· have k336:=hwq.at_ zg c336;have k0:=hwq.at_ zp c0;go_wp2_with(fail);all_goals exact hK);rfl)
  |((first | refine oT rfl rfl rfl rfl ?_ ?_ | refine oF rfl rfl rfl rfl ?_ ?_)<;>intro hc<;>first | (cases hc;done) | ((try cases hc);simp only [Act.put,sA,sS,sZ]))
  |refine oU rfl rfl rfl rfl ?_)
 refine wpOW_solo (by decide) (by decide) (by decide) (by kernel_rfl) (fun w14 hw14 K1 hK1=>?_)
 have hb14:Below w13.heap.size w13 w14:=by rw [hw14];exact(Below.refl _ _).drew
 clear hw14
 go_wp2_with(go_at_call 63;(with_reducible refine(CW.out w14 hb14).mono ?_);rintro e w15 ⟨rfl,hb15⟩)
 refine hK1 _ _ (fun _=>True) trivial ?_
 simp only [Act.put,sA,sS,sZ]
 clear hK1 K1 CW
 repeat'(first
  |refine oQ rfl rfl ?_
  |(refine' oE _ (by decide) (by decide) (fun wq K hK=>?_) ?_ ?_;rotate_left 1;(· go_wp2_with(fail);all_goals exact hK);rfl)
  |((first | refine oT rfl rfl rfl rfl ?_ ?_ | refine oF rfl rfl rfl rfl ?_ ?_)<;>intro hc<;>first | (cases hc;done) | ((try cases hc);simp only [Act.put,sA,sS,sZ]))
  |refine oU rfl rfl rfl rfl ?_)
 refine wpO_nil ?_
 rintro w16 hw16
 replace hb15:=hb14.trans (hb15.mono hb14.size)
 rw [←hw16] at hb15
 clear hw16 hb14 c336 c0 zp zg l1
 have HI16:=Lib.hid (HI13.out.ext hb15)
 have HT16:=Lib.hid (HT13.out.trans (Turned.below (B:=B) hb15))
 clear hb15 HI13 HT13
 obtain⟨A,n,hvo,hno,hno2,hno3⟩:=ptr_slice HI16.out.rows.ptrs
 have c335:w16.cell? ⟨g,335,none⟩=some (.slice A ps.length n):=by rw [←hvo];exact HI16.out.ops
 have zg:=HI16.out.lt
 have hpl:=HI16.out.rows.uops.len
 obtain⟨N,hN⟩:∃ N,N=ps.length:=⟨_,rfl⟩
 have HN:=Lib.hid hN
 have HN2:=Lib.hid (show N=C1.ops.length by rw [hN];exact hpl)
 have hN32:N≤32:=by have:=hlen1.1;omega
 rw [←hN] at c335 hno
 have HVO:=Lib.hid hvo
 have HVO3:=Lib.hid hno3
 have HV1:=Lib.hid hv1
 clear hN hpl hvo hno3 hv1
 go_upto_region 4 with(fail)
 go_loopw [5,6,65] (fun v5 v6 v65 wr=>∃ (k:Nat) (x:Int) (b:Bool),v65 = .int .i64 k∧v5 = .int .i64 x∧v6 = .bool b∧k≤N∧Below w16.heap.size w16 wr∧Hid ((C1.ops.take k).foldl (firstStep u.seq at_ many) x0=(x,b))) (fun _ _ v _=>N+1 - (intOf v).toNat)
 case atStart=>exact⟨0,x0.1,x0.2,rfl,rfl,rfl,Nat.zero_le _,Below.refl _ _,Lib.hid rfl⟩
 case round=>
  obtain⟨k,x,b,rfl,rfl,rfl,hk,hb,HK⟩:=hrel
  by_cases hlt:k<N
  ·have hk':k<C1.ops.length:=by rw [←HN2.out];exact hlt
   have hk2:k<ps.length:=by rw [←HN.out];exact hlt
   have hIr:=HI16.out.ext hb
   have hrow:=hIr.rows.ptrs
   rw [HVO.out] at hrow
   obtain⟨bP,oP,rfl,zP,cP⟩:=ptr_cell hrow hk2
   have hst:=first_take u.seq at_ many x0 C1.ops hk'
   rw [HK.out] at hst
   have hvm:C1.ops[k]'hk'∈C1.ops:=List.getElem_mem hk'
   have huv:=hIr.rows.uops.at_ k _ _ (List.getElem?_eq_getElem hk') (List.getElem?_eq_getElem hk2)
   have hvf:=HUF.out _ hvm
   generalize C1.ops[k]'hk'=v at *
   generalize ps[k]'hk2=q at *
   have d0:wr.cell? ⟨q,0,none⟩=some (.int .i64 v.seq):=huv.1.cell 0
   have d3:wr.cell? ⟨q,3,none⟩=some (.int .u32 v.pc):=huv.1.cell 3
   have zq:=huv.1.lt
   have hup:=(hIr.rows.uops.at_ k0 u p HOP.out hp).1
   have dp:wr.cell? ⟨p,0,none⟩=some (.int .i64 u.seq):=hup.cell 0
   have zp:=hup.lt
   have hac3:=acc_cell hIr HV1.out HAJ.out (i:=3) (by decide)
   have hac4:=acc_cell hIr HV1.out HAJ.out (i:=4) (by decide)
   have da:wr.cell? ⟨ga,j*7+3,none⟩=some (.int .u32 at_):=hac3.1
   have dm:wr.cell? ⟨ga,j*7+4,none⟩=some (.int .i64 many):=hac4.1
   have za:=hac3.2.2
   have hvp:=hvf.pc
   have m1:v.pc%18446744073709551616=v.pc:=by omega
   have m2:at_%18446744073709551616=at_:=by omega
   have m3:many%18446744073709551616=many:=by omega
   have m4:(at_+many)%18446744073709551616=at_+many:=by omega
   have m5:(v.pc+4)%18446744073709551616=v.pc+4:=by omega
   clear hvm huv hvf hup hac3 hac4 hIr hrow hk' hk2 HK
   obtain⟨b1,hb1⟩:∃ b1,b1=decide (v.pc<at_+many):=⟨_,rfl⟩
   obtain⟨b2,hb2⟩:∃ b2,b2=decide (at_<v.pc+4):=⟨_,rfl⟩
   obtain⟨s1,hs1⟩:∃ s1,s1=decide (u.seq<v.seq):=⟨_,rfl⟩
   obtain⟨s2,hs2'⟩:∃ s2,s2=decide (v.seq<x):=⟨_,rfl⟩
   have HS:Hid ((C1.ops.take (k+1)).foldl (firstStep u.seq at_ many) x0=if (s1&&(b1&&b2)&&(!b || s2))=true then (v.seq,true) else (x,b)):=Lib.hid (by rw [hst,hb1,hb2,hs1,hs2'];rfl)
   clear hst
   have t1:=hb1.symm
   have t2:=hb2.symm
   have t3:=hs1.symm
   have t4:=hs2'.symm
   clear hb1 hb2 hs1 hs2' hvp hs2 hs3
   rcases b1 with _ | _
   focus
    have HS2:Hid ((C1.ops.take (k+1)).foldl (firstStep u.seq at_ many) x0=(x,b)):=Lib.hid (by rw [HS.out];simp)
    clear HS
   rotate_left 1
   focus
    rcases b2 with _ | _
    focus
     have HS2:Hid ((C1.ops.take (k+1)).foldl (firstStep u.seq at_ many) x0=(x,b)):=Lib.hid (by rw [HS.out];simp)
     clear HS
    rotate_left 1
    focus
     skip
    rotate_left 1
   rotate_left 2
   all_goals
    go_upto_region 6 with(fail)
    go_simp
    refine wp_region_ob 4225752823 69214472 4294967295 [0,1,2,3,4,5,6,7,8,9,10,11,12,13,14,15,16,17,18,19,20,21,22,23,24,25,26,27,28,29,30,31] (by kernel_rfl) (by kernel_rfl) (by kernel_rfl) rfl ?_
    repeat'(first
     |refine oQ rfl rfl ?_
     |(refine' oE _ (by decide) (by decide) (fun wq K hK=>?_) ?_ ?_;rotate_left 1;(· go_wp2_with(fail);all_goals exact hK);rfl)
     |(refine' oR _ (by decide) (by decide) (by decide) (fun wq hwq K hK=>?_) ?_ ?_;rotate_left 1;(· have k3:=hwq.at_ zq d3;have ka:=hwq.at_ za da;have km:=hwq.at_ za dm;go_wp2_with(fail);all_goals exact hK);rfl)
     |((first | refine oT rfl rfl rfl rfl ?_ ?_ | refine oF rfl rfl rfl rfl ?_ ?_)<;>intro hc<;>first | (cases hc;done) | ((try cases hc);simp only [Act.put,sA,sS,sZ]))
     |(refine oU rfl rfl rfl rfl ?_;(try simp only [Act.put,sA,sS,sZ])))
    refine wpO_nil ?_
    intro ws hws
    replace hws:Below wr.heap.size wr ws:=by first | exact hws | (rw [hws];exact(Below.refl _ _).drew)
    replace d0:=(hws.cell (p:=⟨q,0,none⟩) zq).trans d0
    replace dp:=(hws.cell (p:=⟨p,0,none⟩) zp).trans dp
    replace zq:=Nat.lt_of_lt_of_le zq hws.size
    replace zp:=Nat.lt_of_lt_of_le zp hws.size
    clear d3 da dm za m1 m2 m3 m4 m5
    go_upto_region 7 with(fail)
    go_simp
   focus
    rcases s1 with _ | _
    focus
     skip
    rotate_left 1
    focus
     skip
    rotate_left 1
   rotate_left 2
   focus
    rcases s1 with _ | _
    focus
     skip
    rotate_left 1
    focus
     skip
    rotate_left 1
   rotate_left 2
   focus
    rcases s1 with _ | _
    focus
     have HS2:Hid ((C1.ops.take (k+1)).foldl (firstStep u.seq at_ many) x0=(x,b)):=Lib.hid (by rw [HS.out];simp)
     clear HS
    rotate_left 1
    focus
     rcases b with _ | _
     focus
      have HS2:Hid ((C1.ops.take (k+1)).foldl (firstStep u.seq at_ many) x0=(v.seq,true)):=Lib.hid (by rw [HS.out];simp)
      clear HS
     rotate_left 1
     focus
      rcases s2 with _ | _
      focus
       have HS2:Hid ((C1.ops.take (k+1)).foldl (firstStep u.seq at_ many) x0=(x,true)):=Lib.hid (by rw [HS.out];simp)
       clear HS
      rotate_left 1
      focus
       have HS2:Hid ((C1.ops.take (k+1)).foldl (firstStep u.seq at_ many) x0=(v.seq,true)):=Lib.hid (by rw [HS.out];simp)
       clear HS
   all_goals
    refine wp_region_ob 16252791 524424 16777215 [0,1,2,3,4,5,6,7,8,9,10,11,12,13,14,15,16,17,18,19,20,21,22,23] (by kernel_rfl) (by kernel_rfl) (by kernel_rfl) rfl ?_
    repeat'(first
     |refine oQ rfl rfl ?_
     |(refine' oE _ (by decide) (by decide) (fun wq K hK=>?_) ?_ ?_;rotate_left 1;(· go_wp2_with(fail);all_goals exact hK);rfl)
     |(refine' oR _ (by decide) (by decide) (by decide) (fun wq hwq K hK=>?_) ?_ ?_;rotate_left 1;(· have k0:=hwq.at_ zq d0;have kp:=hwq.at_ zp dp;go_wp2_with(fail);all_goals exact hK);rfl)
     |((first | refine oT rfl rfl rfl rfl ?_ ?_ | refine oF rfl rfl rfl rfl ?_ ?_)<;>intro hc<;>first | (cases hc;done) | ((try cases hc);simp only [Act.put,sA,sS,sZ]))
     |(refine oU rfl rfl rfl rfl ?_;(try simp only [Act.put,sA,sS,sZ])))
    refine wpO_nil ?_
    intro wt hwt
    replace hwt:Below ws.heap.size ws wt:=by first | exact hwt | (rw [hwt];exact(Below.refl _ _).drew)
    have e0:wt.cell? ⟨q,0,none⟩=some (.int .i64 v.seq):=(hwt.cell (p:=⟨q,0,none⟩) zq).trans d0
    have zt:q<wt.heap.size:=Nat.lt_of_lt_of_le zq hwt.size
    go_wp2_with(fail)
    go_roundw
    case rel=>exact⟨k+1,_,_,rfl,rfl,by go_num,by omega,(hb.trans (hws.mono hb.size)).trans (hwt.mono (Nat.le_trans hb.size hws.size)),HS2⟩
    case measure=>simp [intOf];omega
  ·obtain rfl:k=N:=by omega
   have e1:decide ((k:Int)<k)=false:=by simp
   have hfx:f=(x,b):=by
    have h1:=HK.out
    rw [HN2.out,List.take_length] at h1
    rw [HFO.out,h1]
   subst hfx
   clear HK HFO HN HN2 hno hk hlt c335
   rcases b with _ | _
   ·have HX:Hid (X=C1):=Lib.hid (HXF.out rfl)
    clear HXF HXT HFF
    go_wp2_with(fail)
    refine bodyPost_end (results_none rfl _ _ _) rfl ?_
    exact⟨rfl,HT16.out.trans (Turned.below hb),L,ps,cs,by rw [HX.out];exact HI16.out.ext hb⟩
   ·have HX:=Lib.hid (HXT.out rfl)
    obtain⟨k2,hk2,hk2l⟩:=HFF.out rfl
    clear HXF HXT HFF
    have hIr:=HI16.out.ext hb
    have hrow:=hIr.rows.ptrs
    have hpl:k2<ps.length:=by rw [hIr.rows.uops.len];exact hk2l
    rw [HVO.out] at hrow
    obtain⟨bP,oP,rfl,zP,cP⟩:=ptr_cell hrow hpl
    have huv:=(hIr.rows.uops.at_ k2 _ _ (List.getElem?_eq_getElem hk2l) (List.getElem?_eq_getElem hpl)).1
    have hgd:C1.ops.getD k2 uopZ=C1.ops[k2]'hk2l:=by simp [List.getD,List.getElem?_eq_getElem hk2l]
    rw [hk2,Int.toNat_natCast,hgd] at HX
    generalize C1.ops[k2]'hk2l=v at *
    generalize ps[k2]'hpl=q at *
    have d3:wr.cell? ⟨q,3,none⟩=some (.int .u32 v.pc):=huv.cell 3
    have zq:=huv.lt
    have d335:wr.cell? ⟨g,335,none⟩=some (.slice (some ⟨bP,oP,none⟩) ps.length n):=by rw [←HVO.out];exact hIr.ops
    have zg2:=hIr.lt
    have CF:=Lib.hid (fun W (hb:Below wr.heap.size wr W)=>show Calls Try.prog 58 #[.pointer (some ⟨g,0,none⟩), .int .i64 x] W fun e w'=>e = .returned (.int .i64 (k2:Int))∧Below W.heap.size W w' by
     have:=find_any (hIr.ext hb) x (by omega)
     rw [hk2] at this
     exact this)
    have CB:=Lib.hid (fun W (hb:Below wr.heap.size wr W)=>back_any (hIr.ext hb) x v.pc HBK.out.1.1 HBK.out.1.2 (by omega) (by omega) (by omega) (by have:=HF1.out.free;omega) (HF1.out.found x) HF1.out.undo)
    have HTr:=Lib.hid (HT16.out.trans (Turned.below (B:=B) hb))
    clear hIr hrow huv hgd hk2 zg hb HI16 HT16
    go_upto_region 11 with(fail)
    go_simp
    refine wp_region_ob 6879 9248 16127 [0,1,2,3,4,5,6,7,8,9,10,11,12,13,14] (by kernel_rfl) (by kernel_rfl) (by kernel_rfl) rfl ?_
    repeat'(first
     |refine oQ rfl rfl ?_
     |(refine' oE _ (by decide) (by decide) (fun wq K hK=>?_) ?_ ?_;rotate_left 1;(· go_wp2_with(fail);all_goals exact hK);rfl)
     |(refine' oR _ (by decide) (by decide) (by decide) (fun wq hwq K hK=>?_) ?_ ?_;rotate_left 1;(· have k335:=hwq.at_ zg2 d335;go_wp2_with(fail);all_goals exact hK);rfl)
     |((first | refine oT rfl rfl rfl rfl ?_ ?_ | refine oF rfl rfl rfl rfl ?_ ?_)<;>intro hc<;>first | (cases hc;done) | ((try cases hc);simp only [Act.put,sA,sS,sZ]))
     |refine oU rfl rfl rfl rfl ?_)
    refine wpOW_beside (by decide) (by decide) (by decide) (by kernel_rfl) (fun w17 hw17 K1 hK1=>?_)
    have hb17:Below wr.heap.size wr w17:=by rw [hw17];exact(Below.refl _ _).drew
    clear hw17
    go_wp2_with(go_at_call 58;(with_reducible refine(CF.out w17 hb17).mono ?_);rintro e w18 ⟨rfl,hb18⟩)
    replace hb18:=hb17.trans (hb18.mono hb17.size)
    refine hK1 _ _ hb18 ?_
    simp only [Act.put,sA,sS,sZ]
    clear hK1 K1 CF hb17
    repeat'(first
     |refine oQ rfl rfl ?_
     |(refine' oE _ (by decide) (by decide) (fun wq K hK=>?_) ?_ ?_;rotate_left 1;(· go_wp2_with(fail);all_goals exact hK);rfl)
     |(refine' oR _ (by decide) (by decide) (by decide) (fun wq hwq K hK=>?_) ?_ ?_;rotate_left 1;(· have kP:=hwq.at_ zP cP;have k3:=hwq.at_ zq d3;go_wp2_with(fail);all_goals exact hK);rfl)
     |((first | refine oT rfl rfl rfl rfl ?_ ?_ | refine oF rfl rfl rfl rfl ?_ ?_)<;>intro hc<;>first | (cases hc;done) | ((try cases hc);simp only [Act.put,sA,sS,sZ]))
     |refine oU rfl rfl rfl rfl ?_)
    refine wpOW_solo (by decide) (by decide) (by decide) (by kernel_rfl) (fun w19 hw19 K1 hK1=>?_)
    rw [←hw19] at hb18
    clear hw19
    go_wp2_with(go_at_call 31;(with_reducible refine(CB.out w19 hb18).mono ?_);rintro e w20 ⟨rfl,ht20,L20,cs20,h20⟩)
    refine hK1 _ _ (fun _=>True) trivial ?_
    simp only [Act.put,sA,sS,sZ]
    clear hK1 K1 CB
    refine wpO_nil ?_
    rintro w21 hw21
    rw [←hw21] at ht20 h20
    clear hw21
    go_wp2_with(fail)
    refine bodyPost_end (results_none rfl _ _ _) rfl ?_
    exact⟨rfl,(HTr.out.trans (Turned.below hb18)).trans ht20,L20,_,cs20,by rw [HX.out];exact h20⟩
end
end Go.Proofs.Ytapgojgcmlnbgac
