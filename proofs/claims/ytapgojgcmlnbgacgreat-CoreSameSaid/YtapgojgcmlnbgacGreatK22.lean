/- Parts of a proof. -/
import Derived.Test.YtapgojgcmlnbgacGreatK21
import Derived.Test.YtapgojgcmlnbgacGreatK03
import Derived.Test.YtapgojgcmlnbgacGreatK00
import Derived.Test.YtapgojgcmlnbgacGreatK17
import Derived.Test.YtapgojgcmlnbgacGreatK09
import Derived.Test.YtapgojgcmlnbgacGreatProg
import Derived.WalkLawsBesides
import Derived.WalkSpells
import Derived.Lib.Hide
set_option linter.unusedSimpArgs false
set_option linter.unusedVariables false
set_option maxRecDepth 100000
set_option maxHeartbeats 16000000
namespace Go.Proofs.YtapgojgcmlnbgacGreat
open Go.RowKit
theorem Z0 (h:Al) (m:List Int) (cause:Int):H5 h m cause=(Aw h.pc cause,Cq (Aw h.pc cause) h,Cs (Aw h.pc cause) m):=rfl
theorem Ae3 (h:Al) (A:Option Addr) (cap:Nat) (m:List Int) (w:World) (hh:h.Wf) (hst:h.state=0) (hca:h.cause=0) (hl:m.length≤140737488351232) (hm:Bytes m) (hA:Aq w w.heap.size .u8 A m) (hnil:A=none→m=[]) :
  Calls Tryz.prog 15 #[.agg h.cells, .slice A m.length cap] w (Rf w A m (Kt h m,goH h m,goM h m)):=by
 unfold goH goM
 rcases hld:(Cd m 13 h.pc).2 with _ | _
 ·have hf:Da m h.pc=(Fs,1):=by unfold Da;rw [hld];rfl
  have hc:Kt h m=Aw h.pc 1:=by unfold Kt;rw [hf];rfl
  rw [hc,←Z0]
  exact Aby h A cap m w hh hl hm hA hnil hld
 rcases hd:Ld (Cd m 13 h.pc).1 with _ | i
 ·have hf:Da m h.pc=(Fs,2):=by unfold Da;rw [hld,if_pos rfl,hd]
  have hc:Kt h m=Aw h.pc 2:=by unfold Kt;rw [hf];rfl
  rw [hc,←Z0]
  exact Abz h A cap m w hh hl hm hA hnil hld hd
 have hf:Da m h.pc=(i,0):=by unfold Da;rw [hld,if_pos rfl,hd]
 have hc:Kt h m=Cl i h m:=by unfold Kt;rw [hf];rfl
 have hi:=Afy hd
 rw [hc,←Ag9 i h m hi]
 exact Ag6 i h A cap m w _ hh hst hca hl hm hA hnil hld hd hi rfl
theorem Ahp (c:Com) (h:Al) (v:Value):(Fg c h v).extract 0 (0+11)=c.cells:=by
 apply Array.toList_inj.1
 unfold Fg
 rw [Array.toList_extract]
 simp only [List.extract_eq_take_drop]
 simp [Com.cells]
theorem Afz (c:Com) (h:Al) (v:Value) (hl:h.regs.length=32):(Fg c h v).extract 11 (11+35)=h.cells:=by
 have hs:h.cells.toList.length=35:=by rw [E3];simp [hl]
 apply Array.toList_inj.1
 unfold Fg
 rw [Array.toList_extract]
 simp only [List.extract_eq_take_drop]
 have:(c.cells.toList++h.cells.toList++[v]).drop 11=h.cells.toList++[v]:=by simp [Com.cells]
 rw [this]
 exact List.take_left' hs
theorem Ahq (c:Com) (h:Al) (v:Value) (hl:h.regs.length=32):(Fg c h v)[46]? = some v:=by
 have hs:h.cells.toList.length=35:=by rw [E3];simp [hl]
 unfold Fg
 rw [List.getElem?_toArray,List.getElem?_append_right (by simp [Com.cells] at hs ⊢;omega)]
 have:46 - (c.cells.toList++h.cells.toList).length=0:=by rw [List.length_append,hs];simp [Com.cells]
 rw [this]
 rfl
theorem W2:(Tryz.prog.info? 69).map (·.size)=some 47:=by kernel_rfl
def Ais:Array Value:=Fg Aix Jf (.slice none 0 0)
def Sv (w:World) (n:Nat) (R:List Com×Al×List Int) (e:Ending) (w':World):Prop:=
 ∃ AL cL A2 c2,e = .returned (.tuple #[.slice AL R.1.length cL, .agg R.2.1.cells, .slice A2 n c2])∧Below w.heap.size w w' ∧
   w'.ownsRow w.heap.size 67 11 (.slice AL R.1.length cL) R.1.length (Eo R.1)∧Aq w' w'.heap.size .u8 A2 R.2.2∧(A2=none→R.2.2=[])
theorem Aq.farRow {w w':World} {B:Nat} {row:Option Nat} {k:IntKind} {A:Option Addr} {l:List Int} (h:Aq w B k A l) (hB:B≤w.heap.size) (hg:w.grownBy w' row) (hA:l≠[]→∀ ad,A=some ad→row≠some ad.block):Aq w' B k A l:=fun hne=>by
 obtain⟨b,o,h1,h2,h3⟩:=h hne
 have hb:=hA hne _ h1
 refine⟨b,o,h1,h2,fun i v hi=>?_⟩
 rw [World.cell?_of_block (hg.block b (Nat.lt_of_lt_of_le h2 hB) (fun e=>hb e.symm)),h3 i v hi]
theorem Aek (h:Al) (i:Nat) (v:Value) (hi:h.cells[i]? = some v) (x:Int):v ≠ .int .u8 x:=by
 intro e
 subst e
 have hm:(Value.int .u8 x)∈h.cells.toList:=by
  rw [←Array.getElem?_toList] at hi
  exact List.mem_of_getElem? hi
 rw [E3] at hm
 simp at hm
theorem Kw {w:World} {B g:Nat} {A:Option Addr} {l:List Int} {t:TypeId} {h:Al} (hM:Aq w B .u8 A l) (hB:Blk w g t h.cells):l≠[]→∀ ad,A=some ad→some g≠some ad.block:=by
 intro hne ad hA e
 injection e with e
 obtain⟨b,o,h1,h2,h3⟩:=hM hne
 rw [h1] at hA
 cases hA
 dsimp only at e
 subst e
 have h0:0<l.length:=List.length_pos_iff.2 hne
 have hc:=h3 0 (l[0]'h0) (List.getElem?_eq_getElem h0)
 rw [hB.cell] at hc
 exact Aek h _ _ hc _ rfl
theorem Aeo {h:Al} (hm:Ir h=true) (hs:h.state=0):h.cause=0:=by unfold Ir at hm;simp at hm;omega
theorem Agv (h:Al) (A:Option Addr) (cap:Nat) (m:List Int) (steps:Int) (w:World) (hh:h.Wf) (hmay:Ir h=true) (hl:m.length≤140737488351232) (hm:Bytes m) (hA:Aq w w.heap.size .u8 A m) (hnil:A=none→m=[]) (hs0:0≤steps) (hs1:steps≤1000000) :
  Calls Tryz.prog 6 #[.agg h.cells, .slice A m.length cap, .int .i64 steps] w (Sv w m.length (Dr steps.toNat h m)):=by
 obtain⟨N,rfl⟩:=Int.eq_ofNat_of_zero_le hs0
 rw [Int.toNat_natCast]
 obtain⟨R,hRn⟩:∃ R,Dr N h m=R:=⟨_,rfl⟩
 have hrun:Ri h m∧m.length=m.length∧Dr N h m=([]++(Dr (N - 0) h m).1,(Dr (N - 0) h m).2):=⟨⟨hh,hmay,hm⟩,rfl,by simp⟩
 rw [hRn] at hrun ⊢
 clear hRn hmay
 obtain⟨i0,hi,hz0,hz1,hz2⟩:=info_parts Vp
 go_enter Tryz.func6,Tryz.ntmps6
 go_upto_region 1 with(fail)
 go_simp
 refine Au fun wa hq=>?_
 have hH:Blk wa w.heap.size 27 h.cells:=by rw [hq];exact(Blk.new w _ _).alloc _
 have hR:Blk wa (w.heap.size+1) 27 Jf.cells:=by rw [hq];exact Blk.newAt (w.alloc _) 27 _ (by simp)
 have hbl:Below w.heap.size w wa:=by rw [hq];exact((Below.refl _ _).alloc (Nat.le_refl _) _).alloc (by simp) _
 clear hq
 have hA3:=(hA.below hbl).mono hbl.size
 have HRUN:=Lib.hid hrun
 clear hrun
 obtain⟨B2,hB2⟩:∃ B2,B2=wa.heap.size:=⟨_,rfl⟩
 have hB2':B2≤wa.heap.size:=by omega
 have hB22:w.heap.size+2≤B2:=by have:=hR.lt;omega
 clear hB2
 go_upto_region 3 with(fail)
 go_loopw [1,9,10] (fun v1 v9 v10 wr=>∃ (k:Nat) (AL:Option Addr) (cL:Nat) (A3:Option Addr) (cap3:Nat) (ls:List Com) (h':Al) (m':List Int),v1 = .slice A3 m.length cap3∧v9 = .slice AL k cL∧v10 = .int .i64 k∧k≤N∧Below w.heap.size w wr∧Blk wr w.heap.size 27 h'.cells∧Blk wr (w.heap.size+1) 27 Jf.cells∧Aq wr wr.heap.size .u8 A3 m'∧(A3=none→m'=[])∧(m'≠[]→∀ ad,A3=some ad→(Value.slice AL k cL).ownBlock≠some ad.block)∧wr.ownsRow B2 67 11 (.slice AL k cL) k (Eo ls)∧B2≤wr.heap.size∧Hid (Ri h' m'∧m'.length=m.length∧R=(ls++(Dr (N - k) h' m').1,(Dr (N - k) h' m').2))) (fun _ _ v _=>N+1 - (intOf v).toNat)
 case atStart=>exact⟨0,none,0,A,cap,[],h,m,rfl,rfl,rfl,Nat.zero_le _,hbl,hH,hR,hA3,hnil,(fun _ _ _ e=>by cases e),World.ownsRow_nil _ _ _ _,hB2',Lib.hid ⟨HRUN.out.1,rfl,HRUN.out.2.2⟩⟩
 case round=>
  clear hbl hH hR hA3 hB2' HRUN
  obtain⟨k,AL,cL,A3,cap3,ls,h',m',rfl,rfl,rfl,hk,hb,hH,hR,hM,hN,hMp,hL,hB2',Hrel⟩:=hrel
  obtain⟨hok,hml,Hr⟩:=Hrel.out
  clear Hrel
  have c33:=(hH.cell 33).trans (Al.cells_pc hok.hart.len).2.1
  by_cases hlt:k<N
  ·have t1:decide ((k:Int)<(N:Int))=true:=decide_eq_true (by omega)
   by_cases hst:h'.state=0
   ·have t2:(h'.state==0)=true:=by simpa using hst
    have hnx:=hok.next
    rw [show N - k=(N - (k+1))+1 by omega,Gq hst] at Hr
    have hml2:(goM h' m').length=m.length:=(I7 _ _).trans hml
    have CG:Calls Tryz.prog 15 #[.agg h'.cells, .slice A3 m.length cap3] wr fun e w'=>∃ A2 c2,e = .returned (.agg (Fg (Kt h' m') (goH h' m') (.slice A2 m.length c2)))∧Below wr.heap.size wr w'∧Aq w' w'.heap.size .u8 A2 (goM h' m')∧(A2=none→goM h' m'=[])∧((∀ ad,A2=some ad→wr.heap.size≤ad.block)∨A2=A3):=by
     have:=Ae3 h' A3 cap3 m' wr hok.hart hst (Aeo hok.may hst) (by omega) hok.bytes hM hN
     unfold Rf at this
     rw [hml] at this
     exact this
    have CG:=Lib.hid CG
    have hhl:=hok.hart.len
    have hhl9:=hnx.hart.len
    generalize Kt h' m'=C at *
    generalize goH h' m'=h9 at *
    generalize goM h' m'=m9 at *
    obtain⟨HR,hHR⟩:∃ HR,HR=Dr (N - (k+1)) h9 m9:=⟨_,rfl⟩
    rw [←hHR] at Hr
    have Hnew:Hid (Ri h9 m9∧m9.length=m.length∧R=((ls++[C])++(Dr (N - (k+1)) h9 m9).1,(Dr (N - (k+1)) h9 m9).2)):=Lib.hid ⟨hnx,hml2,by rw [Hr,←hHR];simp⟩
    clear Hr hHR HR hnx hml2 hok hst
    go_upto_region 5 with(fail)
    try go_simp
    clear c33 t1 t2
    go_upto_region 6 with(first
     |(refine Ac rfl 27 _ rfl w.heap.size rfl 27 _ _ hH Tryz.underlying27 rfl (B7 hhl) ?_)
     |(go_at_call 15;(with_reducible refine CG.out.mono ?_);rintro e w7 ⟨A7,c7,rfl,hb7,hM7,hN7,hW7⟩)
     |(refine Ab rfl 69 _ _ rfl w7.heap.size (Fg C h9 (.slice A7 m.length c7)) rfl rfl 69 _ (Blk.new w7 _ _) (by rw [Dy hhl9];exact W2) (by rw [Dy hhl9];rfl) (G4 C h9 rfl) ?_;intro w8 hD hg8))
    try go_simp
    have hz7:=hb7.size
    have hz8:=hg8.size
    simp only [World.size_alloc] at hz8
    have hb8:Below wr.heap.size wr w8:=below_grown (hb7.alloc hb7.size (.cells Ais 69)) hg8 (by simp;omega) hz7
    have hM8:Aq w8 w7.heap.size .u8 A7 m9:=hM7.below (((Below.refl w7.heap.size w7).alloc (Nat.le_refl _) (.cells Ais 69)).grown hg8 (by simp) (fun k hk=>by cases hk;exact Nat.le_refl _))
    replace hH:=hH.ext hb8
    replace hR:=hR.ext hb8
    replace hb:=hb.trans (hb8.mono hb.size)
    have hL8:=Dd hL hb8
    have hzl:∀ j,(Value.slice AL k cL).ownBlock=some j→B2≤j∧j<wr.heap.size:=fun j hj=>hL.lt j hj
    have hne':m9≠[]→m'≠[]:=fun h e=>h (List.eq_nil_of_length_eq_zero (by rw [Hnew.out.2.1,←hml,e];rfl))
    have hMp7:m9≠[]→∀ ad,A7=some ad→(Value.slice AL k cL).ownBlock≠some ad.block:=fun hne ad hA e=>by
     rcases hW7 with hW7 | rfl
     ·have:=hW7 ad hA;have:=(hzl _ e).2;omega
     ·exact hMp (hne' hne) ad hA e
    clear hMp hne' hW7
    clear hb7 hM7 hg8 hb8 hL CG hM hN
    have hDm:=Ahq C h9 (.slice A7 m.length c7) hhl9
    have hDs:=Dy (c:=C) (v := .slice A7 m.length c7) hhl9
    have hD0:=Ahp C h9 (.slice A7 m.length c7)
    have hD1:=Afz C h9 (.slice A7 m.length c7) hhl9
    generalize Fg C h9 (.slice A7 m.length c7)=D at *
    have HD0:=Lib.hid hD0
    have HD1:=Lib.hid hD1
    have HDs:=Lib.hid hDs
    have HDm:=Lib.hid hDm
    clear hD0 hD1 hDs
    go_upto_region 7 with(first
     |(refine Am rfl 67 _ rfl w7.heap.size 0 rfl 69 D 11 _ hD Tryz.underlying67 rfl Tc (by rw [HDs.out];omega) ?_;rw [HD0.out])
     |(at_builtin;refine Re rfl (.tmp 25) (.tmp 28) 30 rfl B2 67 i0 _ 11 64 Tryz.underlying30 hi hz0 hz1 hz2 rfl (by decide) (.slice AL k cL) k (Eo ls) rfl (hL8.alloc _) ⟨w8.heap.size,0,none⟩ 1 1 C.cells.toList rfl (Sk C) (Jv w8 C.cells _ _ rfl) (fun u hu=>Oa [C] u (by rw [Nr];exact hu)) (by unfold maxLen;omega) (by omega) (by simp;omega) ?_;intro v9 w9 hL9 hg9 hW9))
    try go_simp
    have hz9:=hg9.size
    simp only [World.size_alloc] at hz9
    rw [←Nr C,←Ps] at hL9
    obtain⟨A9,cap9,rfl⟩:=Bb hL9
    have hH9:=(hH.alloc (.cells C.cells 67)).grown hg9 (fun e=>by have:=(hzl _ e.symm).1;omega)
    have hR9:=(hR.alloc (.cells C.cells 67)).grown hg9 (fun e=>by have:=(hzl _ e.symm).1;omega)
    have hD9:=(hD.alloc (.cells C.cells 67)).grown hg9 (fun e=>by have:=(hzl _ e.symm).2;omega)
    have hb9:=(hb.alloc hb.size (.cells C.cells 67)).grown hg9 (by have:=hb.size;simp;omega) (fun j hj=>by have:=(hzl j hj).1;omega)
    have hM9:Aq w9 w7.heap.size .u8 A7 m9:=Aq.farRow (hM8.below ((Below.refl w7.heap.size w8).alloc (by omega) (.cells C.cells 67))) (by simp;omega) hg9 hMp7
    have hMp9:m9≠[]→∀ ad,A7=some ad→(Value.slice A9 (k+1) cap9).ownBlock≠some ad.block:=fun hne ad hA e=>by
     rcases hW9 with hW9 | hW9
     ·exact hMp7 hne ad hA (hW9.symm.trans e)
     ·have h1:=hW9 _ e
      obtain⟨b,o,h2,h3,_⟩:=hM8 hne
      rw [hA] at h2
      injection h2 with h2
      subst h2
      simp at h1
      omega
    clear hH hR hD hb hM8 hL8 hg9 hMp7 hW9 hDm
    go_upto_region 8 with(first
     |(refine Am rfl 27 _ rfl w7.heap.size 11 rfl 69 D 35 _ hD9 Tryz.underlying27 rfl ((B7 hhl9).trans (by rw [Al.cells_size hhl9])) (by rw [HDs.out];omega) ?_;rw [HD1.out])
     |(refine Ab rfl 27 _ _ rfl w.heap.size h9.cells rfl rfl 27 _ hH9 (B7 hhl9) (by rw [Al.cells_size hhl9,Al.cells_size hhl]) (J1 h9) ?_;intro w10 hH10 hg10))
    try go_simp
    have hz10:=hg10.size
    have hM10:=Aq.farRow hM9 (by omega) hg10 (Kw hM9 hH9)
    have hL10:=Xb hL9 hg10 (by omega)
    have hR10:=hR9.grown hg10 (fun e=>by injection e;omega)
    have hD10:=hD9.grown hg10 (fun e=>by injection e;omega)
    have hb10:=below_grown hb9 hg10 (by have:=hb9.size;omega) (Nat.le_refl _)
    have c46:=(hD10.cell 46).trans HDm.out
    clear hH9 hR9 hD9 hb9 hM9 hL9 hg10 hD10
    go_wp2
    go_roundw
    case rel=>exact⟨k+1,A9,cap9,A7,c7,ls++[C],h9,m9,rfl,rfl,by go_num,by omega,hb10,hH10,hR10,hM10.mono (by omega),hN7,hMp9,hL10,by omega,Hnew⟩
    case measure=>simp [intOf];omega
   ·have t2:(h'.state==0)=false:=by simpa using hst
    have hfin:(ls++(Dr (N - k) h' m').1,(Dr (N - k) h' m').2)=(ls,h',m'):=by rw [Ll hst];simp
    clear hst
    have hMA:=Kw hM hR
    rw [hfin] at Hr
    have HF:=Lib.hid Hr
    clear Hr
    have hhl:=hok.hart.len
    go_upto_region 9 with(fail)
    try go_simp
    refine Ae 45 2 47 [0,1,2,3,4,5] (by kernel_rfl) (by kernel_rfl) (by kernel_rfl) rfl ?_
    repeat'(first
     |refine rZ ?_
     |(refine' oR _ (by decide) (by decide) (by decide) (fun wq hwq K hK=>?_) ?_ ?_;rotate_left 1;(· first | ((refine Eb 27 _ rfl w.heap.size rfl 27 _ _ (hH.ext hwq) Tryz.underlying27 rfl (B7 hhl) ?_;exact hK)) | (go_wp2_with(fail);all_goals exact hK));rfl)
     |fail)
    refine oS (fun w1 hw1 K1 hK1=>?_)
    have hR1:Blk w1 (w.heap.size+1) 27 Jf.cells:=by rw [hw1];exact hR.ext (Below.refl _ _).drew
    have hM1:Aq w1 wr.heap.size .u8 A3 m':=by rw [hw1];exact hM.below (Below.refl _ _).drew
    have hL1:=Dd hL (w':=w1) (by rw [hw1];exact(Below.refl _ _).drew)
    have hb1:Below w.heap.size w w1:=by rw [hw1];exact hb.drew
    have hz1:wr.heap.size≤w1.heap.size:=by rw [hw1];exact Nat.le_refl _
    clear hw1
    refine Cm 27 _ _ rfl (w.heap.size+1) 0 h'.cells rfl rfl 27 _ hR1 (B7 hhl) (by rw [Al.cells_size hhl];decide) (J1 h') ?_
    intro w2 hB2 hg2
    rw [Jr _ _ (by rw [Al.cells_size hhl];rfl)] at hB2
    refine hK1 _ _ (fun _=>True) trivial ?_
    simp only [Act.put,sA,sS,sZ]
    refine rO ?_
    refine Aj ?_
    rintro w3 rfl
    go_wp2
    refine bodyPost_ret (R6 (x := .slice AL k cL) (y := .slice A3 m.length cap3) rfl rfl rfl rfl (V7 hhl hB2)) rfl ?_
    have e1:=congrArg (·.1) HF.out
    have e2:=congrArg (·.2.1) HF.out
    have e3:=congrArg (·.2.2) HF.out
    dsimp only at e1 e2 e3
    refine⟨AL,cL,A3,cap3,?_,below_grown hb1 hg2 hb1.size (by omega),?_,?_,?_⟩
    ·rw [e1,e2,←Ex.len hL1]
    ·rw [e1,←Ex.len hL1]
     exact Qd (Xb hL1 hg2 (by omega)) (by omega)
    ·rw [e3]
     exact(Aq.farRow hM1 hz1 hg2 hMA).mono (Nat.le_trans hz1 hg2.size)
    ·rw [e3];exact hN
  ·obtain rfl:k=N:=by omega
   have t1:decide ((k:Int)<(k:Int))=false:=by simp
   have hfin:(ls++(Dr (k - k) h' m').1,(Dr (k - k) h' m').2)=(ls,h',m'):=by rw [Nat.sub_self];simp [Dr]
   have hMA:=Kw hM hR
   rw [hfin] at Hr
   have HF:=Lib.hid Hr
   clear Hr
   have hhl:=hok.hart.len
   go_upto_region 9 with(fail)
   try go_simp
   refine Ae 45 2 47 [0,1,2,3,4,5] (by kernel_rfl) (by kernel_rfl) (by kernel_rfl) rfl ?_
   repeat'(first
    |refine rZ ?_
    |(refine' oR _ (by decide) (by decide) (by decide) (fun wq hwq K hK=>?_) ?_ ?_;rotate_left 1;(· first | ((refine Eb 27 _ rfl w.heap.size rfl 27 _ _ (hH.ext hwq) Tryz.underlying27 rfl (B7 hhl) ?_;exact hK)) | (go_wp2_with(fail);all_goals exact hK));rfl)
    |fail)
   refine oS (fun w1 hw1 K1 hK1=>?_)
   have hR1:Blk w1 (w.heap.size+1) 27 Jf.cells:=by rw [hw1];exact hR.ext (Below.refl _ _).drew
   have hM1:Aq w1 wr.heap.size .u8 A3 m':=by rw [hw1];exact hM.below (Below.refl _ _).drew
   have hL1:=Dd hL (w':=w1) (by rw [hw1];exact(Below.refl _ _).drew)
   have hb1:Below w.heap.size w w1:=by rw [hw1];exact hb.drew
   have hz1:wr.heap.size≤w1.heap.size:=by rw [hw1];exact Nat.le_refl _
   clear hw1
   refine Cm 27 _ _ rfl (w.heap.size+1) 0 h'.cells rfl rfl 27 _ hR1 (B7 hhl) (by rw [Al.cells_size hhl];decide) (J1 h') ?_
   intro w2 hB2 hg2
   rw [Jr _ _ (by rw [Al.cells_size hhl];rfl)] at hB2
   refine hK1 _ _ (fun _=>True) trivial ?_
   simp only [Act.put,sA,sS,sZ]
   refine rO ?_
   refine Aj ?_
   rintro w3 rfl
   go_wp2
   refine bodyPost_ret (R6 (x := .slice AL k cL) (y := .slice A3 m.length cap3) rfl rfl rfl rfl (V7 hhl hB2)) rfl ?_
   have e1:=congrArg (·.1) HF.out
   have e2:=congrArg (·.2.1) HF.out
   have e3:=congrArg (·.2.2) HF.out
   dsimp only at e1 e2 e3
   refine⟨AL,cL,A3,cap3,?_,below_grown hb1 hg2 hb1.size (by omega),?_,?_,?_⟩
   ·rw [e1,e2,←Ex.len hL1]
   ·rw [e1,←Ex.len hL1]
    exact Qd (Xb hL1 hg2 (by omega)) (by omega)
   ·rw [e3]
    exact(Aq.farRow hM1 hz1 hg2 hMA).mono (Nat.le_trans hz1 hg2.size)
   ·rw [e3];exact hN
theorem Vq {P:Program} (w:World) (src e dst:TypeId) (hs:P.underlying src=some (.slice e)) (he:P.underlying e=some (.int .u8)) (hd:P.underlying dst=some .string) (A:Option Addr) (cap:Nat) (m:List Int) (B:Nat)
  (hA:Aq w B .u8 A m) (hnil:A=none→m=[]):(convert src dst (.slice A m.length cap)).run P w = .ok (.string (strOfNums m)) w:=by
 rcases A with _ | ad
 ·obtain rfl:=hnil rfl
  exact run_convert_bytes_nil w src e hs he _ _ dst hd
 ·by_cases hm:m=[]
  ·subst hm
   have:=run_bytesToString (P:=P) w ad 0 cap [] (by simp [loadCells,go_sem])
   rw [run_convert_bytes_string w src dst e _ _ cap hs he hd]
   exact this
  ·obtain⟨b,o,hA',_,_⟩:=hA hm
   injection hA' with hA'
   subst hA'
   obtain⟨b',o',hA'',_,hc⟩:=hA.at_ (n:=0) (by cases m;exact absurd rfl hm;simp)
   injection hA'' with h1
   injection h1 with h2 h3
   subst h2 h3
   exact run_convert_bytes_arg w src e hs he b o m.length cap m rfl (fun i hi=>hc i hi) dst hd
theorem Aat (A A':Option Addr) (cap cap':Nat) (m:List Int) (w:World) (B B':Nat) (hA:Aq w B .u8 A m) (hnil:A=none→m=[]) (hA':Aq w B' .u8 A' m) (hnil':A'=none→m=[]) :
  Calls Tryz.prog 8 #[.slice A m.length cap, .slice A' m.length cap'] w fun e w'=>e = .returned (.bool true)∧w=w':=by
 have c1:=Vq (P:=Tryz.prog) w 28 5 9 Tryz.underlying28 Tryz.underlying5 Tryz.underlying9 A cap m B hA hnil
 have c2:=Vq (P:=Tryz.prog) w 28 5 9 Tryz.underlying28 Tryz.underlying5 Tryz.underlying9 A' cap' m B' hA' hnil'
 generalize strOfNums m=s at c1 c2
 have e:(s.toList==s.toList)=true:=by simp
 go_enter Tryz.func8,Tryz.ntmps8
 go_wp2
 go_ret
 refine⟨Er ?_,rfl⟩
 first | rfl | simp
end Go.Proofs.YtapgojgcmlnbgacGreat
namespace Go.Proofs.YtapgojgcmlnbgacGreat
open Go Go.RowKit
theorem Ab3 (vc:Value) {H:Al} (hl:H.regs.length=32) (vm:Value) (cy tk bk:Int):(Bu vc H vm cy tk bk).extract 1 (1+35)=H.cells:=by
 have hs:H.cells.toList.length=35:=by rw [E3];simp [hl]
 apply Array.toList_inj.1
 unfold Bu
 rw [Array.toList_extract]
 simp only [List.extract_eq_take_drop]
 have:(vc::(H.cells.toList++[vm, .int .i64 cy, .int .i64 tk, .int .i64 bk])).drop 1=H.cells.toList++[vm, .int .i64 cy, .int .i64 tk, .int .i64 bk]:=rfl
 rw [this]
 exact List.take_left' hs
theorem Mi (vc:Value) {H:Al} (hl:H.regs.length=32) (vm:Value) (cy tk bk:Int) :
  (Bu vc H vm cy tk bk)[36]? = some vm∧(Bu vc H vm cy tk bk)[37]? = some (.int .i64 cy)∧(Bu vc H vm cy tk bk)[38]? = some (.int .i64 tk)∧(Bu vc H vm cy tk bk)[39]? = some (.int .i64 bk):=by
 have hz:=Al.cells_size hl
 unfold Bu
 refine⟨?_,?_,?_,?_⟩ <;>
 ·rw [List.getElem?_toArray,List.getElem?_cons_succ,List.getElem?_append_right (by simp [hz])]
  simp [hz]
structure Acn (T:Array Value) (AC:Option Addr) (n cC:Nat) (H:Al) (AM:Option Addr) (nM cM:Nat) (cy tk bk:Int):Prop where
 size:T.size=40
 one:T.all (·.oneCell')=true
 hart:T.extract 1 (1+35)=H.cells
 coms:T[0]? = some (.slice AC n cC)
 state:T[34]? = some (.int .i64 H.state)
 mem:T[36]? = some (.slice AM nM cM)
 cycles:T[37]? = some (.int .i64 cy)
 taken:T[38]? = some (.int .i64 tk)
 back:T[39]? = some (.int .i64 bk)
theorem Z5 (AC:Option Addr) (n cC:Nat) {H:Al} (hl:H.regs.length=32) (AM:Option Addr) (nM cM:Nat) (cy tk bk:Int):Acn (Bu (.slice AC n cC) H (.slice AM nM cM) cy tk bk) AC n cC H AM nM cM cy tk bk:=
 ⟨O9 _ hl _ _ _ _,Ra _ _ _ _ _ _ _ _ _ _,Ab3 _ hl _ _ _ _,rfl,(Ag7 _ hl _ _ _ _).2.1,(Mi _ hl _ _ _ _).1,(Mi _ hl _ _ _ _).2.1,(Mi _ hl _ _ _ _).2.2.1,(Mi _ hl _ _ _ _).2.2.2⟩
def Pk (w:World) (X:Int) (L:List Com) (n:Nat) (H:Al) (M:List Int) (nM:Nat) (cy tk bk:Int) (e:Ending) (w':World):Prop:=
 Below w.heap.size w w'∧∃ T AC cC AM cM,e = .returned (.tuple #[.agg T, .int .i64 X])∧Acn T AC n cC H AM nM cM cy tk bk∧Ex w' w'.heap.size AC L∧Aq w' w'.heap.size .u8 AM M∧(AM=none→M=[])
theorem Age:(Tryz.prog.info? 27).map (·.size)=some 35:=by kernel_rfl
theorem Yl (a b c:Int) (h:Al) (A:Option Addr) (cap m:Nat) (A2:Option Addr) (cap2 k:Nat) (cycles:Int) (w:World) (hh:h.regs.length=32) (hl:m≤140737488351232) (hl2:k≤4611686018427387904) (s0 : -9223372036854775808≤cycles) (s1:cycles≤9223372036854775807) (hno:Hw a b c h m k cycles≠0) :
  Calls Tryz.prog 3 #[.agg #[.int .i64 a, .int .i64 b, .int .i64 c], .agg h.cells, .slice A m cap, .slice A2 k cap2, .int .i64 cycles] w fun e w'=>e = .returned (.bool true)∧Below w.heap.size w w':=by
 have CW:=Lib.hid (fun W=>Tf a b c h A cap m A2 cap2 k cycles W hh hl hl2)
 have CR:Hid (∀ W,Below w.heap.size w W→Calls Tryz.prog 4 #[.agg #[.int .i64 a, .int .i64 b, .int .i64 c], .agg h.cells, .slice A m cap, .slice A2 k cap2, .int .i64 cycles] W (Pk W (Hw a b c h m k cycles) [] 0 Jf [] 0 0 0 0)):=Lib.hid (fun W _=>by
  refine(Aih a b c h A cap m A2 cap2 k cycles W hh hl hl2 s0 s1 hno).mono ?_
  rintro e w' ⟨rfl,hb⟩
  exact⟨hb,K3,none,0,none,0,rfl,Z5 none 0 0 Aei none 0 0 0 0 0,fun h=>absurd rfl h,fun h=>absurd rfl h,fun _=>rfl⟩)
 generalize Hw a b c h m k cycles=X at *
 have e1:(X==X)=true:=by simp
 have e2:(X != 0)=true:=by simpa using hno
 clear hno
 obtain⟨n,hn⟩:∃ n,n=0:=⟨0,rfl⟩
 obtain⟨nM,hnM⟩:∃ n,n=0:=⟨0,rfl⟩
 obtain⟨H,hHH⟩:∃ H,H=Jf:=⟨_,rfl⟩
 obtain⟨cy,hcy⟩:∃ n:Int,n=0:=⟨0,rfl⟩
 obtain⟨tk,htk⟩:∃ n:Int,n=0:=⟨0,rfl⟩
 obtain⟨bk,hbk⟩:∃ n:Int,n=0:=⟨0,rfl⟩
 have CR:Hid (∀ W,Below w.heap.size w W→Calls Tryz.prog 4 #[.agg #[.int .i64 a, .int .i64 b, .int .i64 c], .agg h.cells, .slice A m cap, .slice A2 k cap2, .int .i64 cycles] W (Pk W X [] n H [] nM cy tk bk)):=by
  subst hn hnM hHH hcy htk hbk
  exact CR
 have hinfo:=B7 hh
 go_enter Tryz.func3,Tryz.ntmps3
 go_upto_region 1 with(fail)
 go_simp
 refine Au fun wa hq=>?_
 have hC:Blk wa w.heap.size 23 #[.int .i64 a, .int .i64 b, .int .i64 c]:=by rw [hq];exact(Blk.new w _ _).alloc _
 have hH:Blk wa (w.heap.size+1) 27 h.cells:=by rw [hq];exact Blk.newAt (w.alloc _) 27 _ (by simp)
 have hbl:Below w.heap.size w wa:=by rw [hq];exact((Below.refl _ _).alloc (Nat.le_refl _) _).alloc (by simp) _
 clear hq
 go_upto_region 2 with(first
  |(refine Ac rfl 23 _ rfl w.heap.size rfl 23 _ _ hC Tryz.underlying23 rfl K8 ?_)
  |(refine Ac rfl 27 _ rfl (w.heap.size+1) rfl 27 _ _ hH Tryz.underlying27 rfl hinfo ?_)
  |(go_at_call 4;(with_reducible refine(CR.out _ hbl).mono ?_);rintro e w2 ⟨hb2,T,AC,cC,AM,cM,rfl,hT,hCL,hIM,hN2⟩;have HT:=Lib.hid hT;clear hT)
  |(refine Ab rfl 32 _ _ rfl w2.heap.size T rfl rfl 32 _ (Blk.new w2 _ _) (I1 HT.out.size) (by rw [HT.out.size];rfl) HT.out.one ?_;intro w3 hX hg3))
 try go_simp
 have hb23:Below w2.heap.size w2 w3:=((Below.refl w2.heap.size w2).alloc (Nat.le_refl _) (.cells K3 32)).grown hg3 (by simp) (fun k hk=>by cases hk;exact Nat.le_refl _)
 have hz23:=hb23.size
 replace hCL:=hCL.below hb23
 replace hIM:=hIM.below hb23
 replace hC:=hC.ext (hb2.trans (hb23.mono hb2.size))
 replace hH:=hH.ext (hb2.trans (hb23.mono hb2.size))
 replace hbl:=hbl.trans ((hb2.trans (hb23.mono hb2.size)).mono hbl.size)
 clear hg3 hb23 hb2 CR
 go_upto_region 3 with(first
  |(refine Ac rfl 23 _ rfl w.heap.size rfl 23 _ _ hC Tryz.underlying23 rfl K8 ?_)
  |(refine Ac rfl 27 _ rfl (w.heap.size+1) rfl 27 _ _ hH Tryz.underlying27 rfl hinfo ?_)
  |(go_at_call 5;(with_reducible refine(CW.out _).mono ?_);rintro e w4 ⟨rfl,hb2⟩;have hz4:=hb2.size;replace hbl:=hbl.trans (hb2.mono hbl.size);replace hX:=hX.ext hb2;replace hH:=hH.ext hb2;replace hCL:=hCL.below (hb2.mono (by omega));replace hIM:=hIM.below (hb2.mono (by omega));clear hb2))
 try go_simp
 clear CW hC
 have k0:w4.cell? ⟨w2.heap.size,0,none⟩=some (.slice AC n cC):=(hX.cell 0).trans HT.out.coms
 have k34:w4.cell? ⟨w2.heap.size,34,none⟩=some (.int .i64 H.state):=(hX.cell 34).trans HT.out.state
 have k36:w4.cell? ⟨w2.heap.size,36,none⟩=some (.slice AM nM cM):=(hX.cell 36).trans HT.out.mem
 have k37:w4.cell? ⟨w2.heap.size,37,none⟩=some (.int .i64 cy):=(hX.cell 37).trans HT.out.cycles
 have k38:w4.cell? ⟨w2.heap.size,38,none⟩=some (.int .i64 tk):=(hX.cell 38).trans HT.out.taken
 have k39:w4.cell? ⟨w2.heap.size,39,none⟩=some (.int .i64 bk):=(hX.cell 39).trans HT.out.back
 subst hn hnM hHH hcy htk hbk
 have zX:=hX.lt
 have hhart:=Lib.hid HT.out.hart
 have hsz:=Lib.hid HT.out.size
 clear HT hCL hIM hN2 hH hinfo k34
 go_wp2_with(first
  |(refine Oo rfl fun K hK=>?_;first
   |(refine Ax 27 _ rfl w2.heap.size 1 rfl 32 T 35 _ hX Tryz.underlying27 rfl Age (by rw [hsz.out];decide) ?_;rw [hhart.out];refine hK _ _ ?_)
   |(refine Aai 27 _ rfl [] rfl _ Yd ?_;refine hK _ _ ?_)
   |(refine R9 27 _ _ _ rfl Jf.cells rfl rfl Tv (Za Agd Aej _) ?_;refine hK _ _ ?_)))
 go_ret
 exact⟨rfl,hbl⟩
theorem Ae5 {W:World} {Y:Core} (hy:Y.hart.regs.length=32) {e:Ending} {w':World} (k:Acm W Y e w'):Pk W 0 Y.commits Y.commits.length Y.hart Y.mem Y.mem.length Y.cycles Y.taken Y.backs e w':=by
 obtain⟨hb,vc,vm,rfl,hvc,hvm⟩:=k
 obtain⟨AC,cC,rfl⟩:=Bb hvc
 obtain⟨AM,cM,rfl⟩:=Bb hvm
 exact⟨hb,_,AC,cC,AM,cM,rfl,Z5 AC _ cC hy AM _ cM _ _ _,Ex.own hvc,Aq.own hvm,Sq hvm⟩
theorem Xk (A A':Option Addr) (cap cap':Nat) (m:List Int) (n:Nat) (w:World) (B B':Nat) (hn:m.length=n) (hA:Aq w B .u8 A m) (hnil:A=none→m=[]) (hA':Aq w B' .u8 A' m) (hnil':A'=none→m=[]) :
  Calls Tryz.prog 8 #[.slice A n cap, .slice A' n cap'] w fun e w'=>e = .returned (.bool true)∧w=w':=by
 subst hn
 exact Aat A A' cap cap' m w B B' hA hnil hA' hnil'
theorem U2 (a b c:Int) (h:Al) (A:Option Addr) (cap nM:Nat) (A2:Option Addr) (cap2 k:Nat) (cycles:Int) (L:List Com) (n:Nat) (H:Al) (M:List Int) (cy tk bk:Int) (w:World) (hh:h.regs.length=32)
  (C1:∀ W,Below w.heap.size w W→Calls Tryz.prog 4 #[.agg #[.int .i64 a, .int .i64 b, .int .i64 c], .agg h.cells, .slice A nM cap, .slice A2 k cap2, .int .i64 cycles] W (Pk W 0 L n H M nM cy tk bk))
  (C2:∀ W,Calls Tryz.prog 5 #[.agg #[.int .i64 a, .int .i64 b, .int .i64 c], .agg h.cells, .slice A nM cap, .slice A2 k cap2, .int .i64 cycles] W fun e w'=>e = .returned (.int .i64 0)∧Below W.heap.size W w')
  (C3:∀ W,Below w.heap.size w W→Calls Tryz.prog 6 #[.agg h.cells, .slice A nM cap, .int .i64 n] W (Sv W nM (L,H,M)))
  (hn:L.length=n) (hml:M.length=nM) (hw:∀ c∈L,c.Wf) (hbig:n≤1000000) (hHw:H.Wf) (hmay:Ir H=true) (hcy0:0≤cy) (hcy1:cy≤cycles) (htk:0≤tk) (hbk:0≤bk) (hall:cy<cycles→H.state≠0) :
  Calls Tryz.prog 3 #[.agg #[.int .i64 a, .int .i64 b, .int .i64 c], .agg h.cells, .slice A nM cap, .slice A2 k cap2, .int .i64 cycles] w fun e w'=>e = .returned (.bool true)∧Below w.heap.size w w':=by
 have CR:=Lib.hid C1
 have CW:=Lib.hid C2
 have CP:=Lib.hid C3
 unfold Sv at CP
 dsimp only at CP
 rw [hn] at CP
 have hgl:=hHw.len
 have EH:=Lib.hid (fun W=>Za hHw (Ah7 hmay) W)
 have HW:=Lib.hid hw
 have HN:=Lib.hid hn
 have HML:=Lib.hid hml
 have HBIG:=Lib.hid hbig
 have f1:decide (cycles<cy)=false:=decide_eq_false (by omega)
 have f2:decide (cy<0)=false:=decide_eq_false (by omega)
 have f3:decide (tk<0)=false:=decide_eq_false (by omega)
 have f4:decide (bk<0)=false:=decide_eq_false (by omega)
 have g:(decide (cy<cycles)=true∧(H.state==0)=false)∨decide (cy<cycles)=false:=by
  by_cases hlt:cy<cycles
  ·exact Or.inl ⟨decide_eq_true hlt,by simpa using hall hlt⟩
  ·exact Or.inr (decide_eq_false hlt)
 have G:=Lib.hid g
 clear C1 C2 C3 hn hml hw hbig hmay hcy0 hcy1 htk hbk hall g hHw
 have hinfo:=B7 hh
 go_enter Tryz.func3,Tryz.ntmps3
 go_upto_region 1 with(fail)
 go_simp
 refine Au fun wa hq=>?_
 have hC:Blk wa w.heap.size 23 #[.int .i64 a, .int .i64 b, .int .i64 c]:=by rw [hq];exact(Blk.new w _ _).alloc _
 have hH:Blk wa (w.heap.size+1) 27 h.cells:=by rw [hq];exact Blk.newAt (w.alloc _) 27 _ (by simp)
 have hbl:Below w.heap.size w wa:=by rw [hq];exact((Below.refl _ _).alloc (Nat.le_refl _) _).alloc (by simp) _
 clear hq
 go_upto_region 2 with(first
  |(refine Ac rfl 23 _ rfl w.heap.size rfl 23 _ _ hC Tryz.underlying23 rfl K8 ?_)
  |(refine Ac rfl 27 _ rfl (w.heap.size+1) rfl 27 _ _ hH Tryz.underlying27 rfl hinfo ?_)
  |(go_at_call 4;(with_reducible refine(CR.out _ hbl).mono ?_);rintro e w2 ⟨hb2,T,AC,cC,AM,cM,rfl,hT,hCL,hIM,hN2⟩;have HT:=Lib.hid hT;clear hT)
  |(refine Ab rfl 32 _ _ rfl w2.heap.size T rfl rfl 32 _ (Blk.new w2 _ _) (I1 HT.out.size) (by rw [HT.out.size];rfl) HT.out.one ?_;intro w3 hX hg3))
 try go_simp
 have hb23:Below w2.heap.size w2 w3:=((Below.refl w2.heap.size w2).alloc (Nat.le_refl _) (.cells K3 32)).grown hg3 (by simp) (fun k hk=>by cases hk;exact Nat.le_refl _)
 have hz23:=hb23.size
 replace hCL:=hCL.below hb23
 replace hIM:=hIM.below hb23
 replace hC:=hC.ext (hb2.trans (hb23.mono hb2.size))
 replace hH:=hH.ext (hb2.trans (hb23.mono hb2.size))
 replace hbl:=hbl.trans ((hb2.trans (hb23.mono hb2.size)).mono hbl.size)
 clear hg3 hb23 hb2 CR
 go_upto_region 3 with(first
  |(refine Ac rfl 23 _ rfl w.heap.size rfl 23 _ _ hC Tryz.underlying23 rfl K8 ?_)
  |(refine Ac rfl 27 _ rfl (w.heap.size+1) rfl 27 _ _ hH Tryz.underlying27 rfl hinfo ?_)
  |(go_at_call 5;(with_reducible refine(CW.out _).mono ?_);rintro e w4 ⟨rfl,hb2⟩;have hz4:=hb2.size;replace hbl:=hbl.trans (hb2.mono hbl.size);replace hX:=hX.ext hb2;replace hH:=hH.ext hb2;replace hCL:=hCL.below (hb2.mono (by omega));replace hIM:=hIM.below (hb2.mono (by omega));clear hb2))
 try go_simp
 clear CW hC
 have k0:w4.cell? ⟨w2.heap.size,0,none⟩=some (.slice AC n cC):=(hX.cell 0).trans HT.out.coms
 have k34:w4.cell? ⟨w2.heap.size,34,none⟩=some (.int .i64 H.state):=(hX.cell 34).trans HT.out.state
 have k36:w4.cell? ⟨w2.heap.size,36,none⟩=some (.slice AM nM cM):=(hX.cell 36).trans HT.out.mem
 have k37:w4.cell? ⟨w2.heap.size,37,none⟩=some (.int .i64 cy):=(hX.cell 37).trans HT.out.cycles
 have k38:w4.cell? ⟨w2.heap.size,38,none⟩=some (.int .i64 tk):=(hX.cell 38).trans HT.out.taken
 have k39:w4.cell? ⟨w2.heap.size,39,none⟩=some (.int .i64 bk):=(hX.cell 39).trans HT.out.back
 go_upto_region 5 with(fail)
 try go_simp
 rcases G.out with⟨g1,g2⟩ | g1
 all_goals (
  clear G
  go_upto_region 7 with(fail)
  try go_simp
  clear f1 f2 f3 f4 k34 k36 k37 k38 k39
  go_upto_region 8 with(first
   |(refine Ac rfl 27 _ rfl (w.heap.size+1) rfl 27 _ _ hH Tryz.underlying27 rfl hinfo ?_)
   |(go_at_call 6;(with_reducible refine(CP.out _ hbl).mono ?_);rintro e w5 ⟨AK,cK,A5,c5,rfl,hb2,hK5,hM5,hN5⟩;have hz5:=hb2.size;replace hbl:=hbl.trans (hb2.mono hbl.size);replace hX:=hX.ext hb2;replace hCL:=hCL.below (hb2.mono (by omega));replace hIM:=hIM.below (hb2.mono (by omega));clear hb2)
   |(refine Ab rfl 27 _ _ rfl w5.heap.size H.cells rfl rfl 27 _ (Blk.new w5 _ _) (B7 hgl) (by rw [Al.cells_size hgl];rfl) (J1 H) ?_;intro w6 hY hg6))
  try go_simp
  have hz6:=hg6.size
  simp only [World.size_alloc] at hz6
  have hb56:Below w5.heap.size w5 w6:=((Below.refl w5.heap.size w5).alloc (Nat.le_refl _) (.cells Jf.cells 27)).grown hg6 (by simp) (fun k hk=>by cases hk;exact Nat.le_refl _)
  have hCK:=((Ex.own hK5).below hb56).mono (by omega:w5.heap.size≤w6.heap.size)
  have hIM5:=hM5.below hb56
  replace hX:=hX.ext hb56
  replace hCL:=(hCL.below (hb56.mono (by omega))).mono (by omega:w2.heap.size≤w6.heap.size)
  replace hIM:=hIM.below (hb56.mono (by omega))
  replace hbl:=hbl.trans (hb56.mono hbl.size)
  have CSM:=Aep AC AK cC cK L w6 (by rw [HN.out];exact HBIG.out) HW.out hCL hCK
  rw [HN.out] at CSM
  replace CSM:=Lib.hid CSM
  have k0:w6.cell? ⟨w2.heap.size,0,none⟩=some (.slice AC n cC):=(hX.cell 0).trans HT.out.coms
  have zX:=hX.lt
  have hhart:=Lib.hid HT.out.hart
  have hsz:=Lib.hid HT.out.size
  have hmm:=Lib.hid HT.out.mem
  clear hg6 hK5 hM5 hb56 CP hH hCL hCK HT hinfo
  go_wp2_with(first
   |(refine Oo rfl fun K hK=>?_;first
    |(refine Ax 27 _ rfl w2.heap.size 1 rfl 32 T 35 _ hX Tryz.underlying27 rfl Age (by rw [hsz.out];decide) ?_;rw [hhart.out];refine hK _ _ ?_)
    |(refine Eb 27 _ rfl w5.heap.size rfl 27 _ _ hY Tryz.underlying27 rfl (B7 hgl) ?_;refine hK _ _ ?_)
    |(refine R9 27 _ _ _ rfl H.cells rfl rfl Tv (EH.out _) ?_;refine hK _ _ ?_))
   |(go_at_call 7;(with_reducible refine CSM.out.mono ?_);rintro e w7 ⟨rfl,hb7⟩;have hz7:=hb7.size;replace hbl:=hbl.trans (hb7.mono hbl.size);replace hX:=hX.ext hb7;replace hY:=hY.ext hb7;replace hIM:=hIM.below (hb7.mono (by omega));replace hIM5:=hIM5.below (hb7.mono (by omega));have k36:w7.cell? ⟨w2.heap.size,36,none⟩=some (.slice AM nM cM):=(hX.cell 36).trans hmm.out;clear hb7)
   |(go_at_call 8;(with_reducible refine(Xk AM A5 cM c5 M nM _ w2.heap.size w5.heap.size HML.out hIM hN2 hIM5 hN5).mono ?_);rintro e w8 ⟨rfl,rfl⟩))
  go_ret
  exact⟨rfl,hbl⟩)
theorem Ym (a b c:Int) (h:Al) (A:Option Addr) (cap:Nat) (m:List Int) (A2:Option Addr) (cap2:Nat) (sc:List Int) (cycles:Int) (w:World) (ask:Xu a b c h m) (hA:Aq w w.heap.size .u8 A m) (hnil:A=none→m=[])
  (hS:Aq w w.heap.size .i64 A2 sc) (hSn:A2=none→sc=[]∧cap2=0) (hS1:sc.length≤cap2) (hS2:cap2≤9223372036854775807) (hS3:sc.length≤3000) (hSb:∀ x∈sc,x≤9223372036854775807) (hc0:0≤cycles) (hc1:cycles≤6000) (hno:Hw a b c h m.length sc.length cycles=0) :
  Calls Tryz.prog 3 #[.agg #[.int .i64 a, .int .i64 b, .int .i64 c], .agg h.cells, .slice A m.length cap, .slice A2 sc.length cap2, .int .i64 cycles] w fun e w'=>e = .returned (.bool true)∧Below w.heap.size w w':=by
 have hh:=ask.hart.len
 have C2:=fun W=>Tf a b c h A cap m.length A2 cap2 sc.length cycles W hh (by have:=ask.room;omega) (by omega)
 rw [hno] at C2
 have hs:=Ae4 ask sc cycles.toNat
 have C1:=fun W (hb:Below w.heap.size w W)=>Aii a b c h A cap m A2 cap2 sc cycles W ask ((hA.below hb).mono hb.size) hnil ((hS.below hb).mono hb.size) hSn hS1 hS2 hS3 hSb hc0 hc1
 generalize Qj a b c h m sc cycles.toNat=Y at *
 obtain⟨hok,hml,hcw,hll,_⟩:=Xi Y.commits.length (h:=h) (m:=m) ⟨ask.hart,ask.may,ask.bytes⟩
 rw [hs.run] at hok hml hcw
 have hwide:=ask.wide
 have hcy:=hs.cycles
 have hfew:=hs.few
 have hbig:Y.commits.length≤1000000:=by
  have h1:Y.cycles*c≤6000*c:=Int.mul_le_mul_of_nonneg_right (by omega) (by omega)
  omega
 refine U2 a b c h A cap m.length A2 cap2 sc.length cycles Y.commits Y.commits.length Y.hart Y.mem Y.cycles Y.taken Y.backs w hh ?_ C2 ?_ rfl hml (fun x hx=>(hcw x hx).1) hbig hok.hart hok.may hcy.1 (by omega) hs.taken hs.backs (fun hlt=>hs.all (by omega))
 ·intro W hb
  refine(C1 W hb).mono fun e w' q=>?_
  have q2:=Ae5 hok.hart.len q
  rw [hml] at q2
  exact q2
 ·intro W hb
  have q:=Agv h A cap m Y.commits.length W ask.hart ask.may (by have:=ask.room;omega) ask.bytes ((hA.below hb).mono hb.size) hnil (by omega) (by omega)
  rw [Int.toNat_natCast,hs.run] at q
  exact q
end Go.Proofs.YtapgojgcmlnbgacGreat
