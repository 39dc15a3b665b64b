/- Parts of a proof. -/
import Derived.Test.YtapgojgcmlnbgaaGreatDoorTZ
import Derived.Test.YtapgojgcmlnbgaaGreatDoorT05
import Derived.Test.YtapgojgcmlnbgaaGreatDoorT02
import Derived.Test.YtapgojgcmlnbgaaGreatDoorT04
import Derived.OwnWalk
import Derived.Test.YtapgojgcmlnbgaaGreatDoorT03
import Derived.WalkLawsBesides
import Derived.Lib.Hide
import Derived.Test.YtapgojgcmlnbgaaGreatDoorProg
import Derived.Test.YtapgojgcmlnbgaaGreatDoorT01
import Derived.WalkSpells
import Derived.Outline
import Derived.Deep.Cut
import Derived.IntWalk
set_option linter.unusedSimpArgs false
set_option linter.unusedVariables false
set_option maxRecDepth 100000
set_option maxHeartbeats 16000000
namespace Go.Proofs.YtapgojgcmlnbgaaGreatDoor
open Go.RowKit
def Rp:Option Acc→Acc
 |some a=>a
 |none=>⟨0,false,false,0,0,0,false⟩
theorem Ph (A:Option Addr) (cap:Nat) (l:List Acc) (A':Option Addr) (cap':Nat) (m:List Int) (seq p:Int) (w:World) (hl:l.length≤9223372036854775807) (_hl':m.length≤9223372036854775807)
  (hwf:∀ a∈l,a.Wf) (hA:Ee w w.heap.size A l) (hA':Ar w w.heap.size .u8 A' m) (h0:0≤p) (h1:p≤4294967295) (hp:p<m.length) :
  Calls Tryz.prog 109 #[.slice A l.length cap, .slice A' m.length cap', .int .i64 seq, .int .u32 p] w
   fun e w'=>e = .returned (.int .u8 (Df l m seq p))∧Below w.heap.size w w':=by
 obtain⟨bA,oA,rfl,hbA,hcA⟩:=hA'.at_ (n:=p.toNat) (by omega)
 have cP:=hcA p.toNat (by omega)
 clear hcA hA'
 generalize hx:Df l m seq p=x
 have HB:Hid (byteOf m p (l.foldl (Cr seq p) none)=x):=qA hx
 clear hx
 go_enter Tryz.func109,Tryz.ntmps109
 go_wp2_with fail
 refine A1 ?_
 intro W1 hW1
 have hbk:Blk W1 w.heap.size 139 (Acc.cells (Rp none)):=by rw [hW1];exact Blk.new _ _ _
 have hb1:Below w.heap.size w W1:=by rw [hW1];exact(qB _ _).alloc (qC _) _
 clear hW1
 go_loopw [10,16] (fun v10 v16 wr=>∃ (k:Nat) (best:Option Acc),v10 = .bool best.isSome∧v16 = .int .i64 k∧k≤l.length∧Blk wr w.heap.size 139 (Acc.cells (Rp best))∧Below w.heap.size w wr∧Hid (byteOf m p ((l.drop k).foldl (Cr seq p) best)=x)∧(∀ c,best=some c→hasB c p=true∧c.Wf)) (fun _ v _=>l.length - (intOf v).toNat)
 case atStart=>exact⟨0,none,rfl,rfl,by omega,hbk,hb1,HB,fun c h=>by cases h⟩
 case round=>
  obtain⟨k,best,rfl,rfl,hk,hbk,hbr,HR,hbest⟩:=hrel
  have hgb:=hbk.lt
  have hcg:=hbk.cell
  have hfg:=hbk.frozen
  by_cases hlt:k<l.length
  ·obtain⟨b,o,a,rfl,hbB,ha,hd,hmem,hcs⟩:=(hA.below hbr).at_ hlt
   have hwa:=hwf a hmem
   have HR':Hid (byteOf m p ((l.drop (k+1)).foldl (Cr seq p) (Cr seq p best a))=x):=by
    have h:=HR.out
    rw [hd,List.foldl_cons] at h
    exact h
   clear hd ha HR
   obtain⟨d0,d1,d2,d3,d4,d5,d6⟩:=hcs
   by_cases hgo:(a.store&&a.known&&decide (a.seq<seq)&&hasB a p&&Ln a best)=true
   ·have HR2:Hid (byteOf m p ((l.drop (k+1)).foldl (Cr seq p) (some a))=x):=by
     have h:=HR'.out
     rw [show Cr seq p best a=some a by unfold Cr;rw [if_pos hgo]] at h
     exact h
    clear HR'
    simp only [Bool.and_eq_true] at hgo
    obtain⟨⟨⟨⟨g1,g2⟩,g3⟩,g4⟩,g5⟩:=hgo
    have w0:=hwa.at0
    have w1':=hwa.at1
    obtain⟨aq,ast,akn,aat,amn,adt,adn⟩:=a
    dsimp only at d0 d1 d2 d3 d4 d5 d6 g1 g2 g3 w0 w1'
    subst g1 g2
    rcases best with _ | c
    ·clear g5 hcg hfg
     go_wp2_with(go_at_call 142;((with_reducible refine(Jk ⟨aq,true,true,aat,amn,adt,adn⟩ p _ w0 w1' h0 (by omega)).mono ?_);rintro e w2 ⟨rfl,hb2⟩;rw [g4];have hn2:=((Blk.new wr _ _).ext hb2).cell;have hg2:=((hbk.alloc _).ext hb2).frozen;have hgc2:=((hbk.alloc _).ext hb2).cell;simp only [Acc.cells,Rp] at hgc2))
     go_roundw
     case rel=>exact⟨k+1,some ⟨aq,true,true,aat,amn,adt,adn⟩,rfl,by go_num,by omega,(((((((((hbk.alloc _).ext hb2).set 0 _).set 1 _).set 2 _).set 3 _).set 4 _).set 5 _).set 6 _),((((((((hbr.alloc hbr.size _).trans (hb2.mono (by simp;omega))).setCell (qC _) _).setCell (qC _) _).setCell (qC _) _).setCell (qC _) _).setCell (qC _) _).setCell (qC _) _).setCell (qC _) _,HR2,fun c hc=>by injection hc with hc;subst hc;exact⟨g4,hwa⟩⟩
     case measure=>simp [intOf];omega
    ·obtain⟨cq,cst,ckn,cat,cmn,cdt,cdn⟩:=c
     have g5':decide (cq≤aq)=true:=g5
     clear g5 hcg hfg
     go_wp2_with(go_at_call 142;((with_reducible refine(Jk ⟨aq,true,true,aat,amn,adt,adn⟩ p _ w0 w1' h0 (by omega)).mono ?_);rintro e w2 ⟨rfl,hb2⟩;rw [g4];have hn2:=((Blk.new wr _ _).ext hb2).cell;have hg2:=((hbk.alloc _).ext hb2).frozen;have hgc2:=((hbk.alloc _).ext hb2).cell;simp only [Acc.cells,Rp] at hgc2))
     go_roundw
     case rel=>exact⟨k+1,some ⟨aq,true,true,aat,amn,adt,adn⟩,rfl,by go_num,by omega,(((((((((hbk.alloc _).ext hb2).set 0 _).set 1 _).set 2 _).set 3 _).set 4 _).set 5 _).set 6 _),((((((((hbr.alloc hbr.size _).trans (hb2.mono (by simp;omega))).setCell (qC _) _).setCell (qC _) _).setCell (qC _) _).setCell (qC _) _).setCell (qC _) _).setCell (qC _) _).setCell (qC _) _,HR2,fun c hc=>by injection hc with hc;subst hc;exact⟨g4,hwa⟩⟩
     case measure=>simp [intOf];omega
   ·have HR2:Hid (byteOf m p ((l.drop (k+1)).foldl (Cr seq p) best)=x):=by
     have h:=HR'.out
     rw [show Cr seq p best a=best by unfold Cr;rw [if_neg hgo]] at h
     exact h
    clear HR'
    have w0:=hwa.at0
    have w1':=hwa.at1
    clear hwa hcg hfg
    obtain⟨aq,ast,akn,aat,amn,adt,adn⟩:=a
    dsimp only at d0 d1 d2 d3 d4 d5 d6 hgo w0 w1'
    rcases ast with _ | _
    ·clear hgo
     go_wp2_with fail
     go_roundw
     case rel=>exact⟨k+1,best,rfl,by go_num,by omega,hbk.alloc _,hbr.alloc hbr.size _,HR2,hbest⟩
     case measure=>simp [intOf];omega
    rcases akn with _ | _
    ·clear hgo
     go_wp2_with fail
     go_roundw
     case rel=>exact⟨k+1,best,rfl,by go_num,by omega,hbk.alloc _,hbr.alloc hbr.size _,HR2,hbest⟩
     case measure=>simp [intOf];omega
    rcases g3:decide (aq<seq) with _ | _
    ·clear hgo
     go_wp2_with fail
     go_roundw
     case rel=>exact⟨k+1,best,rfl,by go_num,by omega,hbk.alloc _,hbr.alloc hbr.size _,HR2,hbest⟩
     case measure=>simp [intOf];omega
    rcases g4:hasB ⟨aq,true,true,aat,amn,adt,adn⟩ p with _ | _
    ·clear hgo
     go_wp2_with(go_at_call 142;((with_reducible refine(Jk ⟨aq,true,true,aat,amn,adt,adn⟩ p _ w0 w1' h0 (by omega)).mono ?_);rintro e w2 ⟨rfl,hb2⟩;rw [g4]))
     go_roundw
     case rel=>exact⟨k+1,best,rfl,by go_num,by omega,(hbk.alloc _).ext hb2,(hbr.alloc hbr.size _).trans (hb2.mono (by simp;omega)),HR2,hbest⟩
     case measure=>simp [intOf];omega
    rcases best with _ | c
    ·simp [g3,g4,Ln] at hgo
    ·obtain⟨cq,cst,ckn,cat,cmn,cdt,cdn⟩:=c
     have g5':decide (cq≤aq)=false:=by
      simp only [g3,g4,Ln,Bool.and_true,Bool.true_and,Bool.not_eq_true] at hgo
      exact hgo
     clear hgo
     go_wp2_with(go_at_call 142;((with_reducible refine(Jk ⟨aq,true,true,aat,amn,adt,adn⟩ p _ w0 w1' h0 (by omega)).mono ?_);rintro e w2 ⟨rfl,hb2⟩;rw [g4];have hn2:=((Blk.new wr _ _).ext hb2).cell;have hg2:=((hbk.alloc _).ext hb2).frozen;have hgc2:=((hbk.alloc _).ext hb2).cell;simp only [Acc.cells,Rp] at hgc2))
     go_roundw
     case rel=>exact⟨k+1,some ⟨cq,cst,ckn,cat,cmn,cdt,cdn⟩,rfl,by go_num,by omega,(hbk.alloc _).ext hb2,(hbr.alloc hbr.size _).trans (hb2.mono (by simp;omega)),HR2,hbest⟩
     case measure=>simp [intOf];omega
  ·obtain rfl:k=l.length:=by omega
   have HR':Hid (byteOf m p best=x):=by
    have h:=HR.out
    rw [List.drop_length] at h
    exact h
   clear HR
   rcases best with _ | c
   ·have cP':=(hbr.cell (p:=⟨bA,oA+p.toNat,none⟩) hbA).trans cP
    clear cP
    have hy:=HR'.out
    rw [show byteOf m p none=m.getD p.toNat 0 from rfl] at hy
    rw [hy] at cP'
    clear hy HR'
    go_wp2_with fail
    go_ret
    exact⟨rfl,hbr⟩
   ·obtain⟨hc1,hc2⟩:=hbest c rfl
    have d0:=hc2.data0
    have d1:=hc2.data1
    have e0:=hc2.at0
    have e1:=hc2.at1
    have l2:=Qw c.many
    unfold hasB at hc1
    simp only [Bool.and_eq_true,decide_eq_true_eq] at hc1
    obtain⟨⟨hc3,hc4⟩,_⟩:=hc1
    obtain⟨cq,cst,ckn,cat,cmn,cdt,cdn⟩:=c
    simp only [Acc.cells,Rp] at hcg
    dsimp only at d0 d1 e0 e1 l2 hc3 hc4
    go_wp2_with fail
    go_ret
    refine⟨?_,hbr⟩
    rw [←HR'.out]
    refine Dx ?_
    show _=cdt / ((2 ^ (8*(p - cat).toNat):Nat):Int)%256
    rw [show(8*(p - cat)).toNat=8*(p - cat).toNat by omega,Int.natCast_pow]
    rfl
theorem Pz (seq:Int) (s:Bool) (a:Acc) (l:List Acc):(a::l).foldl (Ft seq) s=l.foldl (Ft seq) (s&&(!a.store || decide (seq≤a.seq) || a.known)):=rfl
theorem Tx (A:Option Addr) (cap:Nat) (l:List Acc) (A':Option Addr) (cap':Nat) (m:List Int) (seq p many:Int) (w:World) (hl:l.length≤9223372036854775807) (hl':m.length≤9223372036854775807)
  (hwf:∀ a∈l,a.Wf) (hm:Bytes m) (hA:Ee w w.heap.size A l) (hA':Ar w w.heap.size .u8 A' m) (h0:0≤p) (h1:p≤4294967295) :
  Calls Tryz.prog 75 #[.slice A l.length cap, .slice A' m.length cap', .int .i64 seq, .int .u32 p, .int .i64 many] w
   fun e w'=>e = .returned (.tuple #[.int .u32 (Eb l m seq p many).1, .bool (Eb l m seq p many).2.1, .bool (Eb l m seq p many).2.2])∧Below w.heap.size w w':=by
 have hbb:=qB w.heap.size w
 rcases hok:Gv m p many with _ | _
 ·have e:Eb l m seq p many=(0,false,false):=by unfold Eb;rw [if_neg (by rw [hok];exact Bool.false_ne_true)]
  rw [e]
  clear e
  by_cases e1:many=1
  ·subst e1
   have hth:Cu m.length p 1=false:=by
    simpa [Gv] using hok
   clear hok
   go_enter Tryz.func75,Tryz.ntmps75
   go_wp2_with(go_at_call 54;refine(Dv _ _ _ _ 1 _ (by omega) (by omega) (by omega) (by omega) (by omega)).mono ?_;rintro e w1 ⟨rfl,rfl⟩;rw [hth])
   go_ret3
   exact⟨rfl,hbb⟩
  by_cases e2:many=2
  ·subst e2
   have hth:Cu m.length p 2=false:=by
    simpa [Gv] using hok
   clear hok
   go_enter Tryz.func75,Tryz.ntmps75
   go_wp2_with(go_at_call 54;refine(Dv _ _ _ _ 2 _ (by omega) (by omega) (by omega) (by omega) (by omega)).mono ?_;rintro e w1 ⟨rfl,rfl⟩;rw [hth])
   go_ret3
   exact⟨rfl,hbb⟩
  by_cases e4:many=4
  ·subst e4
   have hth:Cu m.length p 4=false:=by
    simpa [Gv] using hok
   clear hok
   go_enter Tryz.func75,Tryz.ntmps75
   go_wp2_with(go_at_call 54;refine(Dv _ _ _ _ 4 _ (by omega) (by omega) (by omega) (by omega) (by omega)).mono ?_;rintro e w1 ⟨rfl,rfl⟩;rw [hth])
   go_ret3
   exact⟨rfl,hbb⟩
  ·clear hok
   go_enter Tryz.func75,Tryz.ntmps75
   go_wp2_with fail
   go_ret3
   exact⟨rfl,hbb⟩
 ·have hmany:many=1∨many=2∨many=4:=by
   have:=hok
   simp only [Gv,Bool.and_eq_true,Bool.or_eq_true,decide_eq_true_eq] at this
   omega
  obtain rfl | rfl | rfl:=hmany
  ·
   have hth:Cu m.length p 1=true:=by
    simp only [Gv,Bool.and_eq_true] at hok
    exact hok.2
   have hth2:=hth
   unfold Cu at hth2
   simp only [Bool.and_eq_true,decide_eq_true_eq] at hth2
   obtain⟨⟨_,t1⟩,t2⟩:=hth2
   have e:Eb l m seq p 1=(Pw l m seq p 1,true,Vz l seq):=by unfold Eb;rw [if_pos hok]
   rw [e]
   have hL:Pw l m seq p 1=Df l m seq p:=by unfold Pw;simp
   rw [hL]
   clear e hL hok
   (obtain⟨p0,q0⟩:=Fj hwf hm seq p;generalize hx0:Df l m seq p=x0 at p0 q0 ⊢;have HX0:=qA hx0;clear hx0)
   generalize hS:Vz l seq=S
   have HS:Hid (l.foldl (Ft seq) true=S):=qA hS
   clear hS
   go_enter Tryz.func75,Tryz.ntmps75
   go_wp2_with(go_at_call 54;refine(Dv _ _ _ _ 1 _ (by omega) (by omega) (by omega) (by omega) (by omega)).mono ?_;rintro e w1 ⟨rfl,rfl⟩;rw [hth])
   refine wp_loop_rounds 2 ?_
   repeat any_goals (rw [rounds_succ];go_wp2_with(go_at_call 109;refine(Ph A cap l A' cap' m seq _ _ hl hl' hwf ((hA.below hbb).mono hbb.size) ((hA'.below hbb).mono hbb.size) (by omega) (by omega) (by omega)).mono ?_;rintro e w2 ⟨rfl,hb2⟩;have hbb:=hbb.trans (hb2.mono hbb.size);rw [HX0.out]))
   go_loopw [15,57] (fun v15 v57 wr=>∃ (k:Nat) (s:Bool),v15 = .bool s∧v57 = .int .i64 k∧k≤l.length∧Below w.heap.size w wr∧Hid ((l.drop k).foldl (Ft seq) s=S)) (fun _ v _=>l.length - (intOf v).toNat)
   case atStart=>exact⟨0,true,rfl,rfl,by omega,hbb,HS⟩
   case round=>
    obtain⟨k,s,rfl,rfl,hk,hbr,HR⟩:=hrel
    by_cases hlt:k<l.length
    ·obtain⟨b,o,a,rfl,hbB,ha,hd,hmem,hcs⟩:=(hA.below hbr).at_ hlt
     have HR2:Hid ((l.drop (k+1)).foldl (Ft seq) (s&&(!a.store || decide (seq≤a.seq) || a.known))=S):=by
      have h:=HR.out
      rw [hd,Pz] at h
      exact h
     clear hd ha HR hmem
     obtain⟨d0,d1,d2,d3,d4,d5,d6⟩:=hcs
     obtain⟨aq,ast,akn,aat,amn,adt,adn⟩:=a
     dsimp only at d0 d1 d2 d3 d4 d5 d6 HR2
     rcases hq:decide (seq≤aq) with _ | _<;>rw [hq] at HR2<;>rcases s with _ | _<;>rcases ast with _ | _<;>rcases akn with _ | _
     all_goals
      go_wp2_with fail
      go_roundw
      case rel=>exact⟨k+1,_,rfl,by go_num,by omega,hbr.alloc hbr.size _,HR2⟩
      case measure=>simp [intOf];omega
    ·obtain rfl:k=l.length:=by omega
     have hs:s=S:=by
      have h:=HR.out
      rw [List.drop_length] at h
      exact h
     subst hs
     clear HR HS
     go_wp2_with fail
     go_ret3
     refine⟨?_,hbr⟩
     show Ending.returned (.tuple #[.int .u32 _, .bool true, .bool _])=_
     rw [or0 x0 p0 q0]
  ·
   have hth:Cu m.length p 2=true:=by
    simp only [Gv,Bool.and_eq_true] at hok
    exact hok.2
   have hth2:=hth
   unfold Cu at hth2
   simp only [Bool.and_eq_true,decide_eq_true_eq] at hth2
   obtain⟨⟨_,t1⟩,t2⟩:=hth2
   have e:Eb l m seq p 2=(Pw l m seq p 2,true,Vz l seq):=by unfold Eb;rw [if_pos hok]
   rw [e]
   have hL:Pw l m seq p 2=Df l m seq p+256*Df l m seq (p+1):=by unfold Pw;simp
   rw [hL]
   clear e hL hok
   (obtain⟨p0,q0⟩:=Fj hwf hm seq p;generalize hx0:Df l m seq p=x0 at p0 q0 ⊢;have HX0:=qA hx0;clear hx0;obtain⟨p1,q1⟩:=Fj hwf hm seq (p+1);generalize hx1:Df l m seq (p+1)=x1 at p1 q1 ⊢;have HX1:=qA hx1;clear hx1)
   generalize hS:Vz l seq=S
   have HS:Hid (l.foldl (Ft seq) true=S):=qA hS
   clear hS
   go_enter Tryz.func75,Tryz.ntmps75
   go_wp2_with(go_at_call 54;refine(Dv _ _ _ _ 2 _ (by omega) (by omega) (by omega) (by omega) (by omega)).mono ?_;rintro e w1 ⟨rfl,rfl⟩;rw [hth])
   refine wp_loop_rounds 3 ?_
   repeat any_goals (rw [rounds_succ];go_wp2_with(go_at_call 109;refine(Ph A cap l A' cap' m seq _ _ hl hl' hwf ((hA.below hbb).mono hbb.size) ((hA'.below hbb).mono hbb.size) (by omega) (by omega) (by omega)).mono ?_;rintro e w2 ⟨rfl,hb2⟩;have hbb:=hbb.trans (hb2.mono hbb.size);(first | rw [HX0.out] | rw [HX1.out])))
   go_loopw [15,57] (fun v15 v57 wr=>∃ (k:Nat) (s:Bool),v15 = .bool s∧v57 = .int .i64 k∧k≤l.length∧Below w.heap.size w wr∧Hid ((l.drop k).foldl (Ft seq) s=S)) (fun _ v _=>l.length - (intOf v).toNat)
   case atStart=>exact⟨0,true,rfl,rfl,by omega,hbb,HS⟩
   case round=>
    obtain⟨k,s,rfl,rfl,hk,hbr,HR⟩:=hrel
    by_cases hlt:k<l.length
    ·obtain⟨b,o,a,rfl,hbB,ha,hd,hmem,hcs⟩:=(hA.below hbr).at_ hlt
     have HR2:Hid ((l.drop (k+1)).foldl (Ft seq) (s&&(!a.store || decide (seq≤a.seq) || a.known))=S):=by
      have h:=HR.out
      rw [hd,Pz] at h
      exact h
     clear hd ha HR hmem
     obtain⟨d0,d1,d2,d3,d4,d5,d6⟩:=hcs
     obtain⟨aq,ast,akn,aat,amn,adt,adn⟩:=a
     dsimp only at d0 d1 d2 d3 d4 d5 d6 HR2
     rcases hq:decide (seq≤aq) with _ | _<;>rw [hq] at HR2<;>rcases s with _ | _<;>rcases ast with _ | _<;>rcases akn with _ | _
     all_goals
      go_wp2_with fail
      go_roundw
      case rel=>exact⟨k+1,_,rfl,by go_num,by omega,hbr.alloc hbr.size _,HR2⟩
      case measure=>simp [intOf];omega
    ·obtain rfl:k=l.length:=by omega
     have hs:s=S:=by
      have h:=HR.out
      rw [List.drop_length] at h
      exact h
     subst hs
     clear HR HS
     go_wp2_with fail
     go_ret3
     refine⟨?_,hbr⟩
     show Ending.returned (.tuple #[.int .u32 _, .bool true, .bool _])=_
     rw [or0 x0 p0 q0,or8 x0 x1 p0 (by omega) p1 q1]
  ·
   have hth:Cu m.length p 4=true:=by
    simp only [Gv,Bool.and_eq_true] at hok
    exact hok.2
   have hth2:=hth
   unfold Cu at hth2
   simp only [Bool.and_eq_true,decide_eq_true_eq] at hth2
   obtain⟨⟨_,t1⟩,t2⟩:=hth2
   have e:Eb l m seq p 4=(Pw l m seq p 4,true,Vz l seq):=by unfold Eb;rw [if_pos hok]
   rw [e]
   have hL:Pw l m seq p 4=Df l m seq p+256*Df l m seq (p+1)+65536*Df l m seq (p+2)+16777216*Df l m seq (p+3):=by unfold Pw;simp
   rw [hL]
   clear e hL hok
   (obtain⟨p0,q0⟩:=Fj hwf hm seq p;generalize hx0:Df l m seq p=x0 at p0 q0 ⊢;have HX0:=qA hx0;clear hx0;obtain⟨p1,q1⟩:=Fj hwf hm seq (p+1);generalize hx1:Df l m seq (p+1)=x1 at p1 q1 ⊢;have HX1:=qA hx1;clear hx1;obtain⟨p2,q2⟩:=Fj hwf hm seq (p+2);generalize hx2:Df l m seq (p+2)=x2 at p2 q2 ⊢;have HX2:=qA hx2;clear hx2;obtain⟨p3,q3⟩:=Fj hwf hm seq (p+3);generalize hx3:Df l m seq (p+3)=x3 at p3 q3 ⊢;have HX3:=qA hx3;clear hx3)
   generalize hS:Vz l seq=S
   have HS:Hid (l.foldl (Ft seq) true=S):=qA hS
   clear hS
   go_enter Tryz.func75,Tryz.ntmps75
   go_wp2_with(go_at_call 54;refine(Dv _ _ _ _ 4 _ (by omega) (by omega) (by omega) (by omega) (by omega)).mono ?_;rintro e w1 ⟨rfl,rfl⟩;rw [hth])
   refine wp_loop_rounds 5 ?_
   repeat any_goals (rw [rounds_succ];go_wp2_with(go_at_call 109;refine(Ph A cap l A' cap' m seq _ _ hl hl' hwf ((hA.below hbb).mono hbb.size) ((hA'.below hbb).mono hbb.size) (by omega) (by omega) (by omega)).mono ?_;rintro e w2 ⟨rfl,hb2⟩;have hbb:=hbb.trans (hb2.mono hbb.size);(first | rw [HX0.out] | rw [HX1.out] | rw [HX2.out] | rw [HX3.out])))
   go_loopw [15,57] (fun v15 v57 wr=>∃ (k:Nat) (s:Bool),v15 = .bool s∧v57 = .int .i64 k∧k≤l.length∧Below w.heap.size w wr∧Hid ((l.drop k).foldl (Ft seq) s=S)) (fun _ v _=>l.length - (intOf v).toNat)
   case atStart=>exact⟨0,true,rfl,rfl,by omega,hbb,HS⟩
   case round=>
    obtain⟨k,s,rfl,rfl,hk,hbr,HR⟩:=hrel
    by_cases hlt:k<l.length
    ·obtain⟨b,o,a,rfl,hbB,ha,hd,hmem,hcs⟩:=(hA.below hbr).at_ hlt
     have HR2:Hid ((l.drop (k+1)).foldl (Ft seq) (s&&(!a.store || decide (seq≤a.seq) || a.known))=S):=by
      have h:=HR.out
      rw [hd,Pz] at h
      exact h
     clear hd ha HR hmem
     obtain⟨d0,d1,d2,d3,d4,d5,d6⟩:=hcs
     obtain⟨aq,ast,akn,aat,amn,adt,adn⟩:=a
     dsimp only at d0 d1 d2 d3 d4 d5 d6 HR2
     rcases hq:decide (seq≤aq) with _ | _<;>rw [hq] at HR2<;>rcases s with _ | _<;>rcases ast with _ | _<;>rcases akn with _ | _
     all_goals
      go_wp2_with fail
      go_roundw
      case rel=>exact⟨k+1,_,rfl,by go_num,by omega,hbr.alloc hbr.size _,HR2⟩
      case measure=>simp [intOf];omega
    ·obtain rfl:k=l.length:=by omega
     have hs:s=S:=by
      have h:=HR.out
      rw [List.drop_length] at h
      exact h
     subst hs
     clear HR HS
     go_wp2_with fail
     go_ret3
     refine⟨?_,hbr⟩
     show Ending.returned (.tuple #[.int .u32 _, .bool true, .bool _])=_
     rw [or0 x0 p0 q0,or8 x0 x1 p0 (by omega) p1 q1,Amd _ x2 (by omega) (by omega) p2 q2,Ame _ x3 (by omega) (by omega) p3 q3]
def Dp (l:List Acc):List Value:=l.flatMap fun a=>a.cells.toList
theorem Ji (a:Acc):a.cells.toList.length=7:=rfl
theorem Jp:∀ l:List Acc,(Dp l).length=l.length*7
 |[]=>rfl
 |c::l=>by
  have ih:=Jp l
  unfold Dp at ih ⊢
  rw [List.flatMap_cons,qO,ih,Ji,List.length_cons]
  omega
theorem Jj (l k:List Acc):Dp (l++k)=Dp l++Dp k:=by unfold Dp;rw [List.flatMap_append]
theorem E4 (a:Acc) (l:List Acc):Dp (a::l)=a.cells.toList++Dp l:=by unfold Dp;rw [List.flatMap_cons]
theorem N7:∀ (l:List Acc) (k:Nat) (a:Acc) (i:Nat),l[k]? = some a→i<7→(Dp l)[k*7+i]? = a.cells[i]?
 |[],_,_,_,h,_=>by cases h
 |d::l,0,a,i,h,hi=>by
  cases h
  rw [E4,Nat.zero_mul,Nat.zero_add,qQ (by rw [Ji];exact hi)]
  simp
 |d::l,k+1,a,i,h,hi=>by
  rw [E4,qR (by rw [Ji];omega),Ji,show(k+1)*7+i - 7=k*7+i by omega]
  exact N7 l k a i (by simpa using h) hi
theorem Iz (l:List Acc):∀ u∈Dp l,u.oneCell'=true:=by
 intro u hu
 unfold Dp at hu
 obtain⟨a,_,ha⟩:=List.mem_flatMap.1 hu
 simp at ha
 rcases ha with rfl | rfl | rfl | rfl | rfl | rfl | rfl<;>rfl
theorem Ee.own {w:World} {base:Nat} {A:Option Addr} {cap n:Nat} {l:List Acc} (h:w.ownsRow base 139 7 (.slice A n cap) n (Dp l)):Ee w w.heap.size A l:=fun hne=>by
 have hn:n=l.length:=by have:=h.1;rw [Jp] at this;omega
 have h0:0<l.length:=List.length_pos_iff.2 hne
 subst hn
 rcases h.2 with⟨_,h2⟩ | ⟨g,c,cur,hv,_,hh,hc,_,hs,ht⟩
 ·omega
 ·injection hv with hv1 hv2 hv3
  subst hv1
  have hB:Blk w g 139 cur:=hh
  refine⟨g,0,rfl,hB.lt,fun k a hk=>?_⟩
  have hkl:k<l.length:=(qJ.1 hk).1
  have get:∀ i,i<7→w.cell? ⟨g,0+k*7+i,none⟩=a.cells[i]? := fun i hi=>by
   rw [hB.cell,←N7 l k a i hk hi,←ht,List.getElem?_take,if_pos (by omega),Nat.zero_add]
   simp
  exact⟨get 0 (by omega),get 1 (by omega),get 2 (by omega),get 3 (by omega),get 4 (by omega),get 5 (by omega),get 6 (by omega)⟩
theorem P9:(Tryz.prog.info? 139).map (fun i=>(i.zero,i.size,i.bytes))=some (some (.agg #[.int .i64 0, .bool false, .bool false, .int .u32 0, .int .i64 0, .int .u32 0, .bool false]),7,32):=by kernel_rfl
theorem Br {w:World} {base k:Nat} {e t:TypeId} {size:Nat} {v:Value} {n:Nat} {xs:List Value} {cs:Array Value} (h:w.ownsRow base e size v n xs) (hk:Blk w k t cs) (he:e≠t):v.ownBlock=none∨v.ownBlock≠some k:=by
 rcases h.2 with⟨rfl,_⟩ | ⟨g,c,cur,rfl,_,hh,_⟩
 ·exact Or.inl rfl
 ·right
  intro hg
  have hg:g=k:=by simpa [Value.ownBlock] using hg
  subst hg
  have hk:w.heap[g]? = some (.cells cs t (0,0)):=hk
  rw [hk] at hh
  injection hh with hh
  injection hh with _ hh
  exact he hh.symm
theorem Bm {w:World} {g k:Nat} {e t:TypeId} {cs cs':Array Value} (h:Blk w g e cs) (hk:Blk w k t cs') (he:e≠t):g≠k:=by
 rintro rfl
 have h:w.heap[g]? = some (.cells cs e (0,0)):=h
 have hk:w.heap[g]? = some (.cells cs' t (0,0)):=hk
 rw [hk] at h
 injection h with h
 injection h with _ h
 exact he h.symm
theorem E7 {w:World} {base g:Nat} {e t:TypeId} {size:Nat} {v:Value} {n:Nat} {xs:List Value} {cs:Array Value} (hg:Blk w g t cs) (h:w.ownsRow base e size v n xs) (he:t≠e):some g≠v.ownBlock:=by
 rcases Br h hg (fun e'=>he e'.symm) with h1 | h1
 ·rw [h1];simp
 ·exact fun e=>h1 e.symm
def B8 (w:World) (B:Nat) (v:Value) (ps:List Nat):Prop:=
 (v = .slice none 0 0∧ps=[])∨∃ go oo cap cur,v = .slice (some ⟨go,oo,none⟩) ps.length cap∧B≤go∧Blk w go 105 cur∧ps.length≤cap∧cap≤9223372036854775807∧oo+cap≤cur.size∧∀ i p,ps[i]? = some p→cur[oo+i]? = some (.pointer (some ⟨p,0,none⟩))
structure C9 (w:World) (B:Nat) (us:List Uop) (ps:List Nat):Prop where
 len:ps.length=us.length
 at_:∀ (i:Nat) u p,us[i]? = some u→ps[i]? = some p→Blk w p 107 u.cells∧B≤p
 nodup:ps.Nodup
theorem B8.lt {w:World} {B:Nat} {v:Value} {ps:List Nat} (h:B8 w B v ps):∀ k,v.ownBlock=some k→B≤k∧k<w.heap.size:=by
 intro k hk
 rcases h with⟨rfl,_⟩ | ⟨go,oo,cap,cur,rfl,hb,hB,_⟩
 ·cases hk
 ·cases hk
  exact⟨hb,hB.lt⟩
theorem B8.kept {w w':World} {B:Nat} {v:Value} {ps:List Nat} {row:Option Nat} (h:B8 w B v ps) (hg:w.grownBy w' row) (hne:v.ownBlock=none∨v.ownBlock≠row):B8 w' B v ps:=by
 rcases h with h | ⟨go,oo,cap,cur,rfl,hb,hB,h1,h2,h3,h4⟩
 ·exact Or.inl h
 ·exact Or.inr ⟨go,oo,cap,cur,rfl,hb,hB.grown hg (by simpa [Value.ownBlock] using hne),h1,h2,h3,h4⟩
theorem B8.other {w:World} {B k:Nat} {v:Value} {ps:List Nat} {t:TypeId} {cs:Array Value} (h:B8 w B v ps) (hk:Blk w k t cs) (he:105≠t):v.ownBlock=none∨v.ownBlock≠some k:=by
 rcases h with⟨rfl,_⟩ | ⟨go,oo,cap,cur,rfl,_,hB,_⟩
 ·exact Or.inl rfl
 ·right
  intro hg
  have hg:go=k:=by simpa [Value.ownBlock] using hg
  exact Bm hB hk he hg
theorem B8.apart {w:World} {B B':Nat} {v v2:Value} {ps:List Nat} {e:TypeId} {size n:Nat} {xs:List Value} (h:B8 w B v ps) (h2:w.ownsRow B' e size v2 n xs) (he:105≠e):v.ownBlock=none∨v.ownBlock≠v2.ownBlock:=by
 rcases h with⟨rfl,_⟩ | ⟨go,oo,cap,cur,rfl,_,hB,_⟩
 ·exact Or.inl rfl
 ·exact Or.inr (E7 hB h2 he)
theorem C9.kept {w w':World} {B:Nat} {us:List Uop} {ps:List Nat} {row:Option Nat} (h:C9 w B us ps) (hg:w.grownBy w' row) (hne:∀ p∈ps,some p≠row):C9 w' B us ps:=
 ⟨h.len,fun i u p hu hp=>⟨(h.at_ i u p hu hp).1.grown hg (hne p (List.mem_of_getElem? hp)),(h.at_ i u p hu hp).2⟩,h.nodup⟩
theorem C9.mem {w:World} {B:Nat} {us:List Uop} {ps:List Nat} (h:C9 w B us ps) {p:Nat} (hp:p∈ps):∃ u:Uop,Blk w p 107 u.cells∧B≤p:=by
 obtain⟨i,hi,rfl⟩:=List.getElem_of_mem hp
 have hi2:i<us.length:=by rw [←h.len];exact hi
 exact⟨us[i],h.at_ i _ _ (qI hi2) (qI hi)⟩
theorem C9.lt {w:World} {B:Nat} {us:List Uop} {ps:List Nat} (h:C9 w B us ps) {p:Nat} (hp:p∈ps):p<w.heap.size:=by
 obtain⟨u,hu,_⟩:=h.mem hp
 exact hu.lt
theorem C9.get {w:World} {B:Nat} {us:List Uop} {ps:List Nat} (h:C9 w B us ps) {i:Nat} (hi:i<us.length):∃ p,ps[i]? = some p∧Blk w p 107 (us[i]'hi).cells∧B≤p:=by
 have hi2:i<ps.length:=by rw [h.len];exact hi
 exact⟨ps[i],qI hi2,h.at_ i _ _ (qI hi) (qI hi2)⟩
theorem C9.set {w w':World} {B:Nat} {us:List Uop} {ps:List Nat} (h:C9 w B us ps) {i p:Nat} (hp:ps[i]? = some p) (hg:w.grownBy w' (some p)) {u':Uop} (hB:Blk w' p 107 u'.cells):C9 w' B (us.set i u') ps:=by
 refine⟨by rw [List.length_set];exact h.len,fun j u q hu hq=>?_,h.nodup⟩
 have hil:i<ps.length:=(qJ.1 hp).1
 have hil2:i<us.length:=by rw [←h.len];exact hil
 have hbp:B≤p:=(h.at_ i us[i] p (qI hil2) hp).2
 by_cases e:i=j
 ·subst e
  rw [List.getElem?_set_self hil2] at hu
  rw [hp] at hq
  cases hu
  cases hq
  exact⟨hB,hbp⟩
 ·rw [List.getElem?_set_ne e] at hu
  obtain⟨h1,h2⟩:=h.at_ j u q hu hq
  refine⟨h1.grown hg (fun hh=>?_),h2⟩
  injection hh with hh
  subst hh
  have hj:j<ps.length:=(qJ.1 hq).1
  have hn:=List.pairwise_iff_getElem.1 h.nodup
  have hpi:=(qJ.1 hp).2
  have hpj:=(qJ.1 hq).2
  rcases Nat.lt_or_gt_of_ne e with hlt | hlt
  ·exact hn i j hil hj hlt (hpi.trans hpj.symm)
  ·exact hn j i hj hil hlt (hpj.trans hpi.symm)
def H3 (k:Nat):List Int:=(List.range 32).map fun i=>if i<k then (i:Int) else 0
theorem G1 (k:Nat):(H3 k).length=32:=by simp [H3]
theorem Ah8 {k:Nat} (h:k<32):(H3 k).set k (k:Int)=H3 (k+1):=by
 apply List.ext_getElem?
 intro i
 rw [List.getElem?_set]
 unfold H3
 by_cases hi:i<32
 ·simp only [List.length_map,List.length_range,h,if_true,List.getElem?_map,List.getElem?_range hi,Option.map_some]
  by_cases hk:k=i
  ·subst hk
   simp
  ·rw [if_neg hk]
   congr 1
   by_cases h1:i<k
   ·rw [if_pos h1,if_pos (by omega)]
   ·rw [if_neg h1,if_neg (by omega)]
 ·rw [List.getElem?_eq_none (by simp;omega),List.getElem?_eq_none (by simp;omega),if_neg (by omega)]
theorem Vb {k:Nat} (h:32≤k):H3 k=Ia:=by
 unfold H3 Ia
 apply List.map_congr_left
 intro i hi
 have:=List.mem_range.1 hi
 rw [if_pos (by omega)]
 rfl
theorem Age:H3 0=List.replicate 32 0:=by decide
theorem Ac0 (j:Nat):H7 (j+1)=H7 j++[((32+j:Nat):Int)]:=by
 unfold H7
 rw [List.range_succ,List.map_append]
 rfl
theorem grownBy_setCell (w:World) (p:Addr) (u:Value):w.grownBy (w.setCell p u) (some p.block):=
 ⟨rfl,rfl,rfl,by simp,fun k _ hne=>Below.heap_setCell w p u k (fun e=>hne (by rw [e]))⟩
def Ny (phys:Int):Ax:=(Ws phys).getD Ax.zero
theorem Ajt (phys:Int) (w:World) (hp0 : -9223372036854775808≤phys) (hp1:phys≤9223372036854775807) :
  Calls Tryz.prog 21 #[.int .i64 phys] w fun e w'=>∃ v',e = .returned (.tuple #[v', .int .i64 (if 33≤phys∧phys≤96 then 0 else 3)])∧Below w.heap.size w w'∧M9 w' w.heap.size (Ny phys) v':=by
 by_cases hok:33≤phys∧phys≤96
 ·rw [if_pos hok]
  obtain⟨N,rfl⟩:=qH (show 0≤phys by omega)
  have hnd:Ny (N:Int)=⟨N,Ia,H7 (N - 32)⟩:=by
   unfold Ny Ws
   rw [if_pos hok]
   show Ax.mk _ _ _=_
   congr 2
   omega
  rw [hnd]
  obtain⟨h1,h2⟩:=hok
  have h33:33≤N:=by omega
  have h96:N≤96:=by omega
  clear hnd hp0 hp1
  have built1:Tryz.prog.built 79 [(0, .int .i64 N)]=some (Ag N (List.replicate 32 0) none 0 0):=by kernel_rfl
  go_enter Tryz.func21,Tryz.ntmps21
  go_upto_region 3 with(fail)
  go_simp
  refine A1 fun wa hq=>?_
  have hR:Blk wa w.heap.size 79 (Ag 0 (List.replicate 32 0) none 0 0):=by rw [hq];exact Blk.new w 79 _
  have hb:Below w.heap.size w wa:=by rw [hq];exact(qB w.heap.size w).alloc (qC _) _
  have hz:wa.heap.size=w.heap.size+1:=by rw [hq];simp
  clear hq
  have hB0:=Blk.newAt wa 79 (Ag 0 (List.replicate 32 0) none 0 0) (g:=w.heap.size+1) hz.symm
  have hR0:=hR.alloc (.cells (Ag 0 (List.replicate 32 0) none 0 0) 79)
  have hb0:=hb.alloc hb.size (.cells (Ag 0 (List.replicate 32 0) none 0 0) 79)
  go_upto_region 5 with(first
   |(refine Am rfl 79 _ rfl [(0, .int .i64 N)] rfl _ built1 ?_)
   |(refine Ae rfl 79 _ _ rfl (w.heap.size+1) (Ag N (List.replicate 32 0) none 0 0) (by simp [Act.eval,Act.put,hz]) rfl 79 _ hB0 (D6 rfl) rfl (Ez _ _ _ _ _) ?_;intro w5 hB5 hg5))
  have hR5:=hR0.grown hg5 (by simp)
  have hb5:=below_grown hb0 hg5 (by simp;omega) (Nat.le_succ _)
  have hz5:=hg5.size
  simp only [World.size_alloc] at hz5
  obtain⟨i0,hi,hz0,hz1,hz2⟩:=info_parts Oj
  have hs5:w.heap.size+2≤w5.heap.size:=by omega
  have hB6:Blk w5 (w.heap.size+1) 79 (Ag N (H3 0) none (0 - 32) 0):=by rw [Age];exact hB5
  clear hg5 hB0 hR0 hb0 hR hb hz hz5 hB5
  go_loopw [16] (fun v wr=>∃ (k:Nat) (A:Option Addr) (cap:Nat),v = .int .i64 k∧k≤N∧Below w.heap.size w wr∧Blk wr w.heap.size 79 (Ag 0 (List.replicate 32 0) none 0 0)∧Blk wr (w.heap.size+1) 79 (Ag N (H3 k) A (k - 32) cap)∧wr.ownsRow (w.heap.size+2) 3 1 (.slice A (k - 32) cap) (k - 32) ((H7 (k - 32)).map (.int .i64))∧w.heap.size+2≤wr.heap.size) (fun v _=>N+1 - (intOf v).toNat)
  case atStart=>exact⟨0,none,0,rfl,by omega,hb5,hR5,hB6,qT _ _ _ _,hs5⟩
  case round=>
   clear hb5 hR5 hB6 hs5
   obtain⟨k,A,cap,rfl,hk,hb,hR,hB,hown,hs⟩:=hrel
   have hlt0:(k:Int)≤N:=by omega
   by_cases hlt:k<N
   ·by_cases h32:k<32
    ·have ck:=hB.cell (1+k)
     rw [Eh _ _ _ _ _ (by rw [G1];exact h32)] at ck
     have fk:=hB.frozen (1+k)
     have hB9:=hB.set (1+k) (.int .i64 k)
     have hc9:(Ag N (H3 k) A (k - 32) cap).setIfInBounds (1+k) (.int .i64 k)=Ag N (H3 (k+1)) A (k+1 - 32) cap:=by
      have h1:=Gn N (H3 k) A A (k - 32) cap (k - 32) cap k k (G1 k) h32
      rw [Ah8 h32] at h1
      have h2:((Ag N (H3 k) A (k - 32) cap).setIfInBounds (1+k) (.int .i64 k))[33]? = some (.slice A (k - 32) cap):=by rw [Array.getElem?_setIfInBounds_ne (by omega)];exact D4 _ _ _ _ _ (G1 k)
      have h3:((Ag N (H3 k) A (k - 32) cap).setIfInBounds (1+k) (.int .i64 k)).setIfInBounds 33 (.slice A (k - 32) cap)=(Ag N (H3 k) A (k - 32) cap).setIfInBounds (1+k) (.int .i64 k):=by
       apply Array.ext_getElem?
       intro i
       rw [Array.getElem?_setIfInBounds]
       split
       ·rename_i e;subst e;rw [h2,if_pos (by rw [Array.size_setIfInBounds,B3 _ _ _ _ _ (G1 k)];omega)]
       ·rfl
      rw [←h3,h1]
      congr 1
      omega
     rw [hc9] at hB9
     have hR9:=hR.far (p:=⟨w.heap.size+1,1+k,none⟩) (Nat.ne_of_lt (Nat.lt_succ_self _)) (.int .i64 k)
     have hb9:=hb.setCell (p:=⟨w.heap.size+1,1+k,none⟩) (Nat.le_succ _) (.int .i64 k)
     have hown9:=hown.kept (grownBy_setCell wr ⟨w.heap.size+1,1+k,none⟩ (.int .i64 k)) (by
      rcases hv:(Value.slice A (k - 32) cap).ownBlock with _ | b
      ·exact Or.inl rfl
      ·right;intro e;injection e with e;have:=(hown.lt b hv).1;simp at e;omega)
     have hs9:w.heap.size+2≤(wr.setCell ⟨w.heap.size+1,1+k,none⟩ (.int .i64 k)).heap.size:=by simpa using hs
     have e0:k - 32=k+1 - 32:=by omega
     rw [e0] at hown9
     have HH:=qA (qL hb9 (qL hR9 (qL hB9 (qL hown9 hs9))))
     clear hb9 hR9 hB9 hown9 hs9 hc9 hown hR hb e0
     go_wp2_with(fail)
     go_roundw
     case rel=>exact⟨k+1,A,cap,by go_num,by omega,HH.out.1,HH.out.2.1,HH.out.2.2.1,by have:=HH.out.2.2.2.1;exact this,HH.out.2.2.2.2⟩
     case measure=>simp [intOf];omega
    ·have c33:=hB.cell 33
     rw [D4 _ _ _ _ _ (G1 k)] at c33
     have f33:=hB.frozen 33
     have hgt:decide ((k:Int)<32)=false:=by simp;omega
     have hRl:=hR.lt
     clear hlt0
     go_wp2_with(refine B0 rfl (.tmp 26) (.tmp 28) 32 rfl (w.heap.size+2) 3 i0 _ 1 8 Tryz.underlying32 hi hz0 hz1 hz2 rfl (by decide) (.slice A (k - 32) cap) (k - 32) _ rfl (hown.alloc _) (some ⟨wr.heap.size,0,none⟩) 1 1 [.int .i64 k] rfl rfl (fun h=>by cases h) (H8 wr _ _) (by simp;rfl) (by unfold maxLen;omega) (by omega) (by simp;omega) ?_;intro v7 w7 hown7 hg7;have hB7:=(hB.alloc (.cells #[.int .i64 k] 3)).grown hg7 (fun h=>by have:=(hown.lt _ h.symm).1;omega);have hR7:=(hR.alloc (.cells #[.int .i64 k] 3)).grown hg7 (fun h=>by have:=(hown.lt _ h.symm).1;omega);have hb7:=(hb.alloc hb.size (.cells #[.int .i64 k] 3)).grown hg7 (by have:=hb.size;simp;omega) (fun j hj=>by have:=(hown.lt _ hj).1;omega);have hs7:=hg7.size;simp only [World.size_alloc] at hs7;have c7:=hB7.cell 33;rw [D4 _ _ _ _ _ (G1 k)] at c7;have f7:=hB7.frozen 33;rw [show(H7 (k - 32)).map (Value.int .i64)++[.int .i64 (k:Int)]=(H7 (k+1 - 32)).map (Value.int .i64) by rw [show k+1 - 32=(k - 32)+1 by omega,Ac0,List.map_append];congr 3;omega,show k - 32+1=k+1 - 32 by omega] at hown7;obtain⟨A7,cap7,rfl⟩:=Al hown7;clear c33 f33 hg7)
     have hB9:=hB7.set 33 (.slice A7 (k+1 - 32) cap7)
     have hb9:=hb7.setCell (p:=⟨w.heap.size+1,33,none⟩) (Nat.le_succ _) (.slice A7 (k+1 - 32) cap7)
     have hR9:=hR7.far (p:=⟨w.heap.size+1,33,none⟩) (Nat.ne_of_lt (Nat.lt_succ_self _)) (.slice A7 (k+1 - 32) cap7)
     have hown9:=hown7.kept (grownBy_setCell w7 ⟨w.heap.size+1,33,none⟩ (.slice A7 (k+1 - 32) cap7)) (by
      rcases hv:(Value.slice A7 (k+1 - 32) cap7).ownBlock with _ | b
      ·exact Or.inl rfl
      ·right;intro e;injection e with e;have:=(hown7.lt b hv).1;simp at e;omega)
     have hs9:w.heap.size+2≤(w7.setCell ⟨w.heap.size+1,33,none⟩ (.slice A7 (k+1 - 32) cap7)).heap.size:=by simp;omega
     have hc9:(Ag N (H3 k) A (k - 32) cap).setIfInBounds 33 (.slice A7 (k+1 - 32) cap7)=Ag N (H3 (k+1)) A7 (k+1 - 32) cap7:=by
      have h1:=Gn N (H3 k) A A7 (k - 32) cap (k+1 - 32) cap7 0 ((H3 k).getD 0 0) (G1 k) (by omega)
      have e1:(H3 k).set 0 ((H3 k).getD 0 0)=H3 k:=by
       have hl0:0<(H3 k).length:=by rw [G1];omega
       have:(H3 k).getD 0 0=(H3 k)[0]'hl0:=by simp [List.getD,qI hl0]
       rw [this,List.set_getElem_self]
      have e2:(Ag N (H3 k) A (k - 32) cap).setIfInBounds (1+0) (.int .i64 ((H3 k).getD 0 0))=Ag N (H3 k) A (k - 32) cap:=by
       have hr0:=Eh N (H3 k) A (k - 32) cap (i:=0) (by rw [G1];omega)
       apply Array.ext_getElem?
       intro i
       rw [Array.getElem?_setIfInBounds]
       split
       ·rename_i e;subst e;rw [hr0,if_pos (by rw [B3 _ _ _ _ _ (G1 k)];omega)]
       ·rfl
      rw [e1,e2] at h1
      rw [h1,Vb (by omega),Vb (by omega)]
     rw [hc9] at hB9
     go_roundw
     case rel=>exact⟨k+1,A7,cap7,by go_num,by omega,hb9,hR9,hB9,hown9,hs9⟩
     case measure=>simp [intOf];omega
   ·obtain rfl:k=N:=by omega
    rw [Vb (by omega)] at hB
    have hl0:Ia.length=32:=by decide
    have hs9:=D6 (phys:=k) (A:=A) (n:=k - 32) (cap:=cap) hl0
    have h19:=Ez k Ia A (k - 32) cap
    obtain⟨cs9,h9⟩:∃ cs9,cs9=Ag k Ia A (k - 32) cap:=⟨_,rfl⟩
    have Hv9:=qA h9
    have hsz9:(Ag k Ia A (k - 32) cap).size=(Ag 0 (List.replicate 32 0) none 0 0).size:=by rw [B3 _ _ _ _ _ hl0];rfl
    rw [←h9] at hsz9 hs9 h19 hB
    have hno:decide ((k:Int)<k)=false:=by simp
    clear h9
    go_wp2_with(first
     |(refine Ab rfl 79 _ rfl (w.heap.size+1) rfl 79 cs9 _ hB Tryz.underlying79 rfl hs9 ?_)
     |(refine Ae rfl 79 _ _ rfl w.heap.size cs9 rfl rfl 79 _ hR hs9 hsz9 h19 ?_;intro wx hBx hgx;have hld:=Fq hBx hs9))
    refine bodyPost_ret (Ea Tryz.results21 rfl rfl hld) rfl ?_
    have hl1:(H7 (k - 32)).length=k - 32:=by simp [H7]
    obtain⟨A',cap',he,_,hn',hA',hc',hg'⟩:=Fs hown
    cases he
    refine⟨_,rfl,below_grown hb hgx hb.size (qC _),A,cap,by rw [Hv9.out];show _=Value.agg (Ag k Ia A (H7 (k - 32)).length cap);rw [hl1],?_,fun ad h=>by have:=hg' ad h;omega⟩
    have hA10:=(hA'.grown (qC _) hgx (fun ad h=>by have:=hg' ad h;omega)).mono hgx.size
    refine⟨by show _≤(k:Int);omega,by show(k:Int)≤_;omega,hl0,by show(H7 (k - 32)).length≤_;omega,by show(H7 (k - 32)).length≤_;omega,hA10,hn',fun x hx=>?_⟩
    have hx':x∈Ia++H7 (k - 32):=hx
    rw [Adc] at hx'
    obtain⟨j,hj,rfl⟩:=List.mem_map.1 hx'
    have:=List.mem_range.1 hj
    show _≤(j:Int)∧(j:Int)≤_
    omega
 ·rw [if_neg hok]
  have hnd:Ny phys=Ax.zero:=by unfold Ny Ws;rw [if_neg hok];rfl
  have hok':phys<33∨(33≤phys∧96<phys):=by omega
  rw [hnd]
  clear hok hnd
  rcases hok' with h1 | ⟨h1,h2⟩
  ·
   go_enter Tryz.func21,Tryz.ntmps21
   go_upto_region 1 with(fail)
   go_simp
   refine A1 fun wa hq=>?_
   have hb2:Below w.heap.size w wa:=by rw [hq];exact(qB w.heap.size w).alloc (qC _) _
   have hR:Blk wa w.heap.size 79 (Ag 0 (List.replicate 32 0) none 0 0):=by rw [hq];exact Blk.new w 79 _
   clear hq
   go_wp2_with(first
    |(refine Am rfl 79 _ rfl [] rfl _ G6 ?_)
    |(refine Ae rfl 79 _ _ rfl w.heap.size (Ag 0 (List.replicate 32 0) none 0 0) rfl rfl 79 _ hR D9 rfl (Ez _ _ _ _ _) ?_;intro w5 hB5 hg5;have hld:=Fq hB5 D9))
   refine bodyPost_ret (Ea Tryz.results21 rfl rfl hld) rfl ?_
   exact⟨_,rfl,below_grown hb2 hg5 hb2.size (qC _),M9.zero _ _⟩
  ·
   go_enter Tryz.func21,Tryz.ntmps21
   go_upto_region 1 with(fail)
   go_simp
   refine A1 fun wa hq=>?_
   have hb2:Below w.heap.size w wa:=by rw [hq];exact(qB w.heap.size w).alloc (qC _) _
   have hR:Blk wa w.heap.size 79 (Ag 0 (List.replicate 32 0) none 0 0):=by rw [hq];exact Blk.new w 79 _
   clear hq
   go_wp2_with(first
    |(refine Am rfl 79 _ rfl [] rfl _ G6 ?_)
    |(refine Ae rfl 79 _ _ rfl w.heap.size (Ag 0 (List.replicate 32 0) none 0 0) rfl rfl 79 _ hR D9 rfl (Ez _ _ _ _ _) ?_;intro w5 hB5 hg5;have hld:=Fq hB5 D9))
   refine bodyPost_ret (Ea Tryz.results21 rfl rfl hld) rfl ?_
   exact⟨_,rfl,below_grown hb2 hg5 hb2.size (qC _),M9.zero _ _⟩
theorem Xq {w w':World} {B:Nat} {k:IntKind} {A:Option Addr} {l:List Int} {row:Option Nat} (h:Ar w B k A l) (hB:B≤w.heap.size) (hg:w.grownBy w' row) (hne:l≠[]→∀ ad,A=some ad→some ad.block≠row):Ar w' B k A l:=fun hl=>by
 obtain⟨b,o,hA,hb,hc⟩:=h hl
 have hbg:=hne hl _ hA
 refine⟨b,o,hA,hb,fun i v hi=>?_⟩
 rw [World.cell?_of_block (hg.block b (qE hb hB) hbg)]
 exact hc i v hi
theorem Kj.step {w w':World} {m:Ax} {A:Option Addr} {cap:Nat} {row:Option Nat} (h:Kj w m A cap) (hg:w.grownBy w' row) (hne:m.free≠[]→∀ ad,A=some ad→some ad.block≠row):Kj w' m A cap:=
 ⟨h.p0,h.p1,h.len,h.few,h.room,(Xq h.free (qC _) hg hne).mono hg.size,h.nil,h.wf⟩
theorem Kj.free_lt {w:World} {m:Ax} {A:Option Addr} {cap:Nat} (h:Kj w m A cap) (hf:m.free≠[]):∀ ad,A=some ad→ad.block<w.heap.size:=by
 intro ad e
 obtain⟨b,o,e',hb,_⟩:=h.free hf
 rw [e] at e'
 cases e'
 exact hb
structure Cp (B:Nat) (w:World) (g:Nat) (L:Lay) (ps:List Nat) (cms:List Com) (mm:List Int) (sl:List Slt) (al:List Acc) (us:List Uop) (nm:Ax) (sc:List Int):Prop where
 base:B≤g
 commits:w.ownsRow B 65 11 L.commits cms.length (Ec cms)
 mem:w.ownsRow B 5 1 L.mem mm.length (mm.map (.int .u8))
 slots:w.ownsRow B 166 2 L.slots sl.length (Ay sl)
 access:w.ownsRow B 139 7 L.access al.length (Dp al)
 ptrs:B8 w B L.ops ps
 uops:C9 w B us ps
 names:Kj w nm L.freeA L.freeCap
 free:nm.free≠[]→∀ ad,L.freeA=some ad→ad.block≠g∧L.commits.ownBlock≠some ad.block∧L.mem.ownBlock≠some ad.block∧L.access.ownBlock≠some ad.block∧L.ops.ownBlock≠some ad.block∧ad.block ∉ ps
 script:∃ A cap,L.script = .slice A sc.length cap∧sc.length≤cap∧cap≤9223372036854775807∧Ar w B .i64 A sc∧(A=none→sc=[]∧cap=0)
section
variable {B:Nat} {w w':World} {g:Nat} {L:Lay} {ps:List Nat} {cms:List Com} {mm:List Int} {sl:List Slt} {al:List Acc} {us:List Uop} {nm:Ax} {sc:List Int}
theorem Cp.scr_step (h:Cp B w g L ps cms mm sl al us nm sc) (hB:B≤w.heap.size) {row:Option Nat} (hg:w.grownBy w' row) (hr:∀ k,row=some k→B≤k) :
  ∃ A cap,L.script = .slice A sc.length cap∧sc.length≤cap∧cap≤9223372036854775807∧Ar w' B .i64 A sc∧(A=none→sc=[]∧cap=0):=by
 obtain⟨A,cap,h1,h2,h2',h3,h4⟩:=h.script
 refine⟨A,cap,h1,h2,h2',Xq h3 hB hg (fun hne ad e hh=>?_),h4⟩
 obtain⟨b,o,e',hb,_⟩:=h3 hne
 rw [e] at e'
 cases e'
 have:=hr _ hh.symm
 have hbb:b<B:=hb
 simp only at this
 omega
theorem Cp.step (h:Cp B w g L ps cms mm sl al us nm sc) (hB:B≤w.heap.size) {row:Option Nat} (hg:w.grownBy w' row) (hr:∀ k,row=some k→B≤k)
  (c1:L.commits.ownBlock=none∨L.commits.ownBlock≠row) (c2:L.mem.ownBlock=none∨L.mem.ownBlock≠row) (c3:L.slots.ownBlock=none∨L.slots.ownBlock≠row) (c4:L.access.ownBlock=none∨L.access.ownBlock≠row)
  (c5:L.ops.ownBlock=none∨L.ops.ownBlock≠row) (c6:∀ p∈ps,some p≠row) (c7:nm.free≠[]→∀ ad,L.freeA=some ad→some ad.block≠row):Cp B w' g L ps cms mm sl al us nm sc:=
 ⟨h.base,h.commits.kept hg c1,h.mem.kept hg c2,h.slots.kept hg c3,h.access.kept hg c4,h.ptrs.kept hg c5,h.uops.kept hg c6,h.names.step hg c7,h.free,h.scr_step hB hg hr⟩
theorem Cp.ext (h:Cp B w g L ps cms mm sl al us nm sc) (hB:B≤w.heap.size) (hb:Below w.heap.size w w'):Cp B w' g L ps cms mm sl al us nm sc:=by
 refine h.step hB (Cg hb) (fun k hk=>by cases hk) ?_ ?_ ?_ ?_ ?_ (fun p _=>by simp) (fun _ _ _=>by simp)
 all_goals exact Classical.em _
theorem Cp.core (h:Cp B w g L ps cms mm sl al us nm sc) (hB:B≤w.heap.size) {cs:Array Value} (hk:Blk w g 86 cs) (hg:w.grownBy w' (some g)):Cp B w' g L ps cms mm sl al us nm sc:=
 h.step hB hg (fun k hk=>by cases hk;exact h.base) (Br h.commits hk (by decide)) (Br h.mem hk (by decide)) (Br h.slots hk (by decide)) (Br h.access hk (by decide)) (h.ptrs.other hk (by decide))
  (fun p hp e=>by
   injection e with e
   obtain⟨u,hu,_⟩:=h.uops.mem hp
   exact Bm hu hk (by decide) e)
  (fun hf ad e hh=>(h.free hf ad e).1 (by injection hh))
theorem Cp.uop (h:Cp B w g L ps cms mm sl al us nm sc) (hB:B≤w.heap.size) {i p:Nat} (hp:ps[i]? = some p) (hg:w.grownBy w' (some p)) {u':Uop} (hB':Blk w' p 107 u'.cells) :
  Cp B w' g L ps cms mm sl al (us.set i u') nm sc:=by
 have hpm:=List.mem_of_getElem? hp
 obtain⟨u,hk,hbp⟩:=h.uops.mem hpm
 exact⟨h.base,h.commits.kept hg (Br h.commits hk (by decide)),h.mem.kept hg (Br h.mem hk (by decide)),h.slots.kept hg (Br h.slots hk (by decide)),h.access.kept hg (Br h.access hk (by decide)),
  h.ptrs.kept hg (h.ptrs.other hk (by decide)),h.uops.set hp hg hB',h.names.step hg (fun hf ad e hh=>(h.free hf ad e).2.2.2.2.2 (by injection hh with hh;rw [hh];exact hpm)),h.free,h.scr_step hB hg (fun k hk=>by cases hk;exact hbp)⟩
theorem Vg {base:Nat} {e:TypeId} {size:Nat} {v:Value} {n:Nat} {xs:List Value} (h:w.ownsRow base e size v n xs):∀ k,v.ownBlock=some k→base≤k:=fun k hk=>(h.lt k hk).1
theorem Cp.memory (h:Cp B w g L ps cms mm sl al us nm sc) (hB:B≤w.heap.size) (hg:w.grownBy w' L.mem.ownBlock) {m':List Int} (hown:w'.ownsRow B 5 1 L.mem m'.length (m'.map (.int .u8))) :
  Cp B w' g L ps cms m' sl al us nm sc:=
 ⟨h.base,h.commits.kept hg (Ex h.commits h.mem (by decide)),hown,h.slots.kept hg (Ex h.slots h.mem (by decide)),h.access.kept hg (Ex h.access h.mem (by decide)),h.ptrs.kept hg (h.ptrs.apart h.mem (by decide)),
  h.uops.kept hg (fun p hp=>by obtain⟨u,hu,_⟩:=h.uops.mem hp;exact E7 hu h.mem (by decide)),h.names.step hg (fun hf ad e hh=>(h.free hf ad e).2.2.1 hh.symm),h.free,h.scr_step hB hg (Vg h.mem)⟩
theorem Cp.acc (h:Cp B w g L ps cms mm sl al us nm sc) (hB:B≤w.heap.size) (hg:w.grownBy w' L.access.ownBlock) {v':Value} {acc':List Acc} (hown:w'.ownsRow B 139 7 v' acc'.length (Dp acc'))
  (hv:v'.ownBlock=L.access.ownBlock∨∀ k,v'.ownBlock=some k→w.heap.size≤k):Cp B w' g { L with access:=v' } ps cms mm sl acc' us nm sc:=
 ⟨h.base,h.commits.kept hg (Ex h.commits h.access (by decide)),h.mem.kept hg (Ex h.mem h.access (by decide)),h.slots.kept hg (Ex h.slots h.access (by decide)),hown,h.ptrs.kept hg (h.ptrs.apart h.access (by decide)),
  h.uops.kept hg (fun p hp=>by obtain⟨u,hu,_⟩:=h.uops.mem hp;exact E7 hu h.access (by decide)),h.names.step hg (fun hf ad e hh=>(h.free hf ad e).2.2.2.1 hh.symm),
  fun hf ad e=>by
   obtain⟨f1,f2,f3,f4,f5,f6⟩:=h.free hf ad e
   refine⟨f1,f2,f3,fun hh=>?_,f5,f6⟩
   rcases hv with hv | hv
   ·exact f4 (by rw [←hv];exact hh)
   ·have:=hv _ hh
    have:=h.names.free_lt hf ad e
    omega,
  h.scr_step hB hg (Vg h.access)⟩
theorem Cp.coms (h:Cp B w g L ps cms mm sl al us nm sc) (hB:B≤w.heap.size) (hg:w.grownBy w' L.commits.ownBlock) {v':Value} {coms':List Com} (hown:w'.ownsRow B 65 11 v' coms'.length (Ec coms'))
  (hv:v'.ownBlock=L.commits.ownBlock∨∀ k,v'.ownBlock=some k→w.heap.size≤k):Cp B w' g { L with commits:=v' } ps coms' mm sl al us nm sc:=
 ⟨h.base,hown,h.mem.kept hg (Ex h.mem h.commits (by decide)),h.slots.kept hg (Ex h.slots h.commits (by decide)),h.access.kept hg (Ex h.access h.commits (by decide)),h.ptrs.kept hg (h.ptrs.apart h.commits (by decide)),
  h.uops.kept hg (fun p hp=>by obtain⟨u,hu,_⟩:=h.uops.mem hp;exact E7 hu h.commits (by decide)),h.names.step hg (fun hf ad e hh=>(h.free hf ad e).2.1 hh.symm),
  fun hf ad e=>by
   obtain⟨f1,f2,f3,f4,f5,f6⟩:=h.free hf ad e
   refine⟨f1,fun hh=>?_,f3,f4,f5,f6⟩
   rcases hv with hv | hv
   ·exact f2 (by rw [←hv];exact hh)
   ·have:=hv _ hh
    have:=h.names.free_lt hf ad e
    omega,
  h.scr_step hB hg (Vg h.commits)⟩
theorem Kx {v:Value} {ps:List Nat} (h:B8 w B v ps) {k:Nat} (hk:v.ownBlock=some k):∃ cur,Blk w k 105 cur:=by
 rcases h with⟨rfl,_⟩ | ⟨go,oo,cap,cur,rfl,_,hB,_⟩
 ·cases hk
 ·cases hk
  exact⟨cur,hB⟩
theorem Kw {base:Nat} {e:TypeId} {size:Nat} {v v2:Value} {n:Nat} {xs:List Value} {ps:List Nat} (h:w.ownsRow base e size v n xs) (h2:B8 w B v2 ps) (he:e≠105):v.ownBlock=none∨v.ownBlock≠v2.ownBlock:=by
 rcases hv:v2.ownBlock with _ | k
 ·rcases v.ownBlock with _ | _<;>simp
 ·obtain⟨cur,hk⟩:=Kx h2 hv
  exact Br h hk he
theorem Cp.ptr (h:Cp B w g L ps cms mm sl al us nm sc) (hB:B≤w.heap.size) (hg:w.grownBy w' L.ops.ownBlock) {v':Value} {ps':List Nat} {ops':List Uop} (hrow:B8 w' B v' ps') (hu:C9 w' B ops' ps')
  (hv:v'.ownBlock=L.ops.ownBlock∨∀ k,v'.ownBlock=some k→w.heap.size≤k) (hp:∀ p∈ps',p∈ps∨(nm.free≠[]→∀ ad,L.freeA=some ad→ad.block≠p)):Cp B w' g { L with ops:=v' } ps' cms mm sl al ops' nm sc:=
 ⟨h.base,h.commits.kept hg (Kw h.commits h.ptrs (by decide)),h.mem.kept hg (Kw h.mem h.ptrs (by decide)),h.slots.kept hg (Kw h.slots h.ptrs (by decide)),h.access.kept hg (Kw h.access h.ptrs (by decide)),hrow,hu,
  h.names.step hg (fun hf ad e hh=>(h.free hf ad e).2.2.2.2.1 hh.symm),
  fun hf ad e=>by
   obtain⟨f1,f2,f3,f4,f5,f6⟩:=h.free hf ad e
   refine⟨f1,f2,f3,f4,fun hh=>?_,fun hm=>?_⟩
   ·rcases hv with hv | hv
    ·exact f5 (by rw [←hv];exact hh)
    ·have:=hv _ hh
     have:=h.names.free_lt hf ad e
     omega
   ·rcases hp _ hm with hm | hm
    ·exact f6 hm
    ·exact hm hf ad e rfl,
  h.scr_step hB hg (fun k hk=>(h.ptrs.lt k hk).1)⟩
theorem Cp.slot (h:Cp B w g L ps cms mm sl al us nm sc) {v':Value} {slots':List Slt} (hown:w.ownsRow B 166 2 v' slots'.length (Ay slots')):Cp B w g { L with slots:=v' } ps cms mm slots' al us nm sc:=
 ⟨h.base,h.commits,h.mem,hown,h.access,h.ptrs,h.uops,h.names,h.free,h.script⟩
theorem Cp.name (h:Cp B w g L ps cms mm sl al us nm sc) (hgl:g<w.heap.size) {m':Ax} {A':Option Addr} {c':Nat} (hm:Kj w' m' A' c') (hf:∀ ad,A'=some ad→w.heap.size≤ad.block) (hB:B≤w.heap.size) (hb:Below w.heap.size w w') :
  Cp B w' g { L with freeA:=A',freeCap:=c' } ps cms mm sl al us m' sc:=by
 have h2:=h.ext hB hb
 refine⟨h2.base,h2.commits,h2.mem,h2.slots,h2.access,h2.ptrs,h2.uops,hm,fun _ ad e=>?_,h2.script⟩
 have hl:=hf ad e
 refine⟨by omega,fun hh=>?_,fun hh=>?_,fun hh=>?_,fun hh=>?_,fun hh=>?_⟩
 ·have:=(h.commits.lt _ hh).2;omega
 ·have:=(h.mem.lt _ hh).2;omega
 ·have:=(h.access.lt _ hh).2;omega
 ·have:=(h.ptrs.lt _ hh).2;omega
 ·have:=h.uops.lt hh;omega
theorem Cp.scr (h:Cp B w g L ps cms mm sl al us nm sc) {v':Value} {script':List Int} (hs:∃ A cap,v' = .slice A script'.length cap∧script'.length≤cap∧cap≤9223372036854775807∧Ar w B .i64 A script'∧(A=none→script'=[]∧cap=0)) :
  Cp B w g { L with script:=v' } ps cms mm sl al us nm script':=
 ⟨h.base,h.commits,h.mem,h.slots,h.access,h.ptrs,h.uops,h.names,h.free,hs⟩
end
structure Af (B:Nat) (w:World) (g:Nat) (C:Core) (L:Lay) (ps:List Nat) (cs:Array Value):Prop where
 low:B≤w.heap.size
 blk:Blk w g 86 cs
 cells:Ak cs C L
 rows:Cp B w g L ps C.commits C.mem C.slots C.access C.ops C.names C.script
theorem Af.ext {B:Nat} {w w':World} {g:Nat} {C:Core} {L:Lay} {ps:List Nat} {cs:Array Value} (h:Af B w g C L ps cs) (hb:Below w.heap.size w w'):Af B w' g C L ps cs:=
 ⟨qD h.low hb.size,h.blk.ext hb,h.cells,h.rows.ext h.low hb⟩
theorem Af.set {B:Nat} {w:World} {g:Nat} {C C':Core} {L L':Lay} {ps:List Nat} {cs:Array Value} (h:Af B w g C L ps cs) (k:Nat) (v:Value) (hc:Ak (cs.setIfInBounds k v) C' L')
  (hr:Cp B w g L' ps C'.commits C'.mem C'.slots C'.access C'.ops C'.names C'.script):Af B (w.setCell ⟨g,k,none⟩ v) g C' L' ps (cs.setIfInBounds k v):=
 ⟨by simpa using h.low,h.blk.set k v,hc,hr.core h.low h.blk (grownBy_setCell w ⟨g,k,none⟩ v)⟩
def Aee (t:TypeId):Bool:=t==86 || t==107 || t==105 || t==5 || t==65 || t==139
structure Ah (B:Nat) (w w':World):Prop where
 os:w'.os=w.os
 tape:w'.tape=w.tape
 output:w'.output=w.output
 size:w.heap.size≤w'.heap.size
 low:∀ k,k<w.heap.size→k<B→w'.heap[k]? = w.heap[k]?
 block:∀ k,k<w.heap.size→(∀ cs t fr,w.heap[k]? = some (.cells cs t fr)→Aee t=false)→w'.heap[k]? = w.heap[k]?
theorem Ah.refl (B:Nat) (w:World):Ah B w w:=⟨rfl,rfl,rfl,qC _,fun _ _ _=>rfl,fun _ _ _=>rfl⟩
theorem Ah.trans {B:Nat} {a b c:World} (h:Ah B a b) (k:Ah B b c):Ah B a c:=
 ⟨k.os.trans h.os,k.tape.trans h.tape,k.output.trans h.output,qD h.size k.size,fun i hi hb=>(k.low i (qE hi h.size) hb).trans (h.low i hi hb),
  fun i hi hc=>(k.block i (qE hi h.size) (fun cs t fr e=>hc cs t fr (by rw [←h.block i hi hc];exact e))).trans (h.block i hi hc)⟩
theorem Ah.below {B:Nat} {w w':World} (h:Below w.heap.size w w'):Ah B w w':=
 ⟨h.os,h.tape,h.output,h.size,fun k hk _=>h.block k hk,fun k hk _=>h.block k hk⟩
theorem Ah.grown {B:Nat} {w w':World} {row:Option Nat} (h:w.grownBy w' row) (hB:∀ k,row=some k→B≤k∧∃ cs t fr,w.heap[k]? = some (.cells cs t fr)∧Aee t=true):Ah B w w':=
 ⟨h.os,h.tape,h.output,h.size,fun k hk hb=>h.block k hk (fun e=>by have:=(hB k e.symm).1;omega),
  fun k hk hc=>h.block k hk (fun e=>by
   obtain⟨_,cs,t,fr,h1,h2⟩:=hB k e.symm
   rw [hc cs t fr h1] at h2
   cases h2)⟩
theorem Ah.blk {B:Nat} {w w':World} {g:Nat} {t:TypeId} {cs:Array Value} (h:Ah B w w') (hb:Blk w g t cs) (ht:Aee t=false):Blk w' g t cs:=
 (h.block g hb.lt (fun cs' t' fr e=>by
  have hb:w.heap[g]? = some (.cells cs t (0,0)):=hb
  rw [hb] at e
  injection e with e
  injection e with _ e
  rw [←e]
  exact ht)).trans hb
theorem Ah.own {B:Nat} {w w':World} {base:Nat} {e:TypeId} {size:Nat} {v:Value} {n:Nat} {xs:List Value} (h:Ah B w w') (ho:w.ownsRow base e size v n xs) (ht:Aee e=false):w'.ownsRow base e size v n xs:=by
 refine⟨ho.1,?_⟩
 rcases ho.2 with hn | ⟨g,cap,cur,rfl,hb,hgg,rest⟩
 ·exact .inl hn
 ·exact .inr ⟨g,cap,cur,rfl,hb,h.blk (t:=e) (cs:=cur) hgg ht,rest⟩
theorem Ah.toBelow {B:Nat} {w0 w w':World} (hb:Below B w0 w) (h:Ah B w w') (hB:B≤w.heap.size):Below B w0 w':=
 ⟨h.os.trans hb.os,h.tape.trans hb.tape,h.output.trans hb.output,qD hb.size h.size,fun k hk=>(h.low k (by omega) hk).trans (hb.block k hk)⟩
section
variable {B:Nat} {w:World} {g:Nat} {C:Core} {L:Lay} {ps:List Nat} {cs:Array Value}
theorem Af.turned (h:Af B w g C L ps cs) {w':World} (hg:w.grownBy w' (some g)):Ah B w w':=
 Ah.grown hg fun k hk=>by cases hk;exact⟨h.rows.base,cs,_,_,h.blk,rfl⟩
theorem Af.lt (h:Af B w g C L ps cs):g<w.heap.size:=h.blk.lt
theorem Af.cell (h:Af B w g C L ps cs) {k:Nat} {v:Value} (hk:cs[k]? = some v):w.cell? ⟨g,k,none⟩=some v:=(h.blk.cell k).trans hk
theorem Af.script (h:Af B w g C L ps cs):w.cell? ⟨g,43,none⟩=some L.script:=h.cell h.cells.script
theorem Af.slots (h:Af B w g C L ps cs):w.cell? ⟨g,334,none⟩=some L.slots:=h.cell h.cells.slots
theorem Af.ops (h:Af B w g C L ps cs):w.cell? ⟨g,335,none⟩=some L.ops:=h.cell h.cells.ops
theorem Af.access (h:Af B w g C L ps cs):w.cell? ⟨g,336,none⟩=some L.access:=h.cell h.cells.access
theorem Af.mem (h:Af B w g C L ps cs):w.cell? ⟨g,39,none⟩=some L.mem:=h.cell h.cells.mem
theorem Af.commits (h:Af B w g C L ps cs):w.cell? ⟨g,3,none⟩=some L.commits:=h.cell h.cells.commits
theorem Af.word (h:Af B w g C L ps cs) {d:Nat} (hd:d<96):w.cell? ⟨g,142+d,none⟩=some (.int .u32 (C.words.getD d 0)):=h.cell (h.cells.words d hd)
theorem Af.has (h:Af B w g C L ps cs) {d:Nat} (hd:d<96):w.cell? ⟨g,238+d,none⟩=some (.bool (C.there.getD d false)):=h.cell (h.cells.there d hd)
theorem Af.reg (h:Af B w g C L ps cs) {r:Nat} (hr:r<32):w.cell? ⟨g,109+r,none⟩=some (.int .i64 (C.names.regs.getD r 0)):=by
 have:=h.cells.names (1+r) (by omega)
 rw [Eh _ _ _ _ _ (by rw [h.rows.names.len];exact hr),show 108+(1+r)=109+r by omega] at this
 exact h.cell this
theorem Af.nfree (h:Af B w g C L ps cs):w.cell? ⟨g,141,none⟩=some (.slice L.freeA C.names.free.length L.freeCap):=by
 have:=h.cells.names 33 (by omega)
 rw [D4 _ _ _ _ _ h.rows.names.len] at this
 exact h.cell this
theorem Af.hstate (h:Af B w g C L ps cs) (hl:C.hart.regs.length=32):w.cell? ⟨g,37,none⟩=some (.int .i64 C.hart.state):=by
 have:=h.cells.hart 33 (by omega)
 rw [(Aq.cells_pc hl).2.1] at this
 exact h.cell this
end
theorem Ua {B:Nat} {w:World} {g:Nat} {C:Core} {L:Lay} {ps:List Nat} {cs:Array Value} (h:Af B w g C L ps cs) :
  Calls Tryz.prog 72 #[.pointer (some ⟨g,0,none⟩)] w fun e w'=>e = .returned (.int .i64 (Hj C.script))∧w.grownBy w' (some g)∧∃ L' cs',Af B w' g { C with script:=C.script.tail } L' ps cs':=by
 have hk:=h.script
 have hl:=h.lt
 obtain⟨A,cap,hs,hc,hcm,hA,hn⟩:=h.rows.script
 rw [hs] at hk
 have H:=qA h
 cases hsc:C.script with
 |nil=>
  rw [hsc] at hk
  simp only [List.length_nil] at hk
  have e0:((0:Int)==0)=true:=rfl
  have HC:=qA (show C={ C with script:=[] } by rw [←hsc])
  clear hA hn h hs
  go_enter Tryz.func72,Tryz.ntmps72
  go_wp2_with(fail)
  go_ret
  exact⟨rfl,World.grownBy.refl _ _,L,cs,by have:=H.out;rw [HC.out] at this;exact this⟩
 |cons n l=>
  rw [hsc] at hk hc hA hs
  obtain⟨b,o,rfl,hb,hcell⟩:=hA (by simp)
  have c0:w.cell? ⟨b,o,none⟩=some (.int .i64 n):=by have:=hcell 0 n rfl;simpa using this
  have hf:=h.blk.frozen 43
  have hlen:(n::l).length=l.length+1:=rfl
  rw [hlen] at hk hc
  have e0:(((l.length:Int)+1)==0)=false:=by simp;omega
  have H2:Hid (∀ v,(∃ A' cap',v = .slice A' l.length cap'∧l.length≤cap'∧cap'≤9223372036854775807∧Ar w B .i64 A' l∧(A'=none→l=[]∧cap'=0))→Af B (w.setCell ⟨g,43,none⟩ v) g { C with script:=l } { L with script:=v } ps (cs.setIfInBounds 43 v)):=
   qA fun v hv=>h.set 43 v (h.cells.set_script v l) (h.rows.scr hv)
  have hbw:b<w.heap.size:=qE hb h.low
  have Hcell:=qA hcell
  clear hA hn h hs hcell
  by_cases hc1:cap=1
  ·subst hc1
   have hl0:l=[]:=qN (by omega)
   subst hl0
   go_enter Tryz.func72,Tryz.ntmps72
   go_wp2_with(fail)
   go_ret
   exact⟨rfl,grownBy_setCell _ _ _,_,_,H2.out _ ⟨some ⟨b,o,none⟩,0,rfl,qC _,by omega,fun hh=>absurd rfl hh,fun hh=>by cases hh⟩⟩
  ·go_enter Tryz.func72,Tryz.ntmps72
   go_wp2_with(fail)
   go_ret
   refine⟨rfl,grownBy_setCell _ _ _,_,_,H2.out _ ⟨some ⟨b,o+1,none⟩,cap - 1,rfl,by omega,by omega,fun hh=>⟨b,o+1,rfl,hb,fun i v hi=>?_⟩,fun hh=>by cases hh⟩⟩
   have:=Hcell.out (i+1) v (by simpa using hi)
   rwa [show o+(i+1)=o+1+i by omega] at this
theorem My (n:Int) (w:World):Calls Tryz.prog 134 #[.int .i64 n] w fun e w'=>e = .returned (.int .i64 (Co n))∧w=w':=by
 generalize hx:Co n=x
 have Hx:=qA hx
 clear hx
 go_enter Tryz.func134,Tryz.ntmps134
 go_wp2
 all_goals
  go_ret
  refine⟨Dx ?_,rfl⟩
  rw [←Hx.out]
  unfold Co
  (repeat' split)<;>omega
theorem No (pc:Int) (w:World) (h0:0≤pc) (h1:pc≤4294967295):Calls Tryz.prog 133 #[.int .u32 pc] w fun e w'=>e = .returned (.int .u32 (Qd pc))∧w=w':=by
 have Hx:=qA (Ai7 pc)
 go_enter Tryz.func133,Tryz.ntmps133
 go_wp2
 go_ret
 exact⟨Dx Hx.out.symm,rfl⟩
theorem Oq (pc:Int) (w:World) (h0:0≤pc) (h1:pc≤4294967295):Calls Tryz.prog 106 #[.int .u32 pc] w fun e w'=>e = .returned (.int .u32 (vlK pc))∧w=w':=by
 have Hx:=qA (Ak4 pc)
 go_enter Tryz.func106,Tryz.ntmps106
 go_wp2
 go_ret
 exact⟨Dx Hx.out.symm,rfl⟩
theorem Acg (cs:Array Value) (c:Cnt) (pc:Int) (w:World) (h0:0≤pc) (h1:pc≤4294967295) (hs:cs.size=64) (hc:Zu cs (Qd pc) c) :
  Calls Tryz.prog 111 #[.agg cs, .int .u32 pc] w fun e w'=>e = .returned (.tuple #[.bool (decide (2≤c.lv)), .int .u32 c.tg])∧Below w.heap.size w w':=by
 obtain⟨c0,c1⟩:=hc
 have hk:=Qe pc
 obtain⟨lv,tg⟩:=c
 dsimp only at c0 c1
 generalize hkk:Qd pc=k at c0 c1 hk
 have Hk:=qA hkk
 have Hs:=qA hs
 clear hkk hs
 go_enter Tryz.func111,Tryz.ntmps111
 go_wp2_with(go_at_call 133;(with_reducible refine(No pc _ h0 h1).mono ?_);rintro e w1 ⟨rfl,rfl⟩;rw [Hk.out])
 have z1:w.heap.size+1<((w.alloc (.cells cs 76)).alloc (.cells #[.int .i64 lv, .int .u32 tg] 70)).heap.size:=by simp
 refine Aw (by kernel_rfl) (by kernel_rfl) ?_
 repeat'(first
  |refine Bt rfl ?_
  |(refine' Bh _ (fun wq hwq K hK=>?_) ?_ ?_;rotate_left 1;(· obtain⟨hcq,hfq⟩:=Jg hwq;go_wp2_with(fail);all_goals exact hK _ hwq);rfl)
  |((first | refine Bj rfl rfl rfl ?_ ?_ | refine Bi rfl rfl rfl ?_ ?_)<;>intro hc<;>first | (cases hc;done) | ((try cases hc);simp only [Act.put,sA,sS,sZ]))
  |refine Bl rfl rfl rfl ?_)
 all_goals
  refine Ck ?_
  intro w4 hw4
  go_wp2
  go_ret2
  exact⟨rfl,(((qB _ _).alloc (qC _) _).alloc (by simp) _).trans (hw4.mono (by simp;omega))⟩
theorem Ac4 (cs:Array Value) (v:Vl) (pc:Int) (w:World) (h0:0≤pc) (h1:pc≤4294967295) (hs:cs.size=64) (hv:v.Wf) (hc:Yh cs (vlK pc) v) :
  Calls Tryz.prog 73 #[.agg cs, .int .u32 pc] w fun e w'=>e = .returned (.tuple #[.int .u32 (Ld v pc).1, .bool (Ld v pc).2])∧Below w.heap.size w w':=by
 obtain⟨c0,c1,c2,c3⟩:=hc
 have hk:=Mx pc
 obtain⟨vpc,last,stride,sure⟩:=v
 obtain⟨p0,p1,l0,l1,s0,s1,u0,u1⟩:=hv
 dsimp only at c0 c1 c2 c3 p0 p1 l0 l1 s0 s1 u0 u1
 generalize hkk:vlK pc=k at c0 c1 c2 c3 hk
 generalize hX:Ld ⟨vpc,last,stride,sure⟩ pc=X
 have HX:=qA hX
 have Hk:=qA hkk
 have Hs:=qA hs
 clear hkk hs hX
 go_enter Tryz.func73,Tryz.ntmps73
 go_wp2_with(go_at_call 106;(with_reducible refine(Oq pc _ h0 h1).mono ?_);rintro e w1 ⟨rfl,rfl⟩;rw [Hk.out])
 all_goals
  go_ret2
  refine⟨?_,((qB _ _).alloc (qC _) _).alloc (by simp) _⟩
  rw [←HX.out]
  unfold Ld Abz
  dsimp only
  first | (rw [if_pos ⟨by assumption,by assumption⟩];rfl) | (rw [if_neg (by omega)];rfl)
theorem J8 {cs:Array Value} (h:cs.size=64):(Tryz.prog.info? 76).map (·.size)=some cs.size:=by rw [h];kernel_rfl
section
variable {ops:Array Oper} {rest:List Oper} {o:Oper} {a:Act} {w:World} {Q:Exit→Act→World→Prop}
theorem Nw (hgd:o.guard=none) (x:Operand) (ho:o.op = .load 76 x) (g:Nat) (hx:a.eval x = .pointer (some ⟨g,0,none⟩)) (cs:Array Value) (hg:Blk w g 76 cs) (hs:cs.size=64)
  (h:wpList Tryz.prog ops Q rest (a.put o.dst (.agg cs)) w):wpList Tryz.prog ops Q (o::rest) a w:=
 Ab hgd 76 x ho g hx 76 cs _ hg Tryz.underlying76 rfl (J8 hs) h
theorem Lv (hgd:o.guard=none) (x y:Operand) (ho:o.op = .store 76 x y) (g:Nat) (cells:Array Value) (hx:a.eval x = .pointer (some ⟨g,0,none⟩)) (hy:a.eval y = .agg cells)
  (old:Array Value) (hg:Blk w g 76 old) (hs:cells.size=64) (hn:old.size=64) (h1:cells.all (·.oneCell')=true)
  (h:∀ w',Blk w' g 76 cells→w.grownBy w' (some g)→wpList Tryz.prog ops Q rest (a.put o.dst undef) w'):wpList Tryz.prog ops Q (o::rest) a w:=
 Ae hgd 76 x y ho g cells hx hy 76 old hg (J8 hs) (by omega) h1 h
end
theorem Tj (cs:Array Value) (c:Cnt) (pc target:Int) (taken:Bool) (w:World) (h0:0≤pc) (h1:pc≤4294967295) (t0:0≤target) (t1:target≤4294967295) (hok:E9 cs) (hw:c.Wf) (hc:Zu cs (Qd pc) c) :
  Calls Tryz.prog 93 #[.agg cs, .int .u32 pc, .bool taken, .int .u32 target] w fun e w'=>e = .returned (.agg (Gm cs c pc taken target))∧Below w.heap.size w w':=by
 have hok2:=hok.setCnt (Qe pc) (Xx hw taken t0 t1)
 have Hsz:=qA hok2.size
 have Hone:=qA hok2.one
 have Hs:=qA hok.size
 clear hok2 hw
 obtain⟨c0,c1⟩:=hc
 have hk:=Qe pc
 obtain⟨lv,tg⟩:=c
 dsimp only at c0 c1
 unfold Gm
 generalize hkk:Qd pc=k at c0 c1 hk Hsz Hone
 have Hk:=qA hkk
 obtain⟨b0,b1⟩:=Ke lv
 clear hkk hok
 rcases taken with _ | _
 ·have ec:cs.setIfInBounds (k*2) (.int .i64 (Co (Co lv - 1)))=setCnt cs k (U4 ⟨lv,tg⟩ false target):=by
   apply Array.ext_getElem?
   intro j
   rw [Mt cs k _ Hs.out hk,Ib,Hs.out]
   by_cases e:j=k*2
   ·subst e;rw [if_pos ⟨rfl,by omega⟩,if_pos rfl];rfl
   ·rw [if_neg (by omega),if_neg e]
    by_cases e2:j=k*2+1
    ·subst e2;rw [if_pos rfl];exact c1
    ·rw [if_neg e2]
  rw [←ec] at Hsz Hone ⊢
  clear ec
  go_enter Tryz.func93,Tryz.ntmps93
  go_wp2_with(first
   |(go_at_call 133;(with_reducible refine(No pc _ h0 h1).mono ?_);rintro e w1 ⟨rfl,rfl⟩;rw [Hk.out])
   |(go_at_call 134;(with_reducible refine(My _ _).mono ?_);rintro e w1 ⟨rfl,rfl⟩)
   |(refine Nw rfl _ rfl w.heap.size rfl _ ((Blk.new w _ _).alloc _) Hsz.out ?_)
   |(refine Lv rfl _ _ rfl (w.heap.size+1) _ rfl rfl _ (Blk.newAt _ _ _ (by simp)) Hsz.out rfl Hone.out ?_;intro w5 hB5 hg5))
  exact bodyPost_ret (v := .agg _) (Bo rfl _ _ (w.heap.size+1) 76 _ _ rfl hB5 Tryz.underlying76 rfl (J8 Hsz.out)) rfl
   ⟨rfl,below_grown (((qB _ _).alloc (qC _) _).alloc (by simp) _) hg5 (by simp;omega) (by omega)⟩
 ·have ec:(cs.setIfInBounds (k*2) (.int .i64 (Co (Co lv+1)))).setIfInBounds (k*2+1) (.int .u32 target)=setCnt cs k (U4 ⟨lv,tg⟩ true target):=rfl
  rw [←ec] at Hsz Hone ⊢
  clear ec
  go_enter Tryz.func93,Tryz.ntmps93
  go_wp2_with(first
   |(go_at_call 133;(with_reducible refine(No pc _ h0 h1).mono ?_);rintro e w1 ⟨rfl,rfl⟩;rw [Hk.out])
   |(go_at_call 134;(with_reducible refine(My _ _).mono ?_);rintro e w1 ⟨rfl,rfl⟩)
   |(refine Nw rfl _ rfl w.heap.size rfl _ ((Blk.new w _ _).alloc _) Hsz.out ?_)
   |(refine Lv rfl _ _ rfl (w.heap.size+1) _ rfl rfl _ (Blk.newAt _ _ _ (by simp)) Hsz.out rfl Hone.out ?_;intro w5 hB5 hg5))
  exact bodyPost_ret (v := .agg _) (Bo rfl _ _ (w.heap.size+1) 76 _ _ rfl hB5 Tryz.underlying76 rfl (J8 Hsz.out)) rfl
   ⟨rfl,below_grown (((qB _ _).alloc (qC _) _).alloc (by simp) _) hg5 (by simp;omega) (by omega)⟩
theorem Ahf (x y:Int):Tryz.prog.built 73 [(0, .int .u32 x),(1, .int .u32 y)]=some #[.int .u32 x, .int .u32 y, .int .u32 0, .int .i64 0]:=by kernel_rfl
theorem Akb {a b c d:Value}:(Tryz.prog.info? 73).map (·.size)=some (#[a,b,c,d]:Array Value).size:=by kernel_rfl
theorem Ak5 {a b c d:Int}:(#[.int .u32 a, .int .u32 b, .int .u32 c, .int .i64 d]:Array Value).all (·.oneCell')=true:=by kernel_rfl
theorem U7 (cs:Array Value) (v:Vl) (pc n:Int) (w:World) (h0:0≤pc) (h1:pc≤4294967295) (n0:0≤n) (n1:n≤4294967295) (hok:E9 cs) (hw:v.Wf) (hc:Yh cs (vlK pc) v) (hne:v.pc≠pc) :
  Calls Tryz.prog 94 #[.agg cs, .int .u32 pc, .int .u32 n] w fun e w'=>e = .returned (.agg (Ek cs v pc n))∧Below w.heap.size w w':=by
 have hok2:=hok.setVl (Mx pc) (Om hw h0 h1 n0 n1)
 have Hsz:=qA hok2.size
 have Hone:=qA hok2.one
 have Hs:=qA hok.size
 obtain⟨c0,c1,c2,c3⟩:=hc
 have hk:=Mx pc
 unfold Ek
 generalize hkk:vlK pc=k at c0 c1 c2 c3 hk Hsz Hone
 have Hk:=qA hkk
 obtain⟨vpc,last,stride,sure⟩:=v
 obtain⟨p0,p1,l0,l1,s0,s1,u0,u1⟩:=hw
 dsimp only at c0 c1 c2 c3 p0 p1 l0 l1 s0 s1 u0 u1
 clear hkk hok hok2
 have e:Mk ⟨vpc,last,stride,sure⟩ pc n=⟨pc,n,0,0⟩:=by unfold Mk;rw [if_pos hne]
 rw [e] at Hsz Hone ⊢
 dsimp only at hne
 have hle:32+k*4+(#[Value.int .u32 pc, .int .u32 n, .int .u32 0, .int .i64 0]:Array Value).size≤cs.size:=by rw [Hs.out];show 32+k*4+4≤64;omega
 have es:splice cs (32+k*4) (#[Value.int .u32 pc, .int .u32 n, .int .u32 0, .int .i64 0]:Array Value).toList=setVl cs k ⟨pc,n,0,0⟩:=Ag1 cs k ⟨pc,n,0,0⟩ Hs.out hk
 have ev:=Abt cs k ⟨pc,n,0,0⟩ Hs.out hk
 generalize hD:setVl cs k ⟨pc,n,0,0⟩=D at *
 have ef:D.setIfInBounds (32+k*4+1) (.int .u32 n)=D:=by
  apply Array.ext_getElem?
  intro j
  rw [Ib]
  by_cases ej:32+k*4+1=j
  ·subst ej
   have:=ev.c1
   split
   ·exact this.symm
   ·rfl
  ·rw [if_neg (by omega)]
 have Es:=qA es
 have Ev:=qA ev
 have Ef:=qA ef
 have Hle:=qA hle
 clear es ev ef hD hle e
 go_enter Tryz.func94,Tryz.ntmps94
 go_upto_region 3 with(go_at_call 106;(with_reducible refine(Oq pc _ h0 h1).mono ?_);rintro e w1 ⟨rfl,rfl⟩;rw [Hk.out])
 refine A1 fun wq hq=>?_
 have hB:Blk wq w.heap.size 76 cs:=by rw [hq];exact(Blk.new w _ _).alloc _
 obtain⟨zs,hzs,hZ⟩:∃ zs:Array Value,zs.size=64∧Blk wq (w.heap.size+1) 76 zs:=⟨_,rfl,by rw [hq];exact Blk.newAt _ _ _ (by simp)⟩
 have hbq:Below w.heap.size w wq:=by rw [hq];exact((qB _ _).alloc (qC _) _).alloc (by simp) _
 have zq:wq.heap.size=w.heap.size+2:=by rw [hq];simp
 have Hz:=qA zq
 have Hne:=qA (show w.heap.size+1≠w.heap.size by omega)
 have Hzs:=qA hzs
 have zq1:w.heap.size<wq.heap.size:=by omega
 have zq2:w.heap.size+1<wq.heap.size:=by omega
 have hBc:=hB.cell
 have hBf:=hB.frozen
 clear hq zq hzs
 go_wp2_with(first
  |(refine Am rfl 73 _ rfl [(0, .int .u32 pc),(1, .int .u32 n)] ?_ _ (Ahf pc n) ?_;kernel_rfl)
  |(refine B7 rfl 73 _ _ rfl w.heap.size (32+k*4) #[.int .u32 pc, .int .u32 n, .int .u32 0, .int .i64 0] rfl rfl 76 cs hB Akb Hle.out Ak5 ?_;intro w5 hB5 hg5;rw [Es.out] at hB5;have hB5c:=hB5.cell;have hB5f:=hB5.frozen;have ev1:=Ev.out.c1)
  |(refine Nw rfl _ rfl w.heap.size rfl D (by have h:=hB5.set (32+k*4+1) (.int .u32 n);rw [Ef.out] at h;exact h) Hsz.out ?_)
  |(refine Lv rfl _ _ rfl (w.heap.size+1) _ rfl rfl _ ((hZ.grown hg5 (by simp)).farAt Hne.out _) Hsz.out Hzs.out Hone.out ?_;intro w6 hB6 hg6))
 exact bodyPost_ret (v := .agg _) (Bo rfl _ _ (w.heap.size+1) 76 _ _ rfl hB6 Tryz.underlying76 rfl (J8 Hsz.out)) rfl
  ⟨rfl,below_grown ((below_grown hbq hg5 (by omega) (qC _)).setCell (by simp) _) hg6 (by simp;have:=hg5.size;omega) (by omega)⟩
theorem U6 (cs:Array Value) (v:Vl) (pc n:Int) (w:World) (h0:0≤pc) (h1:pc≤4294967295) (n0:0≤n) (n1:n≤4294967295) (hok:E9 cs) (hw:v.Wf) (hc:Yh cs (vlK pc) v) (hne:v.pc=pc) (he:n=Abz v.last v.stride) :
  Calls Tryz.prog 94 #[.agg cs, .int .u32 pc, .int .u32 n] w fun e w'=>e = .returned (.agg (Ek cs v pc n))∧Below w.heap.size w w':=by
 have hok2:=hok.setVl (Mx pc) (Om hw h0 h1 n0 n1)
 have Hsz:=qA hok2.size
 have Hone:=qA hok2.one
 have Hs:=qA hok.size
 obtain⟨c0,c1,c2,c3⟩:=hc
 have hk:=Mx pc
 unfold Ek
 generalize hkk:vlK pc=k at c0 c1 c2 c3 hk Hsz Hone
 have Hk:=qA hkk
 obtain⟨vpc,last,stride,sure⟩:=v
 obtain⟨p0,p1,l0,l1,s0,s1,u0,u1⟩:=hw
 dsimp only at c0 c1 c2 c3 p0 p1 l0 l1 s0 s1 u0 u1
 clear hkk hok hok2
 have e:Mk ⟨vpc,last,stride,sure⟩ pc n=⟨vpc,n,stride,Co (Co sure+1)⟩:=by unfold Mk;rw [if_neg (by simpa using hne),if_pos he]
 rw [e] at Hsz Hone ⊢
 obtain⟨b0,b1⟩:=Ke sure
 dsimp only at hne he
 unfold Abz at he
 have e1:(n==(last+stride)%4294967296)=true:=by simp [he]
 have ef:(cs.setIfInBounds (32+k*4+3) (.int .i64 (Co (Co sure+1)))).setIfInBounds (32+k*4+1) (.int .u32 n)=setVl cs k ⟨vpc,n,stride,Co (Co sure+1)⟩:=by
  refine Aiy cs _ k _ Hs.out hk (fun j h0 h1 h2 h3=>by rw [Ib,if_neg (by omega),Ib,if_neg (by omega)]) ⟨?_,?_,?_,?_⟩<;>simp only [Ib,Array.size_setIfInBounds,Hs.out]
  ·rw [if_neg (by omega),if_neg (by omega)];exact c0
  ·rw [if_pos (by simp;omega)]
  ·rw [if_neg (by omega),if_neg (by omega)];exact c2
  ·rw [if_neg (by omega),if_pos (by simp;omega)]
 rw [←ef] at Hsz Hone ⊢
 clear ef he e
 obtain rfl:pc=vpc:=hne.symm
 go_enter Tryz.func94,Tryz.ntmps94
 go_upto_region 3 with(go_at_call 106;(with_reducible refine(Oq pc _ h0 h1).mono ?_);rintro e w1 ⟨rfl,rfl⟩;rw [Hk.out])
 refine A1 fun wq hq=>?_
 have hB:Blk wq w.heap.size 76 cs:=by rw [hq];exact(Blk.new w _ _).alloc _
 obtain⟨zs,hzs,hZ⟩:∃ zs:Array Value,zs.size=64∧Blk wq (w.heap.size+1) 76 zs:=⟨_,rfl,by rw [hq];exact Blk.newAt _ _ _ (by simp)⟩
 have hbq:Below w.heap.size w wq:=by rw [hq];exact((qB _ _).alloc (qC _) _).alloc (by simp) _
 have zq:wq.heap.size=w.heap.size+2:=by rw [hq];simp
 have Hz:=qA zq
 have Hne:=qA (show w.heap.size+1≠w.heap.size by omega)
 have Hzs:=qA hzs
 have zq1:w.heap.size<wq.heap.size:=by omega
 have zq2:w.heap.size+1<wq.heap.size:=by omega
 have hBc:=hB.cell
 have hBf:=hB.frozen
 clear hq zq hzs
 go_wp2_with fail
 refine Aw (by kernel_rfl) (by kernel_rfl) ?_
 repeat'(first
  |refine Bt rfl ?_
  |(refine' Bh _ (fun wq hwq K hK=>?_) ?_ ?_;rotate_left 1;(· obtain⟨hcq,hfq⟩:=Jg hwq;go_wp2_with(fail);all_goals exact hK _ hwq);rfl)
  |((first | refine Bj rfl rfl rfl ?_ ?_ | refine Bi rfl rfl rfl ?_ ?_)<;>intro hc<;>first | (cases hc;done) | ((try cases hc);simp only [Act.put,sA,sS,sZ]))
  |refine Bl rfl rfl rfl ?_)
 all_goals
  refine Ck ?_
  intro w4 hw4
  have hB4:=hB.ext hw4
  have hZ4:=hZ.ext hw4
  have hb4:=hbq.trans (hw4.mono (by omega))
  have z4:=hw4.size
  clear hBc hBf
  have hBc:=hB4.cell
  have hBf:=hB4.frozen
  go_upto_region 8 with(go_at_call 134;(with_reducible refine(My _ _).mono ?_);rintro e w1 ⟨rfl,rfl⟩)
  go_wp2_with(first
   |(refine Nw rfl _ rfl w.heap.size rfl _ ((hB4.set _ _).set _ _) Hsz.out ?_)
   |(refine Lv rfl _ _ rfl (w.heap.size+1) _ rfl rfl _ ((hZ4.farAt Hne.out _).farAt Hne.out _) Hsz.out Hzs.out Hone.out ?_;intro w6 hB6 hg6))
  exact bodyPost_ret (v := .agg _) (Bo rfl _ _ (w.heap.size+1) 76 _ _ rfl hB6 Tryz.underlying76 rfl (J8 Hsz.out)) rfl
   ⟨rfl,below_grown ((hb4.setCell (by simp) _).setCell (by simp) _) hg6 (by simp;omega) (by omega)⟩
theorem Tk (cs:Array Value) (v:Vl) (pc n:Int) (w:World) (h0:0≤pc) (h1:pc≤4294967295) (n0:0≤n) (n1:n≤4294967295) (hok:E9 cs) (hw:v.Wf) (hc:Yh cs (vlK pc) v) (hne:v.pc=pc) (he:n≠Abz v.last v.stride) :
  Calls Tryz.prog 94 #[.agg cs, .int .u32 pc, .int .u32 n] w fun e w'=>e = .returned (.agg (Ek cs v pc n))∧Below w.heap.size w w':=by
 have hok2:=hok.setVl (Mx pc) (Om hw h0 h1 n0 n1)
 have Hsz:=qA hok2.size
 have Hone:=qA hok2.one
 have Hs:=qA hok.size
 obtain⟨c0,c1,c2,c3⟩:=hc
 have hk:=Mx pc
 unfold Ek
 generalize hkk:vlK pc=k at c0 c1 c2 c3 hk Hsz Hone
 have Hk:=qA hkk
 obtain⟨vpc,last,stride,sure⟩:=v
 obtain⟨p0,p1,l0,l1,s0,s1,u0,u1⟩:=hw
 dsimp only at c0 c1 c2 c3 p0 p1 l0 l1 s0 s1 u0 u1
 clear hkk hok hok2
 have e:Mk ⟨vpc,last,stride,sure⟩ pc n=⟨vpc,n,Ads n last,0⟩:=by unfold Mk;rw [if_neg (by simpa using hne),if_neg he]
 rw [e] at Hsz Hone ⊢
 dsimp only at hne he
 unfold Abz at he
 have e1:(n==(last+stride)%4294967296)=false:=by simp [he]
 have ef:((cs.setIfInBounds (32+k*4+3) (.int .i64 0)).setIfInBounds (32+k*4+2) (.int .u32 ((n - last)%4294967296))).setIfInBounds (32+k*4+1) (.int .u32 n)=setVl cs k ⟨vpc,n,Ads n last,0⟩:=by
  refine Aiy cs _ k _ Hs.out hk (fun j h0 h1 h2 h3=>by rw [Ib,if_neg (by omega),Ib,if_neg (by omega),Ib,if_neg (by omega)]) ⟨?_,?_,?_,?_⟩<;>simp only [Ib,Array.size_setIfInBounds,Hs.out]
  ·rw [if_neg (by omega),if_neg (by omega),if_neg (by omega)];exact c0
  ·rw [if_pos (by simp;omega)]
  ·rw [if_neg (by omega),if_pos (by simp;omega)];rfl
  ·rw [if_neg (by omega),if_neg (by omega),if_pos (by simp;omega)]
 rw [←ef] at Hsz Hone ⊢
 clear ef he e
 obtain rfl:pc=vpc:=hne.symm
 go_enter Tryz.func94,Tryz.ntmps94
 go_upto_region 3 with(go_at_call 106;(with_reducible refine(Oq pc _ h0 h1).mono ?_);rintro e w1 ⟨rfl,rfl⟩;rw [Hk.out])
 refine A1 fun wq hq=>?_
 have hB:Blk wq w.heap.size 76 cs:=by rw [hq];exact(Blk.new w _ _).alloc _
 obtain⟨zs,hzs,hZ⟩:∃ zs:Array Value,zs.size=64∧Blk wq (w.heap.size+1) 76 zs:=⟨_,rfl,by rw [hq];exact Blk.newAt _ _ _ (by simp)⟩
 have hbq:Below w.heap.size w wq:=by rw [hq];exact((qB _ _).alloc (qC _) _).alloc (by simp) _
 have zq:wq.heap.size=w.heap.size+2:=by rw [hq];simp
 have Hz:=qA zq
 have Hne:=qA (show w.heap.size+1≠w.heap.size by omega)
 have Hzs:=qA hzs
 have zq1:w.heap.size<wq.heap.size:=by omega
 have zq2:w.heap.size+1<wq.heap.size:=by omega
 have hBc:=hB.cell
 have hBf:=hB.frozen
 clear hq zq hzs
 go_wp2_with fail
 refine Aw (by kernel_rfl) (by kernel_rfl) ?_
 repeat'(first
  |refine Bt rfl ?_
  |(refine' Bh _ (fun wq hwq K hK=>?_) ?_ ?_;rotate_left 1;(· obtain⟨hcq,hfq⟩:=Jg hwq;go_wp2_with(fail);all_goals exact hK _ hwq);rfl)
  |((first | refine Bj rfl rfl rfl ?_ ?_ | refine Bi rfl rfl rfl ?_ ?_)<;>intro hc<;>first | (cases hc;done) | ((try cases hc);simp only [Act.put,sA,sS,sZ]))
  |refine Bl rfl rfl rfl ?_)
 all_goals
  refine Ck ?_
  intro w4 hw4
  have hB4:=hB.ext hw4
  have hZ4:=hZ.ext hw4
  have hb4:=hbq.trans (hw4.mono (by omega))
  have z4:=hw4.size
  clear hBc hBf
  have hBc:=hB4.cell
  have hBf:=hB4.frozen
  go_upto_region 8 with(go_at_call 134;(with_reducible refine(My _ _).mono ?_);rintro e w1 ⟨rfl,rfl⟩)
  go_wp2_with(first
   |(refine Nw rfl _ rfl w.heap.size rfl _ (((hB4.set _ _).set _ _).set _ _) Hsz.out ?_)
   |(refine Lv rfl _ _ rfl (w.heap.size+1) _ rfl rfl _ (((hZ4.farAt Hne.out _).farAt Hne.out _).farAt Hne.out _) Hsz.out Hzs.out Hone.out ?_;intro w6 hB6 hg6))
  exact bodyPost_ret (v := .agg _) (Bo rfl _ _ (w.heap.size+1) 76 _ _ rfl hB6 Tryz.underlying76 rfl (J8 Hsz.out)) rfl
   ⟨rfl,below_grown (((hb4.setCell (by simp) _).setCell (by simp) _).setCell (by simp) _) hg6 (by simp;omega) (by omega)⟩
theorem U5 (cs:Array Value) (v:Vl) (pc n:Int) (w:World) (h0:0≤pc) (h1:pc≤4294967295) (n0:0≤n) (n1:n≤4294967295) (hok:E9 cs) (hw:v.Wf) (hc:Yh cs (vlK pc) v) :
  Calls Tryz.prog 94 #[.agg cs, .int .u32 pc, .int .u32 n] w fun e w'=>e = .returned (.agg (Ek cs v pc n))∧Below w.heap.size w w':=by
 by_cases h:v.pc=pc
 ·by_cases h':n=Abz v.last v.stride
  ·exact U6 cs v pc n w h0 h1 n0 n1 hok hw hc h h'
  ·exact Tk cs v pc n w h0 h1 n0 n1 hok hw hc h h'
 ·exact U7 cs v pc n w h0 h1 n0 n1 hok hw hc h
theorem Io (i:Ins) (w:World):Calls Tryz.prog 65 #[.agg i.cells] w fun e w'=>e = .returned (.bool (Bp i))∧Below w.heap.size w w':=by
 have hb:=(qB w.heap.size w).alloc (qC _) (.cells i.cells 53)
 have hx:Bp i=(decide (11≤i.op)&&decide (i.op≤15)):=rfl
 rw [hx]
 obtain⟨op,rd,r1,r2,im⟩:=i
 dsimp only
 by_cases h1:11≤op
 ·have e1:decide (11≤op)=true:=qF h1
  rw [e1]
  by_cases h2:op≤15
  ·have e2:decide (op≤15)=true:=qF h2
   rw [e2]
   go_enter Tryz.func65,Tryz.ntmps65
   go_wp2_with(fail)
   go_ret
   exact⟨rfl,hb⟩
  ·have e2:decide (op≤15)=false:=qG h2
   rw [e2]
   go_enter Tryz.func65,Tryz.ntmps65
   go_wp2_with(fail)
   go_ret
   exact⟨rfl,hb⟩
 ·have e1:decide (11≤op)=false:=qG h1
  rw [e1]
  go_enter Tryz.func65,Tryz.ntmps65
  go_wp2_with(fail)
  go_ret
  exact⟨rfl,hb⟩
theorem Mu (i:Ins) (w:World):Calls Tryz.prog 70 #[.agg i.cells] w fun e w'=>e = .returned (.bool (A0 i))∧Below w.heap.size w w':=by
 have hb:=(qB w.heap.size w).alloc (qC _) (.cells i.cells 53)
 have hx:A0 i=(decide (16≤i.op)&&decide (i.op≤18)):=rfl
 rw [hx]
 obtain⟨op,rd,r1,r2,im⟩:=i
 dsimp only
 by_cases h1:16≤op
 ·have e1:decide (16≤op)=true:=qF h1
  rw [e1]
  by_cases h2:op≤18
  ·have e2:decide (op≤18)=true:=qF h2
   rw [e2]
   go_enter Tryz.func70,Tryz.ntmps70
   go_wp2_with(fail)
   go_ret
   exact⟨rfl,hb⟩
  ·have e2:decide (op≤18)=false:=qG h2
   rw [e2]
   go_enter Tryz.func70,Tryz.ntmps70
   go_wp2_with(fail)
   go_ret
   exact⟨rfl,hb⟩
 ·have e1:decide (16≤op)=false:=qG h1
  rw [e1]
  go_enter Tryz.func70,Tryz.ntmps70
  go_wp2_with(fail)
  go_ret
  exact⟨rfl,hb⟩
theorem Ij (i:Ins) (w:World):Calls Tryz.prog 63 #[.agg i.cells] w fun e w'=>e = .returned (.bool (Ba i))∧Below w.heap.size w w':=by
 have hb:=(qB w.heap.size w).alloc (qC _) (.cells i.cells 53)
 have hx:Ba i=(decide (i.op=47) || decide (i.op=48)):=rfl
 rw [hx]
 obtain⟨op,rd,r1,r2,im⟩:=i
 dsimp only
 by_cases h1:op=47
 ·subst h1
  go_enter Tryz.func63,Tryz.ntmps63
  go_wp2_with(fail)
  go_ret
  exact⟨rfl,hb⟩
 ·have e1:(op==47)=false:=by simpa using h1
  have e1':decide (op=47)=false:=qG h1
  rw [e1']
  by_cases h2:op=48
  ·subst h2
   go_enter Tryz.func63,Tryz.ntmps63
   go_wp2_with(fail)
   go_ret
   exact⟨rfl,hb⟩
  ·have e2:(op==48)=false:=by simpa using h2
   have e2':decide (op=48)=false:=qG h2
   rw [e2']
   go_enter Tryz.func63,Tryz.ntmps63
   go_wp2_with(fail)
   go_ret
   exact⟨rfl,hb⟩
theorem Wq (op:Int) (w:World) (h0:11≤op) (h1:op≤15):Calls Tryz.prog 96 #[.int .i64 op] w fun e w'=>e = .returned (.int .i64 (loadBytes op))∧w=w':=by
 have built_b:Tryz.prog.built 207 [(0, .int .i64 1),(1, .int .i64 2),(2, .int .i64 4),(3, .int .i64 1),(4, .int .i64 2)]=some #[.int .i64 1, .int .i64 2, .int .i64 4, .int .i64 1, .int .i64 2]:=by kernel_rfl
 have ix0:∀ w,(Instr.index 207 (.agg #[.int .i64 1, .int .i64 2, .int .i64 4, .int .i64 1, .int .i64 2]) (.int .i64 0)).run Tryz.prog w = .ok (.int .i64 1) w:=fun _=>by kernel_rfl
 have ix1:∀ w,(Instr.index 207 (.agg #[.int .i64 1, .int .i64 2, .int .i64 4, .int .i64 1, .int .i64 2]) (.int .i64 1)).run Tryz.prog w = .ok (.int .i64 2) w:=fun _=>by kernel_rfl
 have ix2:∀ w,(Instr.index 207 (.agg #[.int .i64 1, .int .i64 2, .int .i64 4, .int .i64 1, .int .i64 2]) (.int .i64 2)).run Tryz.prog w = .ok (.int .i64 4) w:=fun _=>by kernel_rfl
 have ix3:∀ w,(Instr.index 207 (.agg #[.int .i64 1, .int .i64 2, .int .i64 4, .int .i64 1, .int .i64 2]) (.int .i64 3)).run Tryz.prog w = .ok (.int .i64 1) w:=fun _=>by kernel_rfl
 have ix4:∀ w,(Instr.index 207 (.agg #[.int .i64 1, .int .i64 2, .int .i64 4, .int .i64 1, .int .i64 2]) (.int .i64 4)).run Tryz.prog w = .ok (.int .i64 2) w:=fun _=>by kernel_rfl
 obtain rfl | rfl | rfl | rfl | rfl:op=11∨op=12∨op=13∨op=14∨op=15:=by omega
 all_goals
  go_enter Tryz.func96,Tryz.ntmps96
  go_wp2_with(refine Am rfl 207 _ rfl [(0, .int .i64 1),(1, .int .i64 2),(2, .int .i64 4),(3, .int .i64 1),(4, .int .i64 2)] rfl _ built_b ?_)
  go_ret
  exact⟨rfl,rfl⟩
section
variable {B:Nat} {w:World} {g:Nat} {C:Core} {L:Lay} {ps:List Nat} {cs:Array Value}
theorem extract_eq {cs D:Array Value} {off n:Nat} (hs:off+n≤cs.size) (hD:D.size=n) (h:∀ i,i<n→cs[off+i]? = D[i]?):cs.extract off (off+n)=D:=by
 apply Array.ext_getElem?
 intro i
 rw [Array.getElem?_extract]
 by_cases hi:i<n
 ·rw [if_pos (by omega),h i hi]
 ·rw [if_neg (by omega),Array.getElem?_eq_none (by omega)]
theorem Ak.tabX (h:Ak cs C L) (hs:C.table.size=64):cs.extract 44 (44+64)=C.table:=extract_eq (by rw [h.size];omega) hs h.tab
theorem Ak.namesX (h:Ak cs C L) (hl:C.names.regs.length=32):cs.extract 108 (108+34)=Ag C.names.phys C.names.regs L.freeA C.names.free.length L.freeCap:=extract_eq (by rw [h.size];omega) (B3 _ _ _ _ _ hl) h.names
theorem Ak.regsX (h:Ak cs C L) (hl:C.hart.regs.length=32):cs.extract 4 (4+32)=(C.hart.regs.map (Value.int .u32)).toArray:=
 extract_eq (by rw [h.size];omega) (by simp [hl]) fun i hi=>by
  rw [h.hart i (by omega),Aq.cells_reg (by rw [hl];exact hi)]
  simp [List.getD,qI (show i<C.hart.regs.length by rw [hl];exact hi)]
theorem Hg:(Tryz.prog.info? 76).map (·.size)=some 64:=by kernel_rfl
theorem Nj:(Tryz.prog.info? 79).map (·.size)=some 34:=by kernel_rfl
theorem Ss:(Tryz.prog.info? 28).map (·.size)=some 32:=by kernel_rfl
theorem Au:(Tryz.prog.info? 53).map (·.size)=some 5:=by kernel_rfl
theorem Yg:(Tryz.prog.info? 65).map (·.size)=some 11:=by kernel_rfl
theorem Uop.insX (u:Uop):u.cells.extract 5 (5+5)=u.ins.cells:=rfl
theorem Uop.comX (u:Uop):u.cells.extract 16 (16+11)=u.commit.cells:=rfl
theorem Uop.size (u:Uop):u.cells.size=27:=rfl
theorem N3 {cs vs:Array Value} {off n:Nat} (hs:cs.size=340) (ho:off+n≤340) (hv:vs.size=n):(splice cs off vs.toList).size=340∧(∀ i,i<n→(splice cs off vs.toList)[off+i]? = vs[i]?)∧∀ j,j<off∨off+n≤j→(splice cs off vs.toList)[j]? = cs[j]? := by
 have hl:off+vs.toList.length≤cs.size:=by rw [hs];simpa [hv] using ho
 refine⟨by rw [Ht _ _ _ hl,hs],fun i hi=>?_,fun j hj=>?_⟩
 ·rw [E6 _ _ _ hl,if_neg (by omega),if_pos (by simp [hv];omega)]
  simp
 ·rw [E6 _ _ _ hl]
  rcases hj with hj | hj
  ·rw [if_pos hj]
  ·rw [if_neg (by omega),if_neg (by simp [hv];omega)]
end
theorem Kq (a b c:Int) (w:World):Calls Tryz.prog 10 #[.agg #[.int .i64 a, .int .i64 b, .int .i64 c]] w fun e w'=>e = .returned (.bool (decide (1≤a)&&decide (a≤32)&&decide (33≤b)&&decide (b≤96)&&decide (1≤c)&&decide (c≤4)))∧Below w.heap.size w w':=by
 have hb:=(qB w.heap.size w).alloc (qC _) (.cells #[.int .i64 a, .int .i64 b, .int .i64 c] 26)
 by_cases q1:1≤a
 rotate_left
 ·have e1:decide (1≤a)=false:=qG q1
  clear q1
  rw [e1]
  go_enter Tryz.func10,Tryz.ntmps10
  go_wp2_with(fail)
  go_ret
  exact⟨rfl,hb⟩
 have e1:decide (1≤a)=true:=qF q1
 by_cases q2:a≤32
 rotate_left
 ·have e2:decide (a≤32)=false:=qG q2
  clear q1 q2
  rw [e1,e2]
  go_enter Tryz.func10,Tryz.ntmps10
  go_wp2_with(fail)
  go_ret
  exact⟨rfl,hb⟩
 have e2:decide (a≤32)=true:=qF q2
 by_cases q3:33≤b
 rotate_left
 ·have e3:decide (33≤b)=false:=qG q3
  clear q1 q2 q3
  rw [e1,e2,e3]
  go_enter Tryz.func10,Tryz.ntmps10
  go_wp2_with(fail)
  go_ret
  exact⟨rfl,hb⟩
 have e3:decide (33≤b)=true:=qF q3
 by_cases q4:b≤96
 rotate_left
 ·have e4:decide (b≤96)=false:=qG q4
  clear q1 q2 q3 q4
  rw [e1,e2,e3,e4]
  go_enter Tryz.func10,Tryz.ntmps10
  go_wp2_with(fail)
  go_ret
  exact⟨rfl,hb⟩
 have e4:decide (b≤96)=true:=qF q4
 by_cases q5:1≤c
 rotate_left
 ·have e5:decide (1≤c)=false:=qG q5
  clear q1 q2 q3 q4 q5
  rw [e1,e2,e3,e4,e5]
  go_enter Tryz.func10,Tryz.ntmps10
  go_wp2_with(fail)
  go_ret
  exact⟨rfl,hb⟩
 have e5:decide (1≤c)=true:=qF q5
 by_cases q6:c≤4
 rotate_left
 ·have e6:decide (c≤4)=false:=qG q6
  clear q1 q2 q3 q4 q5 q6
  rw [e1,e2,e3,e4,e5,e6]
  go_enter Tryz.func10,Tryz.ntmps10
  go_wp2_with(fail)
  go_ret
  exact⟨rfl,hb⟩
 have e6:decide (c≤4)=true:=qF q6
 clear q1 q2 q3 q4 q5 q6
 rw [e1,e2,e3,e4,e5,e6]
 go_enter Tryz.func10,Tryz.ntmps10
 go_wp2_with(fail)
 go_ret
 exact⟨rfl,hb⟩
end Go.Proofs.YtapgojgcmlnbgaaGreatDoor
namespace Go.Proofs.YtapgojgcmlnbgaaGreatDoor
open Go Go.RowKit
theorem Tv {w:World} {g:Nat} {e:TypeId} {size:Nat} {v:Value} {n:Nat} {xs:List Value} (h:w.ownsRow (g+1) e size v n xs):v.ownBlock=none∨v.ownBlock≠some g:=Or.inr (fun q=>by have:=(h.lt g q).1;omega)
def Fh (a b c:Int):Bool:=decide (1≤a)&&decide (a≤32)&&decide (33≤b)&&decide (b≤96)&&decide (1≤c)&&decide (c≤4)
theorem Hh {a b c:Int}:(Tryz.prog.info? 26).map (·.size)=some (#[.int .i64 a, .int .i64 b, .int .i64 c]:Array Value).size:=by kernel_rfl
def Wz (t:TypeId) (w:World) (g:Nat) (p:Plr) (vM vC:Value) (a b c:Int) (e:Ending) (w':World):Prop:=
 Below g w w'∧((Fh a b c=false∧e = .returned (sV Ly)∧Ej t w' g p vM vC)∨(Fh a b c=true∧e = .returned (sV okB)∧Ej t w' g { p with window:=a,phys:=b,wide:=c } vM vC))
theorem Agp (g:Nat) (p:Plr) (vM vC:Value) (v:Value) (a b c:Int) (w:World) (hp:Fi p) (hP:Ej 59 w g p vM vC) (ha:0≤a∧a≤4294967295) (hb:0≤b∧b≤4294967295) (hc:0≤c∧c≤4294967295)
  (hA:w.ownsRow (g+1) 27 1 v 3 ([a,b,c].map (.int .u32))) :
  Calls Tryz.prog 29 #[.pointer (some ⟨g,0,none⟩),v] w (Wz 59 w g p vM vC a b c):=by
 obtain⟨Post,hPost⟩:∃ P,P=Wz 59 w g p vM vC a b c:=⟨_,rfl⟩
 rw [←hPost]
 have HPO:=qA hPost
 clear hPost
 obtain⟨A,cap,rfl⟩:=Al hA
 obtain⟨k,o,rfl,hkB,hcell⟩:=(Ar.own hA) (by simp)
 have c0:w.cell? ⟨k,o,none⟩=some (.int .u32 a):=hcell 0 a rfl
 have c1:w.cell? ⟨k,o+1,none⟩=some (.int .u32 b):=hcell 1 b rfl
 have c2:w.cell? ⟨k,o+2,none⟩=some (.int .u32 c):=hcell 2 c rfl
 have CM:=qA (fun W=>Kq a b c W)
 have HSK:=qA (fun w' (q:Below w.heap.size w w')=>(⟨q,q.at_ hkB c0,q.at_ hkB c1,q.at_ hkB c2⟩:Below w.heap.size w w'∧w'.cell? ⟨k,o,none⟩=some (.int .u32 a)∧w'.cell? ⟨k,o+1,none⟩=some (.int .u32 b)∧w'.cell? ⟨k,o+2,none⟩=some (.int .u32 c)))
 have hmd:Fh a b c=(decide (1≤a)&&decide (a≤32)&&decide (33≤b)&&decide (b≤96)&&decide (1≤c)&&decide (c≤4)):=rfl
 rw [←hmd] at CM
 have HPL:=qA hP
 have ea:IntKind.i64.wrap a=a:=IntWalk.i64_in a (by omega)
 have eb:IntKind.i64.wrap b=b:=IntWalk.i64_in b (by omega)
 have ec:IntKind.i64.wrap c=c:=IntWalk.i64_in c (by omega)
 have hh:=hp.hart.len
 have zg:=hP.box.lt
 clear hmd hcell hA hP
 go_enter Tryz.func29,Tryz.ntmps29
 go_upto_region 1 with(fail)
 try go_simp
 go_region_held3 (fun w'=>Below w.heap.size w w'∧w'.cell? ⟨k,o,none⟩=some (.int .u32 a)∧w'.cell? ⟨k,o+1,none⟩=some (.int .u32 b)∧w'.cell? ⟨k,o+2,none⟩=some (.int .u32 c))
   (first
    |(refine HSK.out _ ?_;(repeat (first | exact qB _ _ | exact hq5 | refine Below.drew ?_ | refine Below.alloc ?_ (by first | (simp;done) | exact hq5.size | (simp;exact hq5.size)) _))))
   ((first | fail))
 clear HSK ea eb ec c0 c1 c2
 have hb1:Below w.heap.size w (w.alloc (.cells #[.int .i64 a, .int .i64 b, .int .i64 c] 26)).drew:=((qB _ _).alloc (qC _) _).drew
 have hC:Blk (w.alloc (.cells #[.int .i64 a, .int .i64 b, .int .i64 c] 26)).drew w.heap.size 26 #[.int .i64 a, .int .i64 b, .int .i64 c]:=Blk.new w _ _
 have HP1:=qA (HPL.out.ext hb1)
 obtain⟨m,hm⟩:∃ m,Fh a b c=m:=⟨_,rfl⟩
 rw [hm] at CM
 have HM:=qA hm
 clear hm
 rcases m with _ | _
 ·go_wp2_with(first
   |(refine Ab rfl 26 _ rfl w.heap.size rfl 26 _ _ hC Tryz.underlying26 rfl Hh ?_)
   |(go_at_call 10;(with_reducible refine(CM.out _).mono ?_);rintro e w2 ⟨rfl,hb2⟩))
  rw [HPO.out]
  exact⟨(hb1.trans (hb2.mono hb1.size)).mono (qS zg),Or.inl ⟨HM.out,rfl,HP1.out.ext hb2⟩⟩
 ·go_wp2_with(first
   |(refine Ab rfl 26 _ rfl w.heap.size rfl 26 _ _ hC Tryz.underlying26 rfl Hh ?_)
   |(go_at_call 10;(with_reducible refine(CM.out _).mono ?_);rintro e w2 ⟨rfl,hb2⟩;have hC2:=hC.ext hb2;have HP2:=qA (HP1.out.ext hb2))
   |(refine Ab rfl 26 _ rfl w.heap.size rfl 26 _ _ hC2 Tryz.underlying26 rfl Hh ?_)
   |go_loud (refine B7 rfl 26 _ _ rfl g 36 #[.int .i64 a, .int .i64 b, .int .i64 c] rfl rfl 59 _ HP2.out.box Hh (by rw [Q8 hh];show 36+3≤40;omega) (by simp [Value.oneCell']) ?_;intro w3 hX hg3))
  rw [Vk hh] at hX
  rw [HPO.out]
  have hz2:=hb2.size
  have hz1:=hb1.size
  exact⟨((hb1.trans (hb2.mono hb1.size)).mono (qS zg)).grown hg3 (by omega) (fun q hq=>by cases hq;exact qC g),Or.inr ⟨HM.out,rfl,hX,HP2.out.mem.kept hg3 (Tv HP2.out.mem),HP2.out.cho.kept hg3 (Tv HP2.out.cho)⟩⟩
theorem Xp:(Tryz.prog.info? 3).map (fun i=>(i.zero,i.size,i.bytes))=some (some (.int .i64 0),1,8):=by kernel_rfl
def Tz (t:TypeId) (w:World) (g:Nat) (p:Plr) (vM:Value) (l:List Int) (e:Ending) (w':World):Prop:=
 Below g w w'∧e = .returned (sV (Dz okB [(l.length:Int)]))∧∃ v,Ej t w' g { p with choices:=l } vM v
theorem Ack {B:Nat} (g:Nat) (p:Plr) (vM vC:Value) (v:Value) (l:List Int) (w:World) (V:Ig B w) (hB:B≤g) (hp:Fi p) (hP:Ej 59 w g p vM vC) (hl:l.length≤4294967296) (hr:∀ n∈l,0≤n∧n≤4294967295)
  (hA:w.ownsRow (g+1) 27 1 v l.length (l.map (.int .u32))) :
  Calls Tryz.prog 30 #[.pointer (some ⟨g,0,none⟩),v] w (Tz 59 w g p vM l):=by
 obtain⟨Post,hPost⟩:∃ P,P=Tz 59 w g p vM l:=⟨_,rfl⟩
 rw [←hPost]
 have HPO:=qA hPost
 obtain⟨A,cap,rfl⟩:=Al hA
 have hh:=hp.hart.len
 obtain⟨AC,cC,rfl⟩:=Al hP.cho
 have zg:=hP.box.lt
 have c39:w.cell? ⟨g,39,none⟩=some (.slice AC p.choices.length cC):=(hP.box.cell 39).trans (D7 hh _ _ 4)
 have f39:=hP.box.frozen 39
 obtain⟨i0,hi,hz0,hz1,hz2⟩:=info_parts Xp
 have HR:=qA hr
 have hx1:=hP.box.set 39 (.slice none 0 0)
 rw [Q6 hh] at hx1
 have HX1:=qA (qL hx1 (qL (ownsRow_setCell_below hP.mem (a:=⟨g,39,none⟩) (Nat.lt_succ_self g) (.slice none 0 0)) (ownsRow_setCell_below hA (a:=⟨g,39,none⟩) (Nat.lt_succ_self g) (.slice none 0 0))))
 clear hP hA hr hPost hx1
 go_enter Tryz.func30,Tryz.ntmps30
 go_wp2_with(fail)
 clear c39 f39
 go_loopw [12] (fun v12 wr=>∃ (k:Nat) (vC:Value),v12 = .int .i64 k∧k≤l.length∧Below g w wr∧Hid (Ej 59 wr g { p with choices:=l.take k } vM vC∧wr.ownsRow (g+1) 27 1 (.slice A l.length cap) l.length (l.map (.int .u32)))) (fun v _=>l.length - (intOf v).toNat)
 case atStart=>exact⟨0, .slice none 0 0,rfl,Nat.zero_le _,(qB _ _).setCell (qC g) _,qA ⟨⟨HX1.out.1,HX1.out.2.1,qT _ _ _ _⟩,HX1.out.2.2⟩⟩
 case round=>
  clear HX1
  obtain⟨k,vC,rfl,hk,hb,HP⟩:=hrel
  obtain⟨AC,cC,rfl⟩:=Al HP.out.1.cho
  have hbz:=hb.size
  have hlen:(l.take k).length=k:=by rw [List.length_take,Nat.min_eq_left hk]
  by_cases hlt:k<l.length
  ·obtain⟨x,hx⟩:∃ x,l[k]? = some x:=⟨l[k],by simp [hlt]⟩
   have hxb:=HR.out x (List.mem_of_getElem? hx)
   obtain⟨b,o,rfl,hbB,hc⟩:=(Ar.own HP.out.2) (by intro e;simp [e] at hlt)
   have hck:=hc k x hx
   have c39:=(HP.out.1.box.cell 39).trans (D7 (p:={ p with choices:=l.take k }) hh _ _ 4)
   have hcho:=HP.out.1.cho
   dsimp only at c39 hcho
   rw [hlen] at c39 hcho
   have HC:=qA hcho
   have ht:l.take (k+1)=l.take k++[x]:=by rw [List.take_add_one,hx];rfl
   have HT:=qA ht
   have hwr:IntKind.i64.wrap x=x:=IntWalk.i64_in x (by omega)
   have hk4:k<4294967296:=by omega
   clear hc hx hcho ht hlen
   go_wp2_with(first
    |(at_builtin;go_loud (refine B0 rfl (.tmp 20) (.tmp 23) 32 rfl (g+1) 3 i0 _ 1 8 Tryz.underlying32 hi hz0 hz1 hz2 rfl (by decide) (.slice AC k cC) k _ rfl (HC.out.alloc _) (some ⟨wr.heap.size,0,none⟩) 1 1 [.int .i64 x] rfl rfl (fun h=>by cases h) (H8 wr _ _) (by simp;rfl) (by unfold maxLen;omega) (by omega) (by have:=HP.out.1.box.lt;simp;omega) ?_;intro v7 w7 hown7 hg7;obtain⟨A7,c7,rfl⟩:=Al hown7;have hbx7:=(HP.out.1.box.alloc (.cells #[.int .i64 x] 3)).grown hg7 (fun e=>by have:=(HC.out.lt g e.symm).1;omega);have c397:w7.cell? ⟨g,39,none⟩=some (.slice AC k cC):=(hbx7.cell 39).trans ((HP.out.1.box.cell 39).symm.trans c39);have f397:=hbx7.frozen 39)))
   have hbg:Below g w w7:=(hb.alloc (by omega) _).grown hg7 (by simp;omega) (fun q hq=>by have:=(HC.out.lt q hq).1;omega)
   have hown8:=ownsRow_setCell_below hown7 (a:=⟨g,39,none⟩) (Nat.lt_succ_self g) (.slice A7 (k+1) c7)
   have hm8:=ownsRow_setCell_below ((HP.out.1.mem.alloc (.cells #[.int .i64 x] 3)).kept hg7 (Gg (HP.out.1.mem.alloc _) (HC.out.alloc (.cells #[] 5)) (by decide))) (a:=⟨g,39,none⟩) (Nat.lt_succ_self g) (.slice A7 (k+1) c7)
   have hl8:=ownsRow_setCell_below ((HP.out.2.alloc (.cells #[.int .i64 x] 3)).kept hg7 (Gg (HP.out.2.alloc _) (HC.out.alloc (.cells #[] 5)) (by decide))) (a:=⟨g,39,none⟩) (Nat.lt_succ_self g) (.slice A7 (k+1) c7)
   have hx8:=hbx7.set 39 (.slice A7 (k+1) c7)
   rw [Q6 (p:={ p with choices:=l.take k }) hh] at hx8
   have hc8:(w7.setCell ⟨g,39,none⟩ (.slice A7 (k+1) c7)).ownsRow (g+1) 3 1 (.slice A7 (k+1) c7) (l.take (k+1)).length ((l.take (k+1)).map (.int .i64)):=by
    rw [HT.out,List.map_append,qO,List.length_take,Nat.min_eq_left hk]
    exact hown8
   go_roundw
   case rel=>exact⟨k+1,_,by go_num,by omega,hbg.setCell (qC g) _,qA ⟨⟨hx8,hm8,hc8⟩,hl8⟩⟩
   case measure=>simp [intOf];omega
  ·obtain rfl:k=l.length:=by omega
   have e1:decide ((l.length:Int)<l.length)=false:=by simp
   have hP:=HP.out.1
   rw [List.take_length] at hP
   have zg2:=hP.box.lt
   have CI:=qA (fun W A (hW:Below g w W) (hS:w.heap.size≤W.heap.size) (hA:Ar W W.heap.size .i64 A [(l.length:Int)])=>N2 okB A [(l.length:Int)] 1 W (V.ext (hW.mono hB)) (qD hB (by omega)) (by simp) (by simp [okB]) (by simp only [List.mem_singleton];rintro n rfl;omega) hA)
   have HPP:=qA hP
   clear hP HP hlen
   go_wp2_with(go_at_call 49;(refine(CI.out _ _ (hb.alloc (by omega) _) (by simp;omega) (Ct [(l.length:Int)] (Blk.new wr _ _))).mono ?_);rintro e w5 ⟨rfl,hb5⟩)
   rw [HPO.out]
   have hb9:Below wr.heap.size wr w5:=((qB _ _).alloc (qC _) _).trans (hb5.mono (by simp))
   exact⟨hb.trans (hb9.mono (by omega)),rfl,_,HPP.out.ext hb9⟩
theorem N4 (c:UInt8) (s:List UInt8):∃ k r,As c s=k::r:=by
 cases h:As c s with
 |nil=>exact absurd h (Jv c s)
 |cons k r=>exact⟨k,r,rfl⟩
theorem Hv (c:UInt8) (s:List UInt8):(As c s).length≤s.length+1:=by rw [Lc];exact Nat.succ_le_succ List.count_le_length
def El (t:TypeId) (w:World) (g:Nat) (x:Plr×List UInt8) (e:Ending) (w':World):Prop:=
 Below g w w'∧e = .returned (sV x.2)∧∃ vM vC,Ej t w' g x.1 vM vC
theorem Ajv {B:Nat} (A:Option Addr) (ws:List (List UInt8)) (cap:Nat) (w:World) (V:Ig B w) (hB:B≤w.heap.size) (hl:ws.length≤4294967296) (hs:∀ x∈ws,x.length≤4294967296) (hA:H4 w w.heap.size A ws) (hn:D2 ws=none) :
  Calls Tryz.prog 27 #[.slice A ws.length cap] w fun e w'=>e = .returned (.tuple #[.slice none 0 0, .bool false])∧Below w.heap.size w w':=by
 refine(S6 A ws cap w V hB hl hs hA).mono ?_
 rintro e w' ⟨hb,⟨_,rfl⟩ | ⟨l,v,h,_⟩⟩
 ·exact⟨rfl,hb⟩
 ·rw [hn] at h;cases h
theorem Ajw {B:Nat} (A:Option Addr) (ws:List (List UInt8)) (cap:Nat) (l:List Int) (w:World) (V:Ig B w) (hB:B≤w.heap.size) (hl:ws.length≤4294967296) (hs:∀ x∈ws,x.length≤4294967296) (hA:H4 w w.heap.size A ws) (hn:D2 ws=some l) :
  Calls Tryz.prog 27 #[.slice A ws.length cap] w fun e w'=>∃ A' cap',e = .returned (.tuple #[.slice A' l.length cap', .bool true])∧w'.ownsRow w.heap.size 27 1 (.slice A' l.length cap') l.length (l.map (.int .u32))∧Below w.heap.size w w':=by
 refine(S6 A ws cap w V hB hl hs hA).mono ?_
 rintro e w' ⟨hb,⟨h,_⟩ | ⟨l',v,h,rfl,ho⟩⟩
 ·rw [hn] at h;cases h
 ·rw [hn] at h
  injection h with h
  subst h
  obtain⟨A',c',rfl⟩:=Al ho
  exact⟨A',c',rfl,ho,hb⟩
theorem Agt {w:World} {t:TypeId} {k0:List UInt8} {ws:List (List UInt8)}:H4 (w.alloc (.cells ((k0::ws).map sV).toArray t)) (w.alloc (.cells ((k0::ws).map sV).toArray t)).heap.size (some ⟨w.heap.size,1,none⟩) ws:=fun _=>⟨w.heap.size,1,rfl,by simp,fun i v hi=>by rw [World.cell?_alloc_new];simp [Nat.add_comm 1 i,hi]⟩
theorem Xz {B:Nat} {k0:List UInt8} {ws:List (List UInt8)} {w:World} (V:Ig B w) (hB:B≤w.heap.size) (hl:ws.length≤4294967296) (hs:∀ x∈ws,x.length≤4294967296) {t:TypeId} {Q:Ending→World→Prop}
  (h:∀ A cap,H4 (w.alloc (.cells ((k0::ws).map sV).toArray t)) (w.alloc (.cells ((k0::ws).map sV).toArray t)).heap.size A ws→Calls Tryz.prog 27 #[.slice A ws.length cap] (w.alloc (.cells ((k0::ws).map sV).toArray t)) Q) (A:Option Addr) (n cap:Nat) (hA:n=ws.length) (hAA:A=some ⟨w.heap.size,1,none⟩∨ws=[]) :
  Calls Tryz.prog 27 #[.slice A n cap] (w.alloc (.cells ((k0::ws).map sV).toArray t)) Q:=by
 subst hA
 refine h A cap ?_
 rcases hAA with rfl | rfl
 ·exact Agt
 ·exact fun h=>absurd rfl h
theorem Ajk {B:Nat} (g:Nat) (p:Plr) (vM vC:Value) (s k0:List UInt8) (ws:List (List UInt8)) (w:World) (V:Ig B w) (hB:B≤g) (hP:Ej 59 w g p vM vC) (hl:s.length≤2000000) (hws:As 32 s=k0::ws) (hn:D2 ws=none) :
  Calls Tryz.prog 16 #[.pointer (some ⟨g,0,none⟩),sV s] w (El 59 w g (p,Ly)):=by
 obtain⟨Post,hPost⟩:∃ P,P=El 59 w g (p,Ly):=⟨_,rfl⟩
 rw [←hPost]
 have HPO:=qA hPost
 have zg:=hP.box.lt
 have CS:=Sf 32 s w V (by omega)
 have hlw:=Hv 32 s
 rw [hws] at CS hlw
 have hs:∀ x∈ws,x.length≤4294967296:=fun x hx=>by have:=Ds 32 s x (by rw [hws];exact qP _ hx);omega
 simp only [List.length_cons] at hlw
 have CN:=qA (fun A n cap hA hAA=>Xz (k0:=k0) (ws:=ws) (t:=9) V (by omega) (by omega) hs (fun A cap hst=>Ajv A ws cap _ (V.ext ((qB B w).alloc (by omega) _)) (by simp;omega) (by omega) hs hst hn) A n cap hA hAA)
 have CSH:=qA CS
 have HPP:=qA hP
 clear CS hPost hP hs hn hws
 have hb1:Below w.heap.size w (w.alloc (.cells ((k0::ws).map sV).toArray 9)):=(qB _ _).alloc (qC _) _
 have HB1:=qA hb1
 clear hb1
 go_enter Tryz.func16,Tryz.ntmps16
 rcases ws with _ | ⟨x,ws⟩
 all_goals (
  go_wp2_with(first
   |(go_at_call 15;(with_reducible refine CSH.out.mono ?_);rintro e w2 ⟨rfl,rfl⟩)
   |(go_at_call 27;go_loud (refine(CN.out _ _ _ rfl (by first | exact Or.inl rfl | exact Or.inr rfl | exact Or.inr trivial)).mono ?_;rintro e w3 ⟨rfl,hb3⟩)))
  rw [HPO.out]
  have hb9:=HB1.out.trans (hb3.mono HB1.out.size)
  exact⟨hb9.mono (qS zg),rfl,_,_,HPP.out.ext hb9⟩)
end Go.Proofs.YtapgojgcmlnbgaaGreatDoor
