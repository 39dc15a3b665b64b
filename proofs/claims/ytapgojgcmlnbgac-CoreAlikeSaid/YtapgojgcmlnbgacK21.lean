/- Parts of a proof. -/
import Derived.Test.YtapgojgcmlnbgacProg
import Derived.Test.YtapgojgcmlnbgacK02
import Derived.Test.YtapgojgcmlnbgacK18
import Derived.WalkLawsBesides
import Derived.Lib.Hide
import Derived.Test.YtapgojgcmlnbgacK04
import Derived.OwnWalk
import Derived.Test.YtapgojgcmlnbgacK19
import Derived.Test.YtapgojgcmlnbgacK20
set_option linter.unusedSimpArgs false
set_option linter.unusedVariables false
set_option maxRecDepth 100000
set_option maxHeartbeats 16000000
namespace Go.Proofs.Ytapgojgcmlnbgac
open Go.RowKit
theorem many_any (a:Acc) (w:World):Calls Try.prog 93 #[.agg #[.int .i64 a.seq, .bool a.store, .bool a.known, .int .u32 a.at_, .int .i64 a.many, .int .u32 a.data, .bool a.done]] w fun e w'=>e = .returned (.int .u64 (manyI a.many))∧Below w.heap.size w w':=by
 have hb:=(Below.refl w.heap.size w).alloc (Nat.le_refl _) (.cells a.cells 82)
 by_cases h1:a.many<0
 ·have e:manyI a.many=0:=by unfold manyI;omega
  rw [e]
  go_enter Try.func93,Try.ntmps93
  go_wp2
  go_ret
  exact⟨by first | rfl | exact congrArg (fun z:Int=>Ending.returned (.int .u64 z)) (show min (max a.many 0) 4=0 by omega),hb⟩
 ·by_cases h2:4<a.many
  ·have e:manyI a.many=4:=by unfold manyI;omega
   rw [e]
   go_enter Try.func93,Try.ntmps93
   go_wp2
   go_ret
   exact⟨by first | rfl | exact congrArg (fun z:Int=>Ending.returned (.int .u64 z)) (show min (max a.many 0) 4=4 by omega),hb⟩
  ·have e:manyI a.many=a.many:=by unfold manyI;omega
   rw [e]
   go_enter Try.func93,Try.ntmps93
   go_wp2
   go_ret
   exact⟨by first | rfl | exact congrArg (fun z:Int=>Ending.returned (.int .u64 z)) (show min (max a.many 0) 4=a.many by omega),hb⟩
theorem has_any (a:Acc) (p:Int) (w:World) (h0:0≤a.at_) (h1:a.at_≤4294967295) (_h2:0≤p) (_h3:p≤18446744073709551615) :
  Calls Try.prog 85 #[.agg #[.int .i64 a.seq, .bool a.store, .bool a.known, .int .u32 a.at_, .int .i64 a.many, .int .u32 a.data, .bool a.done], .int .u64 p] w fun e w'=>e = .returned (.bool (hasB a p))∧Below w.heap.size w w':=by
 have l1:=manyI_lo a.many
 have l2:=manyI_hi a.many
 have hb:=(Below.refl w.heap.size w).alloc (Nat.le_refl _) (.cells a.cells 82)
 generalize hx:hasB a p=x
 have Hx:=Lib.hid hx
 clear hx
 go_enter Try.func85,Try.ntmps85
 go_wp2_with fail
 refine wp_region_below (by kernel_rfl) (by kernel_rfl) ?_
 repeat'(first
  |refine wpMix_plain rfl ?_
  |(refine' wpMixW_quiet _ (fun wq hwq K hK=>?_) ?_ ?_;rotate_left 1;(· obtain⟨hcq,hfq⟩:=bcell hwq;go_wp2_with(go_at_call 93;refine(many_any a _).mono ?_;rintro e w' ⟨rfl,hb⟩;exact hK _ (hwq.trans (hb.mono hwq.size)));all_goals exact hK _ hwq);rfl)
  |((first | refine wpMix_guardT rfl rfl rfl ?_ ?_ | refine wpMix_guardF rfl rfl rfl ?_ ?_)<;>intro hc<;>first | (cases hc;done) | ((try cases hc);simp only [Act.put,sA,sS,sZ]))
  |refine wpMix_guardU rfl rfl rfl ?_)
 all_goals
  refine wpMix_nil ?_
  intro w1 hw1
  go_wp2
  go_ret
  refine⟨?_,hb.trans (hw1.mono (by simp))⟩
  rw [←Hx.out]
  simp [hasB, *]
theorem meet_any (s a:Acc) (w:World) (hs:s.Wf) (ha:a.Wf) :
  Calls Try.prog 83 #[.agg #[.int .i64 s.seq, .bool s.store, .bool s.known, .int .u32 s.at_, .int .i64 s.many, .int .u32 s.data, .bool s.done], .agg #[.int .i64 a.seq, .bool a.store, .bool a.known, .int .u32 a.at_, .int .i64 a.many, .int .u32 a.data, .bool a.done]] w
   fun e w'=>e = .returned (.bool (meetB s a))∧Below w.heap.size w w':=by
 have l1:=manyI_lo s.many
 have l2:=manyI_hi s.many
 have sa0:=hs.at0
 have sa1:=hs.at1
 have aa0:=ha.at0
 have aa1:=ha.at1
 generalize hx:meetB s a=x
 have Hx:=Lib.hid hx
 clear hx
 go_enter Try.func83,Try.ntmps83
 go_wp2_with(go_at_call 93;refine(many_any s _).mono ?_;rintro e w1 ⟨rfl,hb⟩)
 have hbw:=((((Below.refl w.heap.size w).alloc (Nat.le_refl _) (.cells s.cells 82)).alloc (by simp) (.cells a.cells 82))).trans (hb.mono (by simp;omega))
 have hs1:∀ i,w1.cell? ⟨w.heap.size,i,none⟩=s.cells[i]? := fun i=>by
  rw [hb.cell (by simp;omega),World.cell?_alloc_lt _ _ _ (by simp)]
  exact World.cell?_alloc_new w _ _ i
 have ha1:∀ i,w1.cell? ⟨w.heap.size+1,i,none⟩=a.cells[i]? := fun i=>by
  rw [hb.cell (by simp)]
  have:=World.cell?_alloc_new (w.alloc (.cells s.cells 82)) a.cells 82 i
  rwa [World.size_alloc] at this
 have hz:=hb.size
 simp only [World.size_alloc] at hz
 clear hb
 go_loopw [9] (fun v wr=>∃ k:Nat,v = .int .u64 k∧(k:Int)≤manyI s.many∧Below (w.heap.size+2) w1 wr∧Hid (meetFrom s a (4 - k)=x)) (fun v _=>4 - (intOf v).toNat)
 case atStart=>exact⟨0,rfl,l1,Below.refl _ _,Hx⟩
 case round=>
  obtain⟨k,rfl,hk,hbr,HR⟩:=hrel
  obtain⟨hc,hf⟩:=bcell hbr
  have hzr:=hbr.size
  by_cases hlt:(k:Int)<manyI s.many
  ·have hst:=meetFrom_step s a k (by omega)
   have HS:=Lib.hid hst
   clear hst
   rcases h1:hasB s (s.at_+k) with _ | _
   ·go_wp2_with(go_at_call 85;refine(has_any s _ _ sa0 sa1 (by omega) (by omega)).mono ?_;rintro e w2 ⟨rfl,hb2⟩;rw [h1])
    go_roundw
    case rel=>exact⟨k+1,by go_num,by omega,hbr.trans (hb2.mono (by omega)),by rw [←HR.out,HS.out,h1];rfl⟩
    case measure=>simp [intOf];omega
   ·rcases h2:hasB a (s.at_+k) with _ | _
    ·go_wp2_with(first
      |(go_at_call 85;((with_reducible refine(has_any s _ _ sa0 sa1 (by omega) (by omega)).mono ?_);rintro e w2 ⟨rfl,hb2⟩;rw [h1];have ha2:∀ i,w2.cell? ⟨w.heap.size+1,i,none⟩=a.cells[i]? := fun i=>by rw [hb2.cell (by simp;omega),hc _ _ (by omega),ha1]))
      |(go_at_call 85;((with_reducible refine(has_any a _ _ aa0 aa1 (by omega) (by omega)).mono ?_);rintro e w3 ⟨rfl,hb3⟩;rw [h2])))
     go_roundw
     case rel=>exact⟨k+1,by go_num,by omega,(hbr.trans (hb2.mono (by omega))).trans (hb3.mono (by have:=hb2.size;omega)),by rw [←HR.out,HS.out,h1,h2];rfl⟩
     case measure=>simp [intOf];omega
    ·go_wp2_with(first
      |(go_at_call 85;((with_reducible refine(has_any s _ _ sa0 sa1 (by omega) (by omega)).mono ?_);rintro e w2 ⟨rfl,hb2⟩;rw [h1];have ha2:∀ i,w2.cell? ⟨w.heap.size+1,i,none⟩=a.cells[i]? := fun i=>by rw [hb2.cell (by simp;omega),hc _ _ (by omega),ha1]))
      |(go_at_call 85;((with_reducible refine(has_any a _ _ aa0 aa1 (by omega) (by omega)).mono ?_);rintro e w3 ⟨rfl,hb3⟩;rw [h2])))
     go_ret
     have e:x=true:=by rw [←HR.out,HS.out,h1,h2];rfl
     rw [e]
     exact⟨rfl,((hbw.trans (hbr.mono (by omega))).trans (hb2.mono (by omega))).trans (hb3.mono (by have:=hb2.size;omega))⟩
  ·go_wp2_with fail
   go_ret
   have e:x=false:=by rw [←HR.out,meetFrom_end s a k (by omega)]
   rw [e]
   exact⟨rfl,hbw.trans (hbr.mono (by omega))⟩
def accOrZ:Option Acc→Acc
 |some a=>a
 |none=>⟨0,false,false,0,0,0,false⟩
theorem byteAt_any (A:Option Addr) (cap:Nat) (l:List Acc) (A':Option Addr) (cap':Nat) (m:List Int) (seq p:Int) (w:World) (hl:l.length≤9223372036854775807) (_hl':m.length≤9223372036854775807)
  (hwf:∀ a∈l,a.Wf) (hA:AccsAt w w.heap.size A l) (hA':IntsAt w w.heap.size .u8 A' m) (h0:0≤p) (h1:p≤4294967295) (hp:p<m.length) :
  Calls Try.prog 67 #[.slice A l.length cap, .slice A' m.length cap', .int .i64 seq, .int .u32 p] w
   fun e w'=>e = .returned (.int .u8 (byteP l m seq p))∧Below w.heap.size w w':=by
 obtain⟨bA,oA,rfl,hbA,hcA⟩:=hA'.at_ (n:=p.toNat) (by omega)
 have cP:=hcA p.toNat (by omega)
 clear hcA hA'
 generalize hx:byteP l m seq p=x
 have HB:Hid (byteOf m p (l.foldl (bestStep seq p) none)=x):=Lib.hid hx
 clear hx
 go_enter Try.func67,Try.ntmps67
 go_wp2_with fail
 refine wp_gen ?_
 intro W1 hW1
 have hbk:Blk W1 w.heap.size 82 (Acc.cells (accOrZ none)):=by rw [hW1];exact Blk.new _ _ _
 have hb1:Below w.heap.size w W1:=by rw [hW1];exact(Below.refl _ _).alloc (Nat.le_refl _) _
 clear hW1
 go_loopw [10,16] (fun v10 v16 wr=>∃ (k:Nat) (best:Option Acc),v10 = .bool best.isSome∧v16 = .int .i64 k∧k≤l.length∧Blk wr w.heap.size 82 (Acc.cells (accOrZ best))∧Below w.heap.size w wr∧Hid (byteOf m p ((l.drop k).foldl (bestStep seq p) best)=x)∧(∀ c,best=some c→hasB c p=true∧c.Wf)) (fun _ v _=>l.length - (intOf v).toNat)
 case atStart=>exact⟨0,none,rfl,rfl,by omega,hbk,hb1,HB,fun c h=>by cases h⟩
 case round=>
  obtain⟨k,best,rfl,rfl,hk,hbk,hbr,HR,hbest⟩:=hrel
  have hgb:=hbk.lt
  have hcg:=hbk.cell
  have hfg:=hbk.frozen
  by_cases hlt:k<l.length
  ·obtain⟨b,o,a,rfl,hbB,ha,hd,hmem,hcs⟩:=(hA.below hbr).at_ hlt
   have hwa:=hwf a hmem
   have HR':Hid (byteOf m p ((l.drop (k+1)).foldl (bestStep seq p) (bestStep seq p best a))=x):=by
    have h:=HR.out
    rw [hd,List.foldl_cons] at h
    exact h
   clear hd ha HR
   obtain⟨d0,d1,d2,d3,d4,d5,d6⟩:=hcs
   by_cases hgo:(a.store&&a.known&&decide (a.seq<seq)&&hasB a p&&notNewer a best)=true
   ·have HR2:Hid (byteOf m p ((l.drop (k+1)).foldl (bestStep seq p) (some a))=x):=by
     have h:=HR'.out
     rw [show bestStep seq p best a=some a by unfold bestStep;rw [if_pos hgo]] at h
     exact h
    clear HR'
    simp only [Bool.and_eq_true] at hgo
    obtain⟨⟨⟨⟨g1,g2⟩,g3⟩,g4⟩,g5⟩:=hgo
    have w0:=hwa.at0
    have w1':=hwa.at1
    obtain⟨aq,ast,akn,aat,amn,adt,adn⟩:=a
    dsimp only at d0 d1 d2 d3 d4 d5 d6 g1 g2 g3 w0 w1'
    subst g1 g2
    rcases best with _ | c
    ·clear g5 hcg hfg
     go_wp2_with(go_at_call 85;((with_reducible refine(has_any ⟨aq,true,true,aat,amn,adt,adn⟩ p _ w0 w1' h0 (by omega)).mono ?_);rintro e w2 ⟨rfl,hb2⟩;rw [g4];have hn2:=((Blk.new wr _ _).ext hb2).cell;have hg2:=((hbk.alloc _).ext hb2).frozen;have hgc2:=((hbk.alloc _).ext hb2).cell;simp only [Acc.cells,accOrZ] at hgc2))
     go_roundw
     case rel=>exact⟨k+1,some ⟨aq,true,true,aat,amn,adt,adn⟩,rfl,by go_num,by omega,(((((((((hbk.alloc _).ext hb2).set 0 _).set 1 _).set 2 _).set 3 _).set 4 _).set 5 _).set 6 _),((((((((hbr.alloc hbr.size _).trans (hb2.mono (by simp;omega))).setCell (Nat.le_refl _) _).setCell (Nat.le_refl _) _).setCell (Nat.le_refl _) _).setCell (Nat.le_refl _) _).setCell (Nat.le_refl _) _).setCell (Nat.le_refl _) _).setCell (Nat.le_refl _) _,HR2,fun c hc=>by injection hc with hc;subst hc;exact⟨g4,hwa⟩⟩
     case measure=>simp [intOf];omega
    ·obtain⟨cq,cst,ckn,cat,cmn,cdt,cdn⟩:=c
     have g5':decide (cq≤aq)=true:=g5
     clear g5 hcg hfg
     go_wp2_with(go_at_call 85;((with_reducible refine(has_any ⟨aq,true,true,aat,amn,adt,adn⟩ p _ w0 w1' h0 (by omega)).mono ?_);rintro e w2 ⟨rfl,hb2⟩;rw [g4];have hn2:=((Blk.new wr _ _).ext hb2).cell;have hg2:=((hbk.alloc _).ext hb2).frozen;have hgc2:=((hbk.alloc _).ext hb2).cell;simp only [Acc.cells,accOrZ] at hgc2))
     go_roundw
     case rel=>exact⟨k+1,some ⟨aq,true,true,aat,amn,adt,adn⟩,rfl,by go_num,by omega,(((((((((hbk.alloc _).ext hb2).set 0 _).set 1 _).set 2 _).set 3 _).set 4 _).set 5 _).set 6 _),((((((((hbr.alloc hbr.size _).trans (hb2.mono (by simp;omega))).setCell (Nat.le_refl _) _).setCell (Nat.le_refl _) _).setCell (Nat.le_refl _) _).setCell (Nat.le_refl _) _).setCell (Nat.le_refl _) _).setCell (Nat.le_refl _) _).setCell (Nat.le_refl _) _,HR2,fun c hc=>by injection hc with hc;subst hc;exact⟨g4,hwa⟩⟩
     case measure=>simp [intOf];omega
   ·have HR2:Hid (byteOf m p ((l.drop (k+1)).foldl (bestStep seq p) best)=x):=by
     have h:=HR'.out
     rw [show bestStep seq p best a=best by unfold bestStep;rw [if_neg hgo]] at h
     exact h
    clear HR'
    have w0:=hwa.at0
    have w1':=hwa.at1
    clear hwa hcg hfg
    obtain⟨aq,ast,akn,aat,amn,adt,adn⟩:=a
    dsimp only at d0 d1 d2 d3 d4 d5 d6 hgo w0 w1'
    rcases ast with _ | _
    ·clear hgo
     go_wp2_with fail
     go_roundw
     case rel=>exact⟨k+1,best,rfl,by go_num,by omega,hbk.alloc _,hbr.alloc hbr.size _,HR2,hbest⟩
     case measure=>simp [intOf];omega
    rcases akn with _ | _
    ·clear hgo
     go_wp2_with fail
     go_roundw
     case rel=>exact⟨k+1,best,rfl,by go_num,by omega,hbk.alloc _,hbr.alloc hbr.size _,HR2,hbest⟩
     case measure=>simp [intOf];omega
    rcases g3:decide (aq<seq) with _ | _
    ·clear hgo
     go_wp2_with fail
     go_roundw
     case rel=>exact⟨k+1,best,rfl,by go_num,by omega,hbk.alloc _,hbr.alloc hbr.size _,HR2,hbest⟩
     case measure=>simp [intOf];omega
    rcases g4:hasB ⟨aq,true,true,aat,amn,adt,adn⟩ p with _ | _
    ·clear hgo
     go_wp2_with(go_at_call 85;((with_reducible refine(has_any ⟨aq,true,true,aat,amn,adt,adn⟩ p _ w0 w1' h0 (by omega)).mono ?_);rintro e w2 ⟨rfl,hb2⟩;rw [g4]))
     go_roundw
     case rel=>exact⟨k+1,best,rfl,by go_num,by omega,(hbk.alloc _).ext hb2,(hbr.alloc hbr.size _).trans (hb2.mono (by simp;omega)),HR2,hbest⟩
     case measure=>simp [intOf];omega
    rcases best with _ | c
    ·simp [g3,g4,notNewer] at hgo
    ·obtain⟨cq,cst,ckn,cat,cmn,cdt,cdn⟩:=c
     have g5':decide (cq≤aq)=false:=by
      simp only [g3,g4,notNewer,Bool.and_true,Bool.true_and,Bool.not_eq_true] at hgo
      exact hgo
     clear hgo
     go_wp2_with(go_at_call 85;((with_reducible refine(has_any ⟨aq,true,true,aat,amn,adt,adn⟩ p _ w0 w1' h0 (by omega)).mono ?_);rintro e w2 ⟨rfl,hb2⟩;rw [g4];have hn2:=((Blk.new wr _ _).ext hb2).cell;have hg2:=((hbk.alloc _).ext hb2).frozen;have hgc2:=((hbk.alloc _).ext hb2).cell;simp only [Acc.cells,accOrZ] at hgc2))
     go_roundw
     case rel=>exact⟨k+1,some ⟨cq,cst,ckn,cat,cmn,cdt,cdn⟩,rfl,by go_num,by omega,(hbk.alloc _).ext hb2,(hbr.alloc hbr.size _).trans (hb2.mono (by simp;omega)),HR2,hbest⟩
     case measure=>simp [intOf];omega
  ·obtain rfl:k=l.length:=by omega
   have HR':Hid (byteOf m p best=x):=by
    have h:=HR.out
    rw [List.drop_length] at h
    exact h
   clear HR
   rcases best with _ | c
   ·have cP':=(hbr.cell (p:=⟨bA,oA+p.toNat,none⟩) hbA).trans cP
    clear cP
    have hy:=HR'.out
    rw [show byteOf m p none=m.getD p.toNat 0 from rfl] at hy
    rw [hy] at cP'
    clear hy HR'
    go_wp2_with fail
    go_ret
    exact⟨rfl,hbr⟩
   ·obtain⟨hc1,hc2⟩:=hbest c rfl
    have d0:=hc2.data0
    have d1:=hc2.data1
    have e0:=hc2.at0
    have e1:=hc2.at1
    have l2:=manyI_hi c.many
    unfold hasB at hc1
    simp only [Bool.and_eq_true,decide_eq_true_eq] at hc1
    obtain⟨⟨hc3,hc4⟩,_⟩:=hc1
    obtain⟨cq,cst,ckn,cat,cmn,cdt,cdn⟩:=c
    simp only [Acc.cells,accOrZ] at hcg
    dsimp only at d0 d1 e0 e1 l2 hc3 hc4
    go_wp2_with fail
    go_ret
    refine⟨?_,hbr⟩
    rw [←HR'.out]
    refine ret_int ?_
    show _=cdt / ((2 ^ (8*(p - cat).toNat):Nat):Int)%256
    rw [show(8*(p - cat)).toNat=8*(p - cat).toNat by omega,Int.natCast_pow]
    rfl
theorem sureB_step (seq:Int) (s:Bool) (a:Acc) (l:List Acc):(a::l).foldl (sureStep seq) s=l.foldl (sureStep seq) (s&&(!a.store || decide (seq≤a.seq) || a.known)):=rfl
theorem see_any (A:Option Addr) (cap:Nat) (l:List Acc) (A':Option Addr) (cap':Nat) (m:List Int) (seq p many:Int) (w:World) (hl:l.length≤9223372036854775807) (hl':m.length≤9223372036854775807)
  (hwf:∀ a∈l,a.Wf) (hm:Bytes m) (hA:AccsAt w w.heap.size A l) (hA':IntsAt w w.heap.size .u8 A' m) (h0:0≤p) (h1:p≤4294967295) :
  Calls Try.prog 37 #[.slice A l.length cap, .slice A' m.length cap', .int .i64 seq, .int .u32 p, .int .i64 many] w
   fun e w'=>e = .returned (.tuple #[.int .u32 (seeP l m seq p many).1, .bool (seeP l m seq p many).2.1, .bool (seeP l m seq p many).2.2])∧Below w.heap.size w w':=by
 have hbb:=Below.refl w.heap.size w
 rcases hok:seeOk m p many with _ | _
 ·have e:seeP l m seq p many=(0,false,false):=by unfold seeP;rw [if_neg (by rw [hok];exact Bool.false_ne_true)]
  rw [e]
  clear e
  by_cases e1:many=1
  ·subst e1
   have hth:thereB m.length p 1=false:=by
    simpa [seeOk] using hok
   clear hok
   go_enter Try.func37,Try.ntmps37
   go_wp2_with(go_at_call 53;refine(there_any _ _ _ _ 1 _ (by omega) (by omega) (by omega) (by omega) (by omega)).mono ?_;rintro e w1 ⟨rfl,rfl⟩;rw [hth])
   go_ret3
   exact⟨rfl,hbb⟩
  by_cases e2:many=2
  ·subst e2
   have hth:thereB m.length p 2=false:=by
    simpa [seeOk] using hok
   clear hok
   go_enter Try.func37,Try.ntmps37
   go_wp2_with(go_at_call 53;refine(there_any _ _ _ _ 2 _ (by omega) (by omega) (by omega) (by omega) (by omega)).mono ?_;rintro e w1 ⟨rfl,rfl⟩;rw [hth])
   go_ret3
   exact⟨rfl,hbb⟩
  by_cases e4:many=4
  ·subst e4
   have hth:thereB m.length p 4=false:=by
    simpa [seeOk] using hok
   clear hok
   go_enter Try.func37,Try.ntmps37
   go_wp2_with(go_at_call 53;refine(there_any _ _ _ _ 4 _ (by omega) (by omega) (by omega) (by omega) (by omega)).mono ?_;rintro e w1 ⟨rfl,rfl⟩;rw [hth])
   go_ret3
   exact⟨rfl,hbb⟩
  ·clear hok
   go_enter Try.func37,Try.ntmps37
   go_wp2_with fail
   go_ret3
   exact⟨rfl,hbb⟩
 ·have hmany:many=1∨many=2∨many=4:=by
   have:=hok
   simp only [seeOk,Bool.and_eq_true,Bool.or_eq_true,decide_eq_true_eq] at this
   omega
  obtain rfl | rfl | rfl:=hmany
  ·
   have hth:thereB m.length p 1=true:=by
    simp only [seeOk,Bool.and_eq_true] at hok
    exact hok.2
   have hth2:=hth
   unfold thereB at hth2
   simp only [Bool.and_eq_true,decide_eq_true_eq] at hth2
   obtain⟨⟨_,t1⟩,t2⟩:=hth2
   have e:seeP l m seq p 1=(seeW l m seq p 1,true,sureB l seq):=by unfold seeP;rw [if_pos hok]
   rw [e]
   have hL:seeW l m seq p 1=byteP l m seq p:=by unfold seeW;simp
   rw [hL]
   clear e hL hok
   (obtain⟨p0,q0⟩:=byteP_bounds hwf hm seq p;generalize hx0:byteP l m seq p=x0 at p0 q0 ⊢;have HX0:=Lib.hid hx0;clear hx0)
   generalize hS:sureB l seq=S
   have HS:Hid (l.foldl (sureStep seq) true=S):=Lib.hid hS
   clear hS
   go_enter Try.func37,Try.ntmps37
   go_wp2_with(go_at_call 53;refine(there_any _ _ _ _ 1 _ (by omega) (by omega) (by omega) (by omega) (by omega)).mono ?_;rintro e w1 ⟨rfl,rfl⟩;rw [hth])
   refine wp_loop_rounds 2 ?_
   repeat any_goals (rw [rounds_succ];go_wp2_with(go_at_call 67;refine(byteAt_any A cap l A' cap' m seq _ _ hl hl' hwf ((hA.below hbb).mono hbb.size) ((hA'.below hbb).mono hbb.size) (by omega) (by omega) (by omega)).mono ?_;rintro e w2 ⟨rfl,hb2⟩;have hbb:=hbb.trans (hb2.mono hbb.size);rw [HX0.out]))
   go_loopw [15,57] (fun v15 v57 wr=>∃ (k:Nat) (s:Bool),v15 = .bool s∧v57 = .int .i64 k∧k≤l.length∧Below w.heap.size w wr∧Hid ((l.drop k).foldl (sureStep seq) s=S)) (fun _ v _=>l.length - (intOf v).toNat)
   case atStart=>exact⟨0,true,rfl,rfl,by omega,hbb,HS⟩
   case round=>
    obtain⟨k,s,rfl,rfl,hk,hbr,HR⟩:=hrel
    by_cases hlt:k<l.length
    ·obtain⟨b,o,a,rfl,hbB,ha,hd,hmem,hcs⟩:=(hA.below hbr).at_ hlt
     have HR2:Hid ((l.drop (k+1)).foldl (sureStep seq) (s&&(!a.store || decide (seq≤a.seq) || a.known))=S):=by
      have h:=HR.out
      rw [hd,sureB_step] at h
      exact h
     clear hd ha HR hmem
     obtain⟨d0,d1,d2,d3,d4,d5,d6⟩:=hcs
     obtain⟨aq,ast,akn,aat,amn,adt,adn⟩:=a
     dsimp only at d0 d1 d2 d3 d4 d5 d6 HR2
     rcases hq:decide (seq≤aq) with _ | _<;>rw [hq] at HR2<;>rcases s with _ | _<;>rcases ast with _ | _<;>rcases akn with _ | _
     all_goals
      go_wp2_with fail
      go_roundw
      case rel=>exact⟨k+1,_,rfl,by go_num,by omega,hbr.alloc hbr.size _,HR2⟩
      case measure=>simp [intOf];omega
    ·obtain rfl:k=l.length:=by omega
     have hs:s=S:=by
      have h:=HR.out
      rw [List.drop_length] at h
      exact h
     subst hs
     clear HR HS
     go_wp2_with fail
     go_ret3
     refine⟨?_,hbr⟩
     show Ending.returned (.tuple #[.int .u32 _, .bool true, .bool _])=_
     rw [or0 x0 p0 q0]
  ·
   have hth:thereB m.length p 2=true:=by
    simp only [seeOk,Bool.and_eq_true] at hok
    exact hok.2
   have hth2:=hth
   unfold thereB at hth2
   simp only [Bool.and_eq_true,decide_eq_true_eq] at hth2
   obtain⟨⟨_,t1⟩,t2⟩:=hth2
   have e:seeP l m seq p 2=(seeW l m seq p 2,true,sureB l seq):=by unfold seeP;rw [if_pos hok]
   rw [e]
   have hL:seeW l m seq p 2=byteP l m seq p+256*byteP l m seq (p+1):=by unfold seeW;simp
   rw [hL]
   clear e hL hok
   (obtain⟨p0,q0⟩:=byteP_bounds hwf hm seq p;generalize hx0:byteP l m seq p=x0 at p0 q0 ⊢;have HX0:=Lib.hid hx0;clear hx0;obtain⟨p1,q1⟩:=byteP_bounds hwf hm seq (p+1);generalize hx1:byteP l m seq (p+1)=x1 at p1 q1 ⊢;have HX1:=Lib.hid hx1;clear hx1)
   generalize hS:sureB l seq=S
   have HS:Hid (l.foldl (sureStep seq) true=S):=Lib.hid hS
   clear hS
   go_enter Try.func37,Try.ntmps37
   go_wp2_with(go_at_call 53;refine(there_any _ _ _ _ 2 _ (by omega) (by omega) (by omega) (by omega) (by omega)).mono ?_;rintro e w1 ⟨rfl,rfl⟩;rw [hth])
   refine wp_loop_rounds 3 ?_
   repeat any_goals (rw [rounds_succ];go_wp2_with(go_at_call 67;refine(byteAt_any A cap l A' cap' m seq _ _ hl hl' hwf ((hA.below hbb).mono hbb.size) ((hA'.below hbb).mono hbb.size) (by omega) (by omega) (by omega)).mono ?_;rintro e w2 ⟨rfl,hb2⟩;have hbb:=hbb.trans (hb2.mono hbb.size);(first | rw [HX0.out] | rw [HX1.out])))
   go_loopw [15,57] (fun v15 v57 wr=>∃ (k:Nat) (s:Bool),v15 = .bool s∧v57 = .int .i64 k∧k≤l.length∧Below w.heap.size w wr∧Hid ((l.drop k).foldl (sureStep seq) s=S)) (fun _ v _=>l.length - (intOf v).toNat)
   case atStart=>exact⟨0,true,rfl,rfl,by omega,hbb,HS⟩
   case round=>
    obtain⟨k,s,rfl,rfl,hk,hbr,HR⟩:=hrel
    by_cases hlt:k<l.length
    ·obtain⟨b,o,a,rfl,hbB,ha,hd,hmem,hcs⟩:=(hA.below hbr).at_ hlt
     have HR2:Hid ((l.drop (k+1)).foldl (sureStep seq) (s&&(!a.store || decide (seq≤a.seq) || a.known))=S):=by
      have h:=HR.out
      rw [hd,sureB_step] at h
      exact h
     clear hd ha HR hmem
     obtain⟨d0,d1,d2,d3,d4,d5,d6⟩:=hcs
     obtain⟨aq,ast,akn,aat,amn,adt,adn⟩:=a
     dsimp only at d0 d1 d2 d3 d4 d5 d6 HR2
     rcases hq:decide (seq≤aq) with _ | _<;>rw [hq] at HR2<;>rcases s with _ | _<;>rcases ast with _ | _<;>rcases akn with _ | _
     all_goals
      go_wp2_with fail
      go_roundw
      case rel=>exact⟨k+1,_,rfl,by go_num,by omega,hbr.alloc hbr.size _,HR2⟩
      case measure=>simp [intOf];omega
    ·obtain rfl:k=l.length:=by omega
     have hs:s=S:=by
      have h:=HR.out
      rw [List.drop_length] at h
      exact h
     subst hs
     clear HR HS
     go_wp2_with fail
     go_ret3
     refine⟨?_,hbr⟩
     show Ending.returned (.tuple #[.int .u32 _, .bool true, .bool _])=_
     rw [or0 x0 p0 q0,or8 x0 x1 p0 (by omega) p1 q1]
  ·
   have hth:thereB m.length p 4=true:=by
    simp only [seeOk,Bool.and_eq_true] at hok
    exact hok.2
   have hth2:=hth
   unfold thereB at hth2
   simp only [Bool.and_eq_true,decide_eq_true_eq] at hth2
   obtain⟨⟨_,t1⟩,t2⟩:=hth2
   have e:seeP l m seq p 4=(seeW l m seq p 4,true,sureB l seq):=by unfold seeP;rw [if_pos hok]
   rw [e]
   have hL:seeW l m seq p 4=byteP l m seq p+256*byteP l m seq (p+1)+65536*byteP l m seq (p+2)+16777216*byteP l m seq (p+3):=by unfold seeW;simp
   rw [hL]
   clear e hL hok
   (obtain⟨p0,q0⟩:=byteP_bounds hwf hm seq p;generalize hx0:byteP l m seq p=x0 at p0 q0 ⊢;have HX0:=Lib.hid hx0;clear hx0;obtain⟨p1,q1⟩:=byteP_bounds hwf hm seq (p+1);generalize hx1:byteP l m seq (p+1)=x1 at p1 q1 ⊢;have HX1:=Lib.hid hx1;clear hx1;obtain⟨p2,q2⟩:=byteP_bounds hwf hm seq (p+2);generalize hx2:byteP l m seq (p+2)=x2 at p2 q2 ⊢;have HX2:=Lib.hid hx2;clear hx2;obtain⟨p3,q3⟩:=byteP_bounds hwf hm seq (p+3);generalize hx3:byteP l m seq (p+3)=x3 at p3 q3 ⊢;have HX3:=Lib.hid hx3;clear hx3)
   generalize hS:sureB l seq=S
   have HS:Hid (l.foldl (sureStep seq) true=S):=Lib.hid hS
   clear hS
   go_enter Try.func37,Try.ntmps37
   go_wp2_with(go_at_call 53;refine(there_any _ _ _ _ 4 _ (by omega) (by omega) (by omega) (by omega) (by omega)).mono ?_;rintro e w1 ⟨rfl,rfl⟩;rw [hth])
   refine wp_loop_rounds 5 ?_
   repeat any_goals (rw [rounds_succ];go_wp2_with(go_at_call 67;refine(byteAt_any A cap l A' cap' m seq _ _ hl hl' hwf ((hA.below hbb).mono hbb.size) ((hA'.below hbb).mono hbb.size) (by omega) (by omega) (by omega)).mono ?_;rintro e w2 ⟨rfl,hb2⟩;have hbb:=hbb.trans (hb2.mono hbb.size);(first | rw [HX0.out] | rw [HX1.out] | rw [HX2.out] | rw [HX3.out])))
   go_loopw [15,57] (fun v15 v57 wr=>∃ (k:Nat) (s:Bool),v15 = .bool s∧v57 = .int .i64 k∧k≤l.length∧Below w.heap.size w wr∧Hid ((l.drop k).foldl (sureStep seq) s=S)) (fun _ v _=>l.length - (intOf v).toNat)
   case atStart=>exact⟨0,true,rfl,rfl,by omega,hbb,HS⟩
   case round=>
    obtain⟨k,s,rfl,rfl,hk,hbr,HR⟩:=hrel
    by_cases hlt:k<l.length
    ·obtain⟨b,o,a,rfl,hbB,ha,hd,hmem,hcs⟩:=(hA.below hbr).at_ hlt
     have HR2:Hid ((l.drop (k+1)).foldl (sureStep seq) (s&&(!a.store || decide (seq≤a.seq) || a.known))=S):=by
      have h:=HR.out
      rw [hd,sureB_step] at h
      exact h
     clear hd ha HR hmem
     obtain⟨d0,d1,d2,d3,d4,d5,d6⟩:=hcs
     obtain⟨aq,ast,akn,aat,amn,adt,adn⟩:=a
     dsimp only at d0 d1 d2 d3 d4 d5 d6 HR2
     rcases hq:decide (seq≤aq) with _ | _<;>rw [hq] at HR2<;>rcases s with _ | _<;>rcases ast with _ | _<;>rcases akn with _ | _
     all_goals
      go_wp2_with fail
      go_roundw
      case rel=>exact⟨k+1,_,rfl,by go_num,by omega,hbr.alloc hbr.size _,HR2⟩
      case measure=>simp [intOf];omega
    ·obtain rfl:k=l.length:=by omega
     have hs:s=S:=by
      have h:=HR.out
      rw [List.drop_length] at h
      exact h
     subst hs
     clear HR HS
     go_wp2_with fail
     go_ret3
     refine⟨?_,hbr⟩
     show Ending.returned (.tuple #[.int .u32 _, .bool true, .bool _])=_
     rw [or0 x0 p0 q0,or8 x0 x1 p0 (by omega) p1 q1,or16 _ x2 (by omega) (by omega) p2 q2,or24 _ x3 (by omega) (by omega) p3 q3]
def accsV (l:List Acc):List Value:=l.flatMap fun a=>a.cells.toList
theorem acc_len (a:Acc):a.cells.toList.length=7:=rfl
theorem accsV_len:∀ l:List Acc,(accsV l).length=l.length*7
 |[]=>rfl
 |c::l=>by
  have ih:=accsV_len l
  unfold accsV at ih ⊢
  rw [List.flatMap_cons,List.length_append,ih,acc_len,List.length_cons]
  omega
theorem accsV_append (l k:List Acc):accsV (l++k)=accsV l++accsV k:=by unfold accsV;rw [List.flatMap_append]
theorem accsV_cons (a:Acc) (l:List Acc):accsV (a::l)=a.cells.toList++accsV l:=by unfold accsV;rw [List.flatMap_cons]
theorem accsV_get:∀ (l:List Acc) (k:Nat) (a:Acc) (i:Nat),l[k]? = some a→i<7→(accsV l)[k*7+i]? = a.cells[i]?
 |[],_,_,_,h,_=>by cases h
 |d::l,0,a,i,h,hi=>by
  cases h
  rw [accsV_cons,Nat.zero_mul,Nat.zero_add,List.getElem?_append_left (by rw [acc_len];exact hi)]
  simp
 |d::l,k+1,a,i,h,hi=>by
  rw [accsV_cons,List.getElem?_append_right (by rw [acc_len];omega),acc_len,show(k+1)*7+i - 7=k*7+i by omega]
  exact accsV_get l k a i (by simpa using h) hi
theorem accsV_oneCell (l:List Acc):∀ u∈accsV l,u.oneCell'=true:=by
 intro u hu
 unfold accsV at hu
 obtain⟨a,_,ha⟩:=List.mem_flatMap.1 hu
 simp at ha
 rcases ha with rfl | rfl | rfl | rfl | rfl | rfl | rfl<;>rfl
theorem AccsAt.own {w:World} {base:Nat} {A:Option Addr} {cap n:Nat} {l:List Acc} (h:w.ownsRow base 82 7 (.slice A n cap) n (accsV l)):AccsAt w w.heap.size A l:=fun hne=>by
 have hn:n=l.length:=by have:=h.1;rw [accsV_len] at this;omega
 have h0:0<l.length:=List.length_pos_iff.2 hne
 subst hn
 rcases h.2 with⟨_,h2⟩ | ⟨g,c,cur,hv,_,hh,hc,_,hs,ht⟩
 ·omega
 ·injection hv with hv1 hv2 hv3
  subst hv1
  have hB:Blk w g 82 cur:=hh
  refine⟨g,0,rfl,hB.lt,fun k a hk=>?_⟩
  have hkl:k<l.length:=(List.getElem?_eq_some_iff.1 hk).1
  have get:∀ i,i<7→w.cell? ⟨g,0+k*7+i,none⟩=a.cells[i]? := fun i hi=>by
   rw [hB.cell,←accsV_get l k a i hk hi,←ht,List.getElem?_take,if_pos (by omega),Nat.zero_add]
   simp
  exact⟨get 0 (by omega),get 1 (by omega),get 2 (by omega),get 3 (by omega),get 4 (by omega),get 5 (by omega),get 6 (by omega)⟩
theorem acc_info:(Try.prog.info? 82).map (fun i=>(i.zero,i.size,i.bytes))=some (some (.agg #[.int .i64 0, .bool false, .bool false, .int .u32 0, .int .i64 0, .int .u32 0, .bool false]),7,32):=by kernel_rfl
theorem own_other {w:World} {base k:Nat} {e t:TypeId} {size:Nat} {v:Value} {n:Nat} {xs:List Value} {cs:Array Value} (h:w.ownsRow base e size v n xs) (hk:Blk w k t cs) (he:e≠t):v.ownBlock=none∨v.ownBlock≠some k:=by
 rcases h.2 with⟨rfl,_⟩ | ⟨g,c,cur,rfl,_,hh,_⟩
 ·exact Or.inl rfl
 ·right
  intro hg
  have hg:g=k:=by simpa [Value.ownBlock] using hg
  subst hg
  have hk:w.heap[g]? = some (.cells cs t (0,0)):=hk
  rw [hk] at hh
  injection hh with hh
  injection hh with _ hh
  exact he hh.symm
theorem blk_other {w:World} {g k:Nat} {e t:TypeId} {cs cs':Array Value} (h:Blk w g e cs) (hk:Blk w k t cs') (he:e≠t):g≠k:=by
 rintro rfl
 have h:w.heap[g]? = some (.cells cs e (0,0)):=h
 have hk:w.heap[g]? = some (.cells cs' t (0,0)):=hk
 rw [hk] at h
 injection h with h
 injection h with _ h
 exact he h.symm
theorem blk_row {w:World} {base g:Nat} {e t:TypeId} {size:Nat} {v:Value} {n:Nat} {xs:List Value} {cs:Array Value} (hg:Blk w g t cs) (h:w.ownsRow base e size v n xs) (he:t≠e):some g≠v.ownBlock:=by
 rcases own_other h hg (fun e'=>he e'.symm) with h1 | h1
 ·rw [h1];simp
 ·exact fun e=>h1 e.symm
def PtrRow (w:World) (B:Nat) (v:Value) (ps:List Nat):Prop:=
 (v = .slice none 0 0∧ps=[])∨∃ go oo cap cur,v = .slice (some ⟨go,oo,none⟩) ps.length cap∧B≤go∧Blk w go 66 cur∧ps.length≤cap∧cap≤9223372036854775807∧oo+cap≤cur.size∧∀ i p,ps[i]? = some p→cur[oo+i]? = some (.pointer (some ⟨p,0,none⟩))
structure UopsAt (w:World) (B:Nat) (us:List Uop) (ps:List Nat):Prop where
 len:ps.length=us.length
 at_:∀ (i:Nat) u p,us[i]? = some u→ps[i]? = some p→Blk w p 70 u.cells∧B≤p
 nodup:ps.Nodup
theorem PtrRow.lt {w:World} {B:Nat} {v:Value} {ps:List Nat} (h:PtrRow w B v ps):∀ k,v.ownBlock=some k→B≤k∧k<w.heap.size:=by
 intro k hk
 rcases h with⟨rfl,_⟩ | ⟨go,oo,cap,cur,rfl,hb,hB,_⟩
 ·cases hk
 ·cases hk
  exact⟨hb,hB.lt⟩
theorem PtrRow.kept {w w':World} {B:Nat} {v:Value} {ps:List Nat} {row:Option Nat} (h:PtrRow w B v ps) (hg:w.grownBy w' row) (hne:v.ownBlock=none∨v.ownBlock≠row):PtrRow w' B v ps:=by
 rcases h with h | ⟨go,oo,cap,cur,rfl,hb,hB,h1,h2,h3,h4⟩
 ·exact Or.inl h
 ·exact Or.inr ⟨go,oo,cap,cur,rfl,hb,hB.grown hg (by simpa [Value.ownBlock] using hne),h1,h2,h3,h4⟩
theorem PtrRow.other {w:World} {B k:Nat} {v:Value} {ps:List Nat} {t:TypeId} {cs:Array Value} (h:PtrRow w B v ps) (hk:Blk w k t cs) (he:66≠t):v.ownBlock=none∨v.ownBlock≠some k:=by
 rcases h with⟨rfl,_⟩ | ⟨go,oo,cap,cur,rfl,_,hB,_⟩
 ·exact Or.inl rfl
 ·right
  intro hg
  have hg:go=k:=by simpa [Value.ownBlock] using hg
  exact blk_other hB hk he hg
theorem PtrRow.apart {w:World} {B B':Nat} {v v2:Value} {ps:List Nat} {e:TypeId} {size n:Nat} {xs:List Value} (h:PtrRow w B v ps) (h2:w.ownsRow B' e size v2 n xs) (he:66≠e):v.ownBlock=none∨v.ownBlock≠v2.ownBlock:=by
 rcases h with⟨rfl,_⟩ | ⟨go,oo,cap,cur,rfl,_,hB,_⟩
 ·exact Or.inl rfl
 ·exact Or.inr (blk_row hB h2 he)
theorem UopsAt.kept {w w':World} {B:Nat} {us:List Uop} {ps:List Nat} {row:Option Nat} (h:UopsAt w B us ps) (hg:w.grownBy w' row) (hne:∀ p∈ps,some p≠row):UopsAt w' B us ps:=
 ⟨h.len,fun i u p hu hp=>⟨(h.at_ i u p hu hp).1.grown hg (hne p (List.mem_of_getElem? hp)),(h.at_ i u p hu hp).2⟩,h.nodup⟩
theorem UopsAt.mem {w:World} {B:Nat} {us:List Uop} {ps:List Nat} (h:UopsAt w B us ps) {p:Nat} (hp:p∈ps):∃ u:Uop,Blk w p 70 u.cells∧B≤p:=by
 obtain⟨i,hi,rfl⟩:=List.getElem_of_mem hp
 have hi2:i<us.length:=by rw [←h.len];exact hi
 exact⟨us[i],h.at_ i _ _ (List.getElem?_eq_getElem hi2) (List.getElem?_eq_getElem hi)⟩
theorem UopsAt.lt {w:World} {B:Nat} {us:List Uop} {ps:List Nat} (h:UopsAt w B us ps) {p:Nat} (hp:p∈ps):p<w.heap.size:=by
 obtain⟨u,hu,_⟩:=h.mem hp
 exact hu.lt
theorem UopsAt.get {w:World} {B:Nat} {us:List Uop} {ps:List Nat} (h:UopsAt w B us ps) {i:Nat} (hi:i<us.length):∃ p,ps[i]? = some p∧Blk w p 70 (us[i]'hi).cells∧B≤p:=by
 have hi2:i<ps.length:=by rw [h.len];exact hi
 exact⟨ps[i],List.getElem?_eq_getElem hi2,h.at_ i _ _ (List.getElem?_eq_getElem hi) (List.getElem?_eq_getElem hi2)⟩
theorem UopsAt.set {w w':World} {B:Nat} {us:List Uop} {ps:List Nat} (h:UopsAt w B us ps) {i p:Nat} (hp:ps[i]? = some p) (hg:w.grownBy w' (some p)) {u':Uop} (hB:Blk w' p 70 u'.cells):UopsAt w' B (us.set i u') ps:=by
 refine⟨by rw [List.length_set];exact h.len,fun j u q hu hq=>?_,h.nodup⟩
 have hil:i<ps.length:=(List.getElem?_eq_some_iff.1 hp).1
 have hil2:i<us.length:=by rw [←h.len];exact hil
 have hbp:B≤p:=(h.at_ i us[i] p (List.getElem?_eq_getElem hil2) hp).2
 by_cases e:i=j
 ·subst e
  rw [List.getElem?_set_self hil2] at hu
  rw [hp] at hq
  cases hu
  cases hq
  exact⟨hB,hbp⟩
 ·rw [List.getElem?_set_ne e] at hu
  obtain⟨h1,h2⟩:=h.at_ j u q hu hq
  refine⟨h1.grown hg (fun hh=>?_),h2⟩
  injection hh with hh
  subst hh
  have hj:j<ps.length:=(List.getElem?_eq_some_iff.1 hq).1
  have hn:=List.pairwise_iff_getElem.1 h.nodup
  have hpi:=(List.getElem?_eq_some_iff.1 hp).2
  have hpj:=(List.getElem?_eq_some_iff.1 hq).2
  rcases Nat.lt_or_gt_of_ne e with hlt | hlt
  ·exact hn i j hil hj hlt (hpi.trans hpj.symm)
  ·exact hn j i hj hil hlt (hpj.trans hpi.symm)
end Go.Proofs.Ytapgojgcmlnbgac
namespace Go.Proofs.Ytapgojgcmlnbgac
open Go
def relB (seq p:Int) (a:Acc):Bool:=a.store&&a.known&&decide (a.seq<seq)&&hasB a p
theorem best_filter (seq p:Int):∀ (l:List Acc) (b:Option Acc),l.foldl (bestStep seq p) b=(l.filter (relB seq p)).foldl (bestStep seq p) b
 |[],_=>rfl
 |a::l,b=>by
  rw [List.foldl_cons,best_filter seq p l]
  rcases hr:relB seq p a with _ | _
  ·rw [List.filter_cons_of_neg (by simp [hr])]
   have:bestStep seq p b a=b:=by
    unfold bestStep
    unfold relB at hr
    rw [if_neg]
    rw [hr]
    simp
   rw [this]
  ·rw [List.filter_cons_of_pos hr]
   rfl
theorem byteP_congr {l l':List Acc} {seq p:Int} (m:List Int) (h:l.filter (relB seq p)=l'.filter (relB seq p)):byteP l m seq p=byteP l' m seq p:=by
 unfold byteP
 rw [best_filter seq p l,best_filter seq p l',h]
theorem best_some (seq p:Int):∀ (l:List Acc) (b:Acc),(∀ a∈l,relB seq p a=true)→(b::l).Pairwise (fun a c=>a.seq≤c.seq)→l.foldl (bestStep seq p) (some b)=some ((b::l).getLast (by simp))
 |[],b,_,_=>rfl
 |a::l,b,h,hs=>by
  rw [List.foldl_cons]
  have hr:=h a (by simp)
  have hle:b.seq≤a.seq:=(List.pairwise_cons.1 hs).1 a (by simp)
  have:bestStep seq p (some b) a=some a:=by
   unfold bestStep
   unfold relB at hr
   rw [if_pos]
   rw [hr]
   simp [notNewer,hle]
  rw [this,best_some seq p l a (fun x hx=>h x (by simp [hx])) (List.pairwise_cons.1 hs).2]
  rfl
theorem best_last {l:List Acc} {seq p:Int} (hs:l.Pairwise (fun a c=>a.seq≤c.seq)):l.foldl (bestStep seq p) none=(l.filter (relB seq p)).getLast? := by
 rw [best_filter]
 have hs':=hs.sublist (List.filter_sublist (p:=relB seq p) (l:=l))
 have ha:∀ a∈l.filter (relB seq p),relB seq p a=true:=fun a ha=>(List.mem_filter.1 ha).2
 generalize l.filter (relB seq p)=k at hs' ha
 cases k with
 |nil=>rfl
 |cons a k=>
  rw [List.foldl_cons]
  have hr:=ha a (by simp)
  have:bestStep seq p none a=some a:=by
   unfold bestStep
   unfold relB at hr
   rw [if_pos]
   rw [hr]
   simp [notNewer]
  rw [this,best_some seq p k a (fun x hx=>ha x (by simp [hx])) hs']
  rw [List.getLast?_eq_some_getLast (by simp)]
theorem byteP_last {l:List Acc} {seq p:Int} (m:List Int) (hs:l.Pairwise (fun a c=>a.seq≤c.seq)):byteP l m seq p=byteOf m p (l.filter (relB seq p)).getLast? := by
 unfold byteP
 rw [best_last hs]
theorem getD_set (m:List Int) (i j:Nat) (x:Int):(m.set i x).getD j 0=if i=j∧i<m.length then x else m.getD j 0:=by
 simp only [List.getD]
 by_cases h:i=j
 ·subst h
  by_cases h2:i<m.length
  ·rw [List.getElem?_set_self h2,if_pos ⟨rfl,h2⟩];rfl
  ·rw [if_neg (by omega),List.getElem?_eq_none (by simp;omega),List.getElem?_eq_none (by omega)]
 ·rw [List.getElem?_set_ne h,if_neg (by omega)]
theorem putN_getD (m:List Int) (many:Int) (n:Nat) (d:Int) (hm:many=0∨many=1∨many=2∨many=4) (hf:(n:Int)+many≤m.length) (j:Nat) :
  (putN m many n d).getD j 0=if n≤j∧(j:Int)<n+many then d / ((2 ^ (8*(j - n)):Nat):Int)%256 else m.getD j 0:=by
 have e8:((2 ^ (8*1):Nat):Int)=256:=by decide
 have e16:((2 ^ (8*2):Nat):Int)=65536:=by decide
 have e24:((2 ^ (8*3):Nat):Int)=16777216:=by decide
 have e0:((2 ^ (8*0):Nat):Int)=1:=by decide
 rcases hm with rfl | rfl | rfl | rfl
 ·rw [if_neg (by omega)];rfl
 ·show(put1 m n d).getD j 0=_
  unfold put1
  rw [getD_set]
  by_cases h:n=j
  ·subst h
   rw [if_pos (by omega),if_pos (by omega),Nat.sub_self,e0,Int.ediv_one]
  ·rw [if_neg (by omega),if_neg (by omega)]
 ·show(put2 m n d).getD j 0=_
  unfold put2 put1
  simp only [getD_set,List.length_set]
  by_cases h:n=j
  ·subst h
   rw [if_neg (by omega),if_pos (by omega),if_pos (by omega),Nat.sub_self,e0,Int.ediv_one]
  ·by_cases h1:n+1=j
   ·subst h1
    rw [if_pos (by omega),if_pos (by omega),show n+1 - n=1 by omega,e8]
   ·rw [if_neg (by omega),if_neg (by omega),if_neg (by omega)]
 ·show(put4 m n d).getD j 0=_
  unfold put4 put2 put1
  simp only [getD_set,List.length_set]
  by_cases h:n=j
  ·subst h
   rw [if_neg (by omega),if_neg (by omega),if_neg (by omega),if_pos (by omega),if_pos (by omega),Nat.sub_self,e0,Int.ediv_one]
  ·by_cases h1:n+1=j
   ·subst h1
    rw [if_neg (by omega),if_neg (by omega),if_pos (by omega),if_pos (by omega),show n+1 - n=1 by omega,e8]
   ·by_cases h2:n+2=j
    ·subst h2
     rw [if_neg (by omega),if_pos (by omega),if_pos (by omega),show n+2 - n=2 by omega,e16]
    ·by_cases h3:n+3=j
     ·subst h3
      rw [if_pos (by omega),if_pos (by omega),show n+3 - n=3 by omega,e24]
     ·rw [if_neg (by omega),if_neg (by omega),if_neg (by omega),if_neg (by omega),if_neg (by omega)]
theorem byteP_commit {a:Acc} {r:List Acc} {m:List Int} {seq p:Int} (hs:(a::r).Pairwise (fun a c=>a.seq≤c.seq)) (ha:a.store=true) (hk:a.known=true) (hseq:a.seq<seq)
  (hm:a.many=0∨a.many=1∨a.many=2∨a.many=4) (h0:0≤a.at_) (hf:a.at_+a.many≤m.length) (hl:m.length≤4096) (hp:0≤p) :
  byteP r (putN m a.many a.at_.toNat a.data) seq p=byteP (a::r) m seq p:=by
 rw [byteP_last _ hs,byteP_last _ (List.pairwise_cons.1 hs).2]
 have hmi:manyI a.many=a.many:=by unfold manyI;omega
 have hg:=putN_getD m a.many a.at_.toNat a.data hm (by omega) p.toNat
 rcases hr:relB seq p a with _ | _
 ·rw [List.filter_cons_of_neg (by simp [hr])]
  cases hL:(r.filter (relB seq p)).getLast? with
  |some b=>rfl
  |none=>
   show(putN m a.many a.at_.toNat a.data).getD p.toNat 0=m.getD p.toNat 0
   rw [hg,if_neg]
   intro hin
   unfold relB hasB at hr
   rw [ha,hk,hmi,decide_eq_true hseq,decide_eq_true (show a.at_≤p by omega),decide_eq_true (show p<a.at_+a.many by omega),decide_eq_true (show p<4294967296 by omega)] at hr
   cases hr
 ·rw [List.filter_cons_of_pos hr]
  unfold relB hasB at hr
  rw [hmi] at hr
  simp only [Bool.and_eq_true,decide_eq_true_eq] at hr
  cases hk':r.filter (relB seq p) with
  |nil=>
   show(putN m a.many a.at_.toNat a.data).getD p.toNat 0=dataAt a p
   rw [hg,if_pos (by omega)]
   unfold dataAt
   rw [show p.toNat - a.at_.toNat=(p - a.at_).toNat by omega]
  |cons b k=>
   rw [List.getLast?_cons_cons]
   rw [List.getLast?_eq_some_getLast (by simp)]
   rfl
theorem seeP_congr {l l':List Acc} {m m':List Int} {seq p many:Int} (hm:m.length=m'.length) (h:∀ q,p≤q→q<p+4→(many=1→q<p+1)→(many=2→q<p+2)→byteP l m seq q=byteP l' m' seq q) :
  (seeP l m seq p many).1=(seeP l' m' seq p many).1∧(seeP l m seq p many).2.1=(seeP l' m' seq p many).2.1:=by
 have hok:seeOk m p many=seeOk m' p many:=by unfold seeOk;rw [hm]
 unfold seeP
 rw [hok]
 split
 ·rename_i hs
  refine⟨?_,rfl⟩
  show seeW l m seq p many=seeW l' m' seq p many
  unfold seeW
  by_cases h1:many=1
  ·rw [if_pos h1,if_pos h1,h p (by omega) (by omega) (by omega) (by omega)]
  rw [if_neg h1,if_neg h1]
  by_cases h2:many=2
  ·rw [if_pos h2,if_pos h2,h p (by omega) (by omega) (by omega) (by omega),h (p+1) (by omega) (by omega) (by omega) (by omega)]
  rw [if_neg h2,if_neg h2,h p (by omega) (by omega) (by omega) (by omega),h (p+1) (by omega) (by omega) (by omega) (by omega),h (p+2) (by omega) (by omega) (by omega) (by omega),h (p+3) (by omega) (by omega) (by omega) (by omega)]
 ·exact⟨rfl,rfl⟩
def nextN (N:RMap) (u:Uop):RMap:=if 0<u.dest then ⟨N.phys,N.regs.set u.ins.rd.toNat u.dest,N.free.tail⟩ else N
structure NOk (N:RMap) (u:Uop):Prop where
 src:u.cause=0→u.a=N.regs.getD u.ins.rs1.toNat 0∧u.b=N.regs.getD u.ins.rs2.toNat 0
 dst:0<u.dest→(givesP u.ins=true∧u.cause=0)∧(1≤u.ins.rd∧u.ins.rd≤31)∧N.free=u.dest::N.free.tail∧u.old=N.regs.getD u.ins.rd.toNat 0
 nodst:u.dest≤0→u.dest=0∧¬ (givesP u.ins=true∧u.cause=0)
def NChain:RMap→List Uop→RMap→Prop
 |N,[],M=>N=M
 |N,u::us,M=>NOk N u∧NChain (nextN N u) us M
theorem NChain.append {M:RMap}:∀ {L R:List Uop} {N:RMap},NChain N (L++R) M↔∃ K,NChain N L K∧NChain K R M
 |[],R,N=>⟨fun h=>⟨N,rfl,h⟩,fun⟨K,h1,h2⟩=>by cases h1;exact h2⟩
 |u::L,R,N=>by
  show NOk N u∧NChain (nextN N u) (L++R) M↔_
  rw [NChain.append]
  constructor
  ·rintro⟨h,K,h1,h2⟩;exact⟨K,⟨h,h1⟩,h2⟩
  ·rintro⟨K,⟨h,h1⟩,h2⟩;exact⟨h,K,h1,h2⟩
structure NGood (N:RMap):Prop where
 len:N.regs.length=32
 may:N.may=true
 zero:N.regs.getD 0 0=0
theorem NGood.nodup {N:RMap} (h:NGood N):(∀ p∈N.all,0≤p∧p<N.phys)∧N.all.Nodup:=((mayP_iff _ _).1 h.may).1
theorem NGood.phys {N:RMap} (h:NGood N):33≤N.phys∧N.phys≤96:=((mayP_iff _ _).1 h.may).2
theorem NGood.reg_mem {N:RMap} (h:NGood N) {i:Nat} (hi:i<32):N.regs.getD i 0∈N.regs:=by
 have:i<N.regs.length:=by rw [h.len];exact hi
 simp [List.getD,List.getElem?_eq_getElem this]
theorem NGood.reg_range {N:RMap} (h:NGood N) {i:Nat} (hi:i<32):0≤N.regs.getD i 0∧N.regs.getD i 0<96:=by
 have h1:=h.nodup.1 _ (List.mem_append_left _ (h.reg_mem hi))
 have h2:=h.phys
 omega
theorem NGood.free_pos {N:RMap} (h:NGood N) {p:Int} (hp:p∈N.free):0<p∧p<96:=by
 have h1:=h.nodup.1 p (List.mem_append_right _ hp)
 have h2:=h.phys
 have h3:p≠0:=by
  intro e
  subst e
  have hz:=h.reg_mem (i:=0) (by omega)
  rw [h.zero] at hz
  have:=List.nodup_append.1 h.nodup.2
  exact this.2.2 0 hz 0 hp rfl
 omega
theorem NGood.disjoint {N:RMap} (h:NGood N) {p:Int} (hr:p∈N.regs) (hf:p∈N.free):False:=
 (List.nodup_append.1 h.nodup.2).2.2 p hr p hf rfl
theorem NGood.next {N:RMap} (h:NGood N) {u:Uop} (hu:NOk N u):NGood (nextN N u):=by
 unfold nextN
 split
 ·rename_i hd
  obtain⟨_,⟨r1,r2⟩,hf,_⟩:=hu.dst hd
  refine⟨by simp [h.len],?_,?_⟩
  ·have hm:=h.may
   unfold RMap.may RMap.all at hm ⊢
   rw [hf] at hm
   exact(may_take (by rw [h.len];omega) hm).1
  ·show(N.regs.set _ _).getD 0 0=0
   rw [getD_set,if_neg (by omega)]
   exact h.zero
 ·exact h
theorem undo_next {N:RMap} (h:NGood N) {u:Uop} (hu:NOk N u) (hd:0<u.dest):undoP (nextN N u) u.ins.rd u.old=some N:=by
 obtain⟨_,⟨r1,r2⟩,hf,ho⟩:=hu.dst hd
 have hn:=h.next hu
 unfold nextN at hn ⊢
 rw [if_pos hd] at hn ⊢
 have hl:u.ins.rd.toNat<N.regs.length:=by rw [h.len];omega
 have hm:=h.may
 unfold RMap.may RMap.all at hm
 rw [hf] at hm
 obtain⟨m1,m2,m3⟩:=may_take hl hm
 have hot:otherP ⟨N.phys,N.regs.set u.ins.rd.toNat u.dest,N.free.tail⟩ u.old=true:=by
  unfold otherP
  rw [hn.may,ho]
  simp only [RMap.all,Bool.true_and,Bool.and_eq_true,decide_eq_true_eq,Bool.not_eq_true']
  exact⟨m2,decide_eq_false m3⟩
 unfold undoP
 rw [if_pos ⟨hot,r1,r2⟩]
 congr 1
 obtain⟨phys,regs,free⟩:=N
 simp only at hf ho hl ⊢
 rw [getD_set,if_pos ⟨rfl,hl⟩,←hf]
 congr 1
 rw [List.set_set,ho]
 have:regs.getD u.ins.rd.toNat 0=regs[u.ins.rd.toNat]:=by simp [List.getD,List.getElem?_eq_getElem hl]
 rw [this,List.set_getElem_self]
theorem NChain.good {M:RMap}:∀ {L:List Uop} {N:RMap},NChain N L M→NGood N→NGood M
 |[],_,h,hg=>by cases h;exact hg
 |_::_,_,⟨h,h1⟩,hg=>h1.good (hg.next h)
theorem NChain.phys {M:RMap}:∀ {L:List Uop} {N:RMap},NChain N L M→M.phys=N.phys
 |[],_,h=>by cases h;rfl
 |u::L,N,⟨_,h1⟩=>by
  rw [h1.phys]
  unfold nextN
  split<;>rfl
theorem nextN_free {N:RMap} (u:Uop):∀ p∈(nextN N u).free,p∈N.free:=by
 unfold nextN
 split
 ·exact fun p hp=>List.mem_of_mem_tail hp
 ·exact fun p hp=>hp
theorem NChain.free_sub {M:RMap}:∀ {L:List Uop} {N:RMap},NChain N L M→∀ p∈M.free,p∈N.free
 |[],_,h=>by cases h;exact fun p hp=>hp
 |u::L,N,⟨_,h1⟩=>fun p hp=>nextN_free u p (h1.free_sub p hp)
theorem NChain.dest_free {M:RMap}:∀ {L:List Uop} {N:RMap},NChain N L M→∀ u∈L,0<u.dest→u.dest∈N.free
 |[],_,_,u,hu=>by cases hu
 |v::L,N,⟨h,h1⟩,u,hu=>fun hd=>by
  rcases List.mem_cons.1 hu with rfl | hu
  ·rw [(h.dst hd).2.2.1];simp
  ·exact nextN_free v _ (h1.dest_free u hu hd)
structure Apart (u v:Uop):Prop where
 a:0<v.dest→u.a≠v.dest
 b:0<v.dest→u.b≠v.dest
 d:0<v.dest→u.dest≠v.dest
theorem NOk.src_mem {N:RMap} (hg:NGood N) {u:Uop} (h:NOk N u) (hi:u.cause=0→(0≤u.ins.rs1∧u.ins.rs1≤31)∧0≤u.ins.rs2∧u.ins.rs2≤31) (hc:u.cause=0):u.a∈N.regs∧u.b∈N.regs:=by
 obtain⟨h1,h2⟩:=h.src hc
 obtain⟨i1,i2⟩:=hi hc
 rw [h1,h2]
 exact⟨hg.reg_mem (by omega),hg.reg_mem (by omega)⟩
theorem NChain.apart {M:RMap}:∀ {L:List Uop} {N:RMap},NChain N L M→NGood N→(∀ u∈L,u.cause=0→(0≤u.ins.rs1∧u.ins.rs1≤31)∧0≤u.ins.rs2∧u.ins.rs2≤31)→(∀ u∈L,u.cause≠0→u.a=0∧u.b=0)→L.Pairwise Apart
 |[],_,_,_,_,_=>List.Pairwise.nil
 |u::L,N,⟨h,h1⟩,hg,hi,hz=>by
  have hg1:=hg.next h
  refine List.pairwise_cons.2 ⟨fun v hv=>?_,h1.apart hg1 (fun u hu=>hi u (by simp [hu])) (fun u hu=>hz u (by simp [hu]))⟩
  have hvf:=h1.dest_free v hv
  have hr:u.a∈N.regs∧u.b∈N.regs:=by
   by_cases hc:u.cause=0
   ·exact h.src_mem hg (hi u (by simp)) hc
   ·obtain⟨e1,e2⟩:=hz u (by simp) hc
    have:=hg.reg_mem (i:=0) (by omega)
    rw [hg.zero] at this
    rw [e1,e2]
    exact⟨this,this⟩
  refine⟨fun hd e=>?_,fun hd e=>?_,fun hd e=>?_⟩
  ·exact hg.disjoint hr.1 (e▸nextN_free u _ (hvf hd))
  ·exact hg.disjoint hr.2 (e▸nextN_free u _ (hvf hd))
  ·have hud:0<u.dest:=by omega
   have hm:u.dest∈(nextN N u).regs:=by
    unfold nextN
    rw [if_pos hud]
    obtain⟨_,⟨r1,r2⟩,_⟩:=h.dst hud
    exact List.mem_set (by rw [hg.len];omega) _
   exact hg1.disjoint hm (e▸hvf hd)
theorem NChain.snoc {N M:RMap} {L:List Uop} {u:Uop} (h:NChain N L M) (hu:NOk M u):NChain N (L++[u]) (nextN M u):=
 NChain.append.2 ⟨M,h,hu,rfl⟩
def addFree (N:RMap) (p:Int):RMap:=⟨N.phys,N.regs,N.free++[p]⟩
theorem NOk.addFree {N:RMap} {u:Uop} (h:NOk N u) (p:Int):NOk (addFree N p) u:=by
 refine⟨h.src,fun hd=>?_,h.nodst⟩
 obtain⟨h1,h2,h3,h4⟩:=h.dst hd
 refine⟨h1,h2,?_,h4⟩
 show N.free++[p]=u.dest::(N.free++[p]).tail
 rw [h3]
 rfl
theorem nextN_addFree {N:RMap} {u:Uop} (h:NOk N u) (p:Int):nextN (Go.Proofs.Ytapgojgcmlnbgac.addFree N p) u=Go.Proofs.Ytapgojgcmlnbgac.addFree (nextN N u) p:=by
 unfold nextN
 split
 ·rename_i hd
  obtain⟨_,_,h3,_⟩:=h.dst hd
  unfold Go.Proofs.Ytapgojgcmlnbgac.addFree
  simp only
  congr 1
  rw [h3]
  rfl
 ·rfl
theorem NChain.addFree {M:RMap} (p:Int):∀ {L:List Uop} {N:RMap},NChain N L M→NChain (Go.Proofs.Ytapgojgcmlnbgac.addFree N p) L (Go.Proofs.Ytapgojgcmlnbgac.addFree M p)
 |[],_,h=>by cases h;rfl
 |u::L,N,⟨h,h1⟩=>⟨h.addFree p,by rw [nextN_addFree h];exact h1.addFree p⟩
def slotOf (u:Uop):Slt:=⟨u.seq,decide (u.state=2)⟩
def memB (u:Uop):Bool:=loadsB u.ins || storesB u.ins
def stKnown (u:Uop):Bool:=storesB u.ins&&decide (u.state=2)&&decide (u.commit.state=0)
def accS (u:Uop):Acc:=⟨u.seq,true,true,u.commit.at_,u.commit.many,u.commit.data,false⟩
def known (L:List Uop):List Acc:=(L.filter stKnown).map accS
def wordOf (words:List Int) (p:Int):Int:=words.getD p.toNat 0
def accOf (words:List Int) (u:Uop):Acc:=
 if stKnown u=true then accS u
 else if loadsB u.ins=true∧u.state=2∧u.commit.state=0 then ⟨u.seq,false,true,u32 (wordOf words u.a+u.ins.imm),loadBytes u.ins.op,0,true⟩
 else ⟨u.seq,storesB u.ins,false,0,0,0,false⟩
def seeAt (K:List Acc) (m:List Int) (seq pc:Int):Ins×Int:=
 if (seeP K m seq pc 4).2.1=true then fetchP (bytesOf (seeP K m seq pc 4).1) 0 else (insN,1)
def loadX (K:List Acc) (m:List Int) (u:Uop) (wa:Int):Com:=
 let s:=seeP K m u.seq (u32 (wa+u.ins.imm)) (loadBytes u.ins.op)
 if s.2.1=true then doesP { u.ins with imm:=0 } ⟨List.replicate 32 0,u.pc,0,0⟩ (bytesOf s.1) else trapC u.pc 3
def execP (C:Core) (L:List Uop) (u:Uop):Com:=
 if loadsB u.ins=true then loadX (known L) C.mem u (C.word u.a) else doesP u.ins (regsP C u) C.mem
def stopB (u:Uop):Bool:=decide (u.cause≠0) || (decide (u.state=2)&&decide (u.commit.state≠0))
def lastB (u:Uop):Bool:=aloneB u.ins || stopB u
def PChain:Int→List Uop→Int→Prop
 |p,[],q=>p=q
 |p,u::us,q=>u.pc=p∧(if stopB u=true then us=[] else PChain u.next us q)
structure OpOk (C:Core) (L:List Uop) (v:Uop) (R:List Uop):Prop where
 seq:0≤v.seq∧v.seq<C.seq
 st:v.state=0∨v.state=1∨v.state=2
 fault:v.cause≠0→v.state=2∧v.commit=trapC v.pc v.cause∧v.a=0∧v.b=0∧v.dest=0
 cause:v.cause=0∨v.cause=1∨v.cause=2
 fetch:(v.ins,v.cause)=seeAt (known L) C.mem v.seq v.pc
 pc:0≤v.pc∧v.pc≤4294967295
 next:0≤v.next∧v.next≤4294967295
 nextS:v.cause=0→(storesB v.ins || aloneB v.ins)=true→v.next=u32 (v.pc+4)
 src:v.cause=0→v.state≠0→C.has v.a=true∧C.has v.b=true
 gs:v.guessed=true→v.state≠0∧0<v.dest∧loadsB v.ins=true
 d1:0<v.dest→v.state≠2→C.has v.dest=true→v.guessed=true
 d2:0<v.dest→v.state=2→C.has v.dest=true∧C.word v.dest=v.commit.value
 com:v.cause=0→v.state=2→v.commit=execP C L v
 nx:v.state=2→stopB v=false→v.next=v.commit.next
 lone:aloneB v.ins=true→v.state≠0→L=[]
 last:lastB v=true→R=[]∧C.still=true
structure Inv (C:Core):Prop where
 cfg:(1≤C.window∧C.window≤32)∧1≤C.wide∧C.wide≤4
 hart:C.hart.Wf
 may:mayH C.hart=true
 runs:C.hart.state=0
 bytes:Bytes C.mem
 room:C.mem.length≤4096
 tab:TabOk C.table
 words:C.words.length=96∧∀ x∈C.words,0≤x∧x≤4294967295
 there:C.there.length=96
 slots:C.slots=C.ops.map slotOf
 seqs:C.ops.Pairwise (fun u v=>u.seq<v.seq)
 access:C.access=(C.ops.filter memB).map (accOf C.words)
 names:∃ N,NGood N∧N.all.length=N.phys.toNat∧NChain N C.ops C.names∧∀ r,r<32→C.has (N.regs.getD r 0)=true∧C.word (N.regs.getD r 0)=C.hart.regs.getD r 0
 pcs:PChain C.hart.pc C.ops C.pc
 len:C.ops.length≤C.window
 seq0:0≤C.seq
 pc:0≤C.pc∧C.pc≤4294967295
 ops:∀ L v R,C.ops=L++v::R→OpOk C L v R
theorem Inv.insOk {C:Core} {L R:List Uop} {v:Uop} (h:OpOk C L v R) (hc:v.cause=0):IsP v.ins=true:=by
 have hf:=h.fetch
 unfold seeAt at hf
 split at hf
 ·have:=fetchP_is (m:=bytesOf (seeP (known L) C.mem v.seq v.pc 4).1) (pc:=0) (by rw [←hf];exact hc)
  rw [←hf] at this
  exact this.1
 ·injection hf with h1 h2
  omega
theorem split_at {L R L' R':List Uop} {u v:Uop} (h:L++u::R=L'++v::R'):(L'=L∧v=u∧R'=R)∨(∃ X,L=L'++v::X∧R'=X++u::R)∨(∃ X,L'=L++u::X∧R=X++v::R'):=by
 rcases List.append_eq_append_iff.1 h with⟨X,h1,h2⟩ | ⟨X,h1,h2⟩
 ·cases X with
  |nil=>
   simp at h1 h2
   left
   exact⟨h1,h2.1.symm,h2.2.symm⟩
  |cons y X=>
   rw [List.cons_append] at h2
   injection h2 with h2 h3
   right;right
   exact⟨X,by rw [h1,h2],h3⟩
 ·cases X with
  |nil=>
   simp at h1 h2
   left
   exact⟨h1.symm,h2.1,h2.2⟩
  |cons y X=>
   rw [List.cons_append] at h2
   injection h2 with h2 h3
   right;left
   exact⟨X,by rw [h1,h2],h3⟩
theorem known_append (A B:List Uop):known (A++B)=known A++known B:=by unfold known;simp
theorem known_set {L X:List Uop} {u u':Uop} (h:stKnown u=false) (h':stKnown u'=false):known (L++u'::X)=known (L++u::X):=by
 unfold known
 rw [List.filter_append,List.filter_append,List.filter_cons_of_neg (by simp [h']),List.filter_cons_of_neg (by simp [h])]
theorem OpOk.congr {C C':Core} {L L' R R':List Uop} {v:Uop} (h:OpOk C L v R) (hq:v.seq<C'.seq)
  (hL:L=[]→L'=[]) (hR:R=[]→R'=[]) (hst:lastB v=true→C.still=true→C'.still=true)
  (hf:seeAt (known L') C'.mem v.seq v.pc=seeAt (known L) C.mem v.seq v.pc)
  (hs:v.cause=0→v.state≠0→(C.has v.a=true→C'.has v.a=true)∧(C.has v.b=true→C'.has v.b=true))
  (hd:0<v.dest→C'.has v.dest=C.has v.dest∧C'.word v.dest=C.word v.dest)
  (hx:v.cause=0→v.state=2→execP C' L' v=execP C L v):OpOk C' L' v R':=
 ⟨⟨h.seq.1,hq⟩,h.st,h.fault,h.cause,by rw [hf];exact h.fetch,h.pc,h.next,h.nextS,
  fun hc hn=>⟨(hs hc hn).1 (h.src hc hn).1,(hs hc hn).2 (h.src hc hn).2⟩,h.gs,
  fun h1 h2 h3=>h.d1 h1 h2 (by rw [←(hd h1).1];exact h3),fun h1 h2=>by rw [(hd h1).1,(hd h1).2];exact h.d2 h1 h2,
  fun h1 h2=>by rw [hx h1 h2];exact h.com h1 h2,h.nx,fun h1 h2=>hL (h.lone h1 h2),fun h1=>⟨hR (h.last h1).1,hst h1 (h.last h1).2⟩⟩
end Go.Proofs.Ytapgojgcmlnbgac
