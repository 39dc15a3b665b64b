/- Parts of a proof. -/
import Derived.Test.YtapgojgcmlnbgacK30
import Derived.Test.YtapgojgcmlnbgacK20
set_option linter.unusedSimpArgs false
set_option linter.unusedVariables false
set_option maxRecDepth 100000
set_option maxHeartbeats 16000000
namespace Go.Proofs.Ytapgojgcmlnbgac
open Go.RowKit
theorem ptr_slice {w:World} {B:Nat} {v:Value} {ps:List Nat} (h:PtrRow w B v ps):∃ A c,v = .slice A ps.length c∧ps.length≤c∧c≤9223372036854775807∧(A=none→ps=[]∧c=0):=by
 rcases h with⟨rfl,rfl⟩ | ⟨go,oo,cap,cur,rfl,hb,hB,h1,h2,h3,h4⟩
 ·exact⟨none,0,rfl,Nat.le_refl _,by omega,fun _=>⟨rfl,rfl⟩⟩
 ·exact⟨_,cap,rfl,h1,h2,fun h=>by cases h⟩
theorem ptr_cell {w:World} {B:Nat} {A:Option Addr} {n c:Nat} {ps:List Nat} (h:PtrRow w B (.slice A n c) ps) {i:Nat} (hi:i<ps.length):∃ b o,A=some ⟨b,o,none⟩∧b<w.heap.size∧w.cell? ⟨b,o+i,none⟩=some (.pointer (some ⟨ps[i],0,none⟩)):=by
 rcases h with⟨_,rfl⟩ | ⟨go,oo,cap,cur,hv,hb,hB,h1,h2,h3,h4⟩
 ·simp at hi
 ·injection hv with hv
  exact⟨go,oo,hv,hB.lt,(hB.cell _).trans (h4 i _ (List.getElem?_eq_getElem hi))⟩
theorem find1_cl (u:Uop) (p g:Nat) (seq:Int) (w:World) (hp:Blk w p 70 u.cells) (hg:w.cell? ⟨g,0,none⟩=some (.int .i64 seq)) (hgl:g<w.heap.size) :
  Calls Try.prog 82 #[.pointer (some ⟨p,0,none⟩), .pointer (some ⟨g,0,none⟩)] w fun e w'=>e = .returned (.bool (decide (u.seq=seq)))∧Below w.heap.size w w':=by
 have c0:w.cell? ⟨p,0,none⟩=some (.int .i64 u.seq):=hp.cell 0
 have zp:=hp.lt
 clear hp
 go_enter Try.func82,Try.ntmps82
 go_upto_region 1 with(fail)
 go_simp
 refine wp_region_ob 103 24 127 [0,1,2,3,4,5,6] (by kernel_rfl) (by kernel_rfl) (by kernel_rfl) rfl ?_
 repeat'(first
  |refine oQ rfl rfl ?_
  |(refine' oE _ (by decide) (by decide) (fun wq K hK=>?_) ?_ ?_;rotate_left 1;(· go_wp2_with(fail);all_goals exact hK);rfl)
  |(refine' oR _ (by decide) (by decide) (by decide) (fun wq hwq K hK=>?_) ?_ ?_;rotate_left 1;(· have k0:=hwq.at_ zp c0;have kg:=hwq.at_ hgl hg;go_wp2_with(fail);all_goals exact hK);rfl)
  |((first | refine oT rfl rfl rfl rfl ?_ ?_ | refine oF rfl rfl rfl rfl ?_ ?_)<;>intro hc<;>first | (cases hc;done) | ((try cases hc);simp only [Act.put,sA,sS,sZ]))
  |refine oU rfl rfl rfl rfl ?_)
 refine wpO_nil ?_
 rintro w1 rfl
 go_wp2_with(fail)
 go_ret
 exact⟨rfl,by first | exact Below.refl _ _ | exact(Below.refl _ _).drew⟩
theorem find1_idx (A:Option Addr) (cap B:Nat) (us:List Uop) (ps:List Nat) (seq:Int) (g:Nat) (w:World) (hl:ps.length≤140737488355328) (hA:PtrRow w B (.slice A ps.length cap) ps) (hU:UopsAt w B us ps) (hg:w.cell? ⟨g,0,none⟩=some (.int .i64 seq)) (hgl:g<w.heap.size) :
  Calls Try.prog 81 #[.slice A ps.length cap, .func (.func 82) #[] #[.pointer (some ⟨g,0,none⟩)]] w fun e w'=>e = .returned (.int .i64 (idxP (fun u:Uop=>decide (u.seq=seq)) us 0))∧Below w.heap.size w w':=by
 obtain⟨X,hX⟩:∃ X,idxP (fun u:Uop=>decide (u.seq=seq)) us 0=X:=⟨_,rfl⟩
 rw [hX]
 obtain⟨N,hN⟩:∃ N,N=ps.length:=⟨_,rfl⟩
 rw [←hN] at hl hA ⊢
 have HN2:=Lib.hid (hN.trans hU.len)
 have HA:=Lib.hid hA
 have HU:=Lib.hid hU
 have HN:=Lib.hid hN
 have HX:Hid (idxP (fun u:Uop=>decide (u.seq=seq)) (us.drop 0) ((0:Nat):Int)=X):=Lib.hid (by simpa using hX)
 have HG:=Lib.hid hg
 clear hA hN hX hg hU
 go_enter Try.func81,Try.ntmps81
 go_upto_region 2 with(fail)
 go_loopw [8] (fun v wr=>∃ k:Nat,v = .int .i64 k∧k≤N∧Below w.heap.size w wr∧Hid (idxP (fun u:Uop=>decide (u.seq=seq)) (us.drop k) k=X)) (fun v _=>N+1 - (intOf v).toNat)
 case atStart=>exact⟨0,rfl,Nat.zero_le _,Below.refl _ _,HX⟩
 case round=>
  clear HX
  obtain⟨k,rfl,hk,hb,Hk⟩:=hrel
  by_cases hlt:k<N
  ·have hk':k<us.length:=by rw [←HN2.out];exact hlt
   have hk2:k<ps.length:=by rw [←HN.out];exact hlt
   obtain⟨b,o,rfl,hgB,c0⟩:=ptr_cell (HA.out.kept (below_grownBy hb) (Classical.em _)) hk2
   have hd:=idxP_drop (fun u:Uop=>decide (u.seq=seq)) us hk' (k:Int)
   have hu:=((HU.out.kept (below_grownBy hb) (fun p _=>by simp)).at_ k _ _ (List.getElem?_eq_getElem hk') (List.getElem?_eq_getElem hk2)).1
   generalize us[k]'hk'=u at *
   generalize ps[k]'hk2=q at *
   have hgr:=(hb.cell (p:=⟨g,0,none⟩) hgl).trans HG.out
   have hglr:g<wr.heap.size:=Nat.lt_of_lt_of_le hgl hb.size
   have CP:=Lib.hid (find1_cl u q g seq wr hu hgr hglr)
   clear hgr hu
   by_cases hs:u.seq=seq
   ·have Hd:Hid ((k:Int)=X):=Lib.hid (by rw [if_pos (by simpa using hs)] at hd;rw [←Hk.out,hd])
    rw [decide_eq_true hs] at CP
    clear hd Hk hs
    go_wp2_with(go_at_call 82;(with_reducible refine CP.out.mono ?_);rintro e w2 ⟨rfl,hb2⟩)
    go_ret
    exact⟨by rw [←Hd.out];rfl,hb.trans (hb2.mono hb.size)⟩
   ·have Hd:Hid (idxP (fun u:Uop=>decide (u.seq=seq)) (us.drop (k+1)) ((k+1:Nat):Int)=X):=Lib.hid (by rw [if_neg (by simpa using hs)] at hd;rw [←Hk.out,hd];rfl)
    rw [decide_eq_false hs] at CP
    clear hd Hk hs
    go_wp2_with(go_at_call 82;(with_reducible refine CP.out.mono ?_);rintro e w2 ⟨rfl,hb2⟩)
    go_roundw
    case rel=>exact⟨k+1,by go_num,by omega,hb.trans (hb2.mono hb.size),Hd⟩
    case measure=>simp [intOf];omega
  ·obtain rfl:k=N:=by omega
   have e1:decide ((k:Int)<k)=false:=by simp
   have Hd:Hid ((-1:Int)=X):=Lib.hid (by rw [←Hk.out,HN2.out,List.drop_length];rfl)
   clear Hk
   go_wp2
   go_ret
   exact⟨by rw [←Hd.out];rfl,hb⟩
theorem back1_cl (u:Uop) (p g:Nat) (seq:Int) (w:World) (hp:Blk w p 70 u.cells) (hg:w.cell? ⟨g,0,none⟩=some (.int .i64 seq)) (hgl:g<w.heap.size) :
  Calls Try.prog 61 #[.pointer (some ⟨p,0,none⟩), .pointer (some ⟨g,0,none⟩)] w fun e w'=>e = .returned (.bool (decide (seq≤u.seq)))∧Below w.heap.size w w':=by
 have c0:w.cell? ⟨p,0,none⟩=some (.int .i64 u.seq):=hp.cell 0
 have zp:=hp.lt
 clear hp
 go_enter Try.func61,Try.ntmps61
 go_upto_region 1 with(fail)
 go_simp
 refine wp_region_ob 103 24 127 [0,1,2,3,4,5,6] (by kernel_rfl) (by kernel_rfl) (by kernel_rfl) rfl ?_
 repeat'(first
  |refine oQ rfl rfl ?_
  |(refine' oE _ (by decide) (by decide) (fun wq K hK=>?_) ?_ ?_;rotate_left 1;(· go_wp2_with(fail);all_goals exact hK);rfl)
  |(refine' oR _ (by decide) (by decide) (by decide) (fun wq hwq K hK=>?_) ?_ ?_;rotate_left 1;(· have k0:=hwq.at_ zp c0;have kg:=hwq.at_ hgl hg;go_wp2_with(fail);all_goals exact hK);rfl)
  |((first | refine oT rfl rfl rfl rfl ?_ ?_ | refine oF rfl rfl rfl rfl ?_ ?_)<;>intro hc<;>first | (cases hc;done) | ((try cases hc);simp only [Act.put,sA,sS,sZ]))
  |refine oU rfl rfl rfl rfl ?_)
 refine wpO_nil ?_
 rintro w1 rfl
 go_wp2_with(fail)
 go_ret
 exact⟨rfl,by first | exact Below.refl _ _ | exact(Below.refl _ _).drew⟩
theorem back1_idx (A:Option Addr) (cap B:Nat) (us:List Uop) (ps:List Nat) (seq:Int) (g:Nat) (w:World) (hl:ps.length≤140737488355328) (hA:PtrRow w B (.slice A ps.length cap) ps) (hU:UopsAt w B us ps) (hg:w.cell? ⟨g,0,none⟩=some (.int .i64 seq)) (hgl:g<w.heap.size) :
  Calls Try.prog 81 #[.slice A ps.length cap, .func (.func 61) #[] #[.pointer (some ⟨g,0,none⟩)]] w fun e w'=>e = .returned (.int .i64 (idxP (fun u:Uop=>decide (seq≤u.seq)) us 0))∧Below w.heap.size w w':=by
 obtain⟨X,hX⟩:∃ X,idxP (fun u:Uop=>decide (seq≤u.seq)) us 0=X:=⟨_,rfl⟩
 rw [hX]
 obtain⟨N,hN⟩:∃ N,N=ps.length:=⟨_,rfl⟩
 rw [←hN] at hl hA ⊢
 have HN2:=Lib.hid (hN.trans hU.len)
 have HA:=Lib.hid hA
 have HU:=Lib.hid hU
 have HN:=Lib.hid hN
 have HX:Hid (idxP (fun u:Uop=>decide (seq≤u.seq)) (us.drop 0) ((0:Nat):Int)=X):=Lib.hid (by simpa using hX)
 have HG:=Lib.hid hg
 clear hA hN hX hg hU
 go_enter Try.func81,Try.ntmps81
 go_upto_region 2 with(fail)
 go_loopw [8] (fun v wr=>∃ k:Nat,v = .int .i64 k∧k≤N∧Below w.heap.size w wr∧Hid (idxP (fun u:Uop=>decide (seq≤u.seq)) (us.drop k) k=X)) (fun v _=>N+1 - (intOf v).toNat)
 case atStart=>exact⟨0,rfl,Nat.zero_le _,Below.refl _ _,HX⟩
 case round=>
  clear HX
  obtain⟨k,rfl,hk,hb,Hk⟩:=hrel
  by_cases hlt:k<N
  ·have hk':k<us.length:=by rw [←HN2.out];exact hlt
   have hk2:k<ps.length:=by rw [←HN.out];exact hlt
   obtain⟨b,o,rfl,hgB,c0⟩:=ptr_cell (HA.out.kept (below_grownBy hb) (Classical.em _)) hk2
   have hd:=idxP_drop (fun u:Uop=>decide (seq≤u.seq)) us hk' (k:Int)
   have hu:=((HU.out.kept (below_grownBy hb) (fun p _=>by simp)).at_ k _ _ (List.getElem?_eq_getElem hk') (List.getElem?_eq_getElem hk2)).1
   generalize us[k]'hk'=u at *
   generalize ps[k]'hk2=q at *
   have hgr:=(hb.cell (p:=⟨g,0,none⟩) hgl).trans HG.out
   have hglr:g<wr.heap.size:=Nat.lt_of_lt_of_le hgl hb.size
   have CP:=Lib.hid (back1_cl u q g seq wr hu hgr hglr)
   clear hgr hu
   by_cases hs:seq≤u.seq
   ·have Hd:Hid ((k:Int)=X):=Lib.hid (by rw [if_pos (by simpa using hs)] at hd;rw [←Hk.out,hd])
    rw [decide_eq_true hs] at CP
    clear hd Hk hs
    go_wp2_with(go_at_call 61;(with_reducible refine CP.out.mono ?_);rintro e w2 ⟨rfl,hb2⟩)
    go_ret
    exact⟨by rw [←Hd.out];rfl,hb.trans (hb2.mono hb.size)⟩
   ·have Hd:Hid (idxP (fun u:Uop=>decide (seq≤u.seq)) (us.drop (k+1)) ((k+1:Nat):Int)=X):=Lib.hid (by rw [if_neg (by simpa using hs)] at hd;rw [←Hk.out,hd];rfl)
    rw [decide_eq_false hs] at CP
    clear hd Hk hs
    go_wp2_with(go_at_call 61;(with_reducible refine CP.out.mono ?_);rintro e w2 ⟨rfl,hb2⟩)
    go_roundw
    case rel=>exact⟨k+1,by go_num,by omega,hb.trans (hb2.mono hb.size),Hd⟩
    case measure=>simp [intOf];omega
  ·obtain rfl:k=N:=by omega
   have e1:decide ((k:Int)<k)=false:=by simp
   have Hd:Hid ((-1:Int)=X):=Lib.hid (by rw [←Hk.out,HN2.out,List.drop_length];rfl)
   clear Hk
   go_wp2
   go_ret
   exact⟨by rw [←Hd.out];rfl,hb⟩
theorem at1_cl (a:Acc) (g:Nat) (seq:Int) (w:World) (hg:w.cell? ⟨g,0,none⟩=some (.int .i64 seq)) (hgl:g<w.heap.size) :
  Calls Try.prog 74 #[.agg #[.int .i64 a.seq, .bool a.store, .bool a.known, .int .u32 a.at_, .int .i64 a.many, .int .u32 a.data, .bool a.done], .pointer (some ⟨g,0,none⟩)] w fun e w'=>e = .returned (.bool (decide (a.seq=seq)))∧Below w.heap.size w w':=by
 go_enter Try.func74,Try.ntmps74
 go_upto_region 1 with(fail)
 go_simp
 refine wp_gen fun wa hq=>?_
 have hB:Blk wa w.heap.size 82 (Acc.cells a):=by rw [hq];exact Blk.new w _ _
 have hbl:Below w.heap.size w wa:=by rw [hq];exact(Below.refl _ _).alloc (Nat.le_refl _) _
 clear hq
 have c0:wa.cell? ⟨w.heap.size,0,none⟩=some (.int .i64 a.seq):=hB.cell 0
 have c1:=(hbl.cell (p:=⟨g,0,none⟩) hgl).trans hg
 go_wp2
 go_ret
 exact⟨rfl,hbl⟩
theorem at1_idx (A:Option Addr) (cap:Nat) (l:List Acc) (seq:Int) (g:Nat) (w:World) (hl:l.length≤140737488355328) (hA:AccsAt w w.heap.size A l) (hg:w.cell? ⟨g,0,none⟩=some (.int .i64 seq)) (hgl:g<w.heap.size) :
  Calls Try.prog 47 #[.slice A l.length cap, .func (.func 74) #[] #[.pointer (some ⟨g,0,none⟩)]] w fun e w'=>e = .returned (.int .i64 (idxP (fun a:Acc=>decide (a.seq=seq)) l 0))∧Below w.heap.size w w':=by
 obtain⟨X,hX⟩:∃ X,idxP (fun a:Acc=>decide (a.seq=seq)) l 0=X:=⟨_,rfl⟩
 rw [hX]
 obtain⟨N,hN⟩:∃ N,N=l.length:=⟨_,rfl⟩
 rw [←hN] at hl ⊢
 have HA:=Lib.hid hA
 have HN:=Lib.hid hN
 have HX:Hid (idxP (fun a:Acc=>decide (a.seq=seq)) (l.drop 0) ((0:Nat):Int)=X):=Lib.hid (by simpa using hX)
 have HG:=Lib.hid hg
 clear hA hN hX hg
 go_enter Try.func47,Try.ntmps47
 go_upto_region 2 with(fail)
 go_loopw [8] (fun v wr=>∃ k:Nat,v = .int .i64 k∧k≤N∧Below w.heap.size w wr∧Hid (idxP (fun a:Acc=>decide (a.seq=seq)) (l.drop k) k=X)) (fun v _=>N+1 - (intOf v).toNat)
 case atStart=>exact⟨0,rfl,Nat.zero_le _,Below.refl _ _,HX⟩
 case round=>
  clear HX
  obtain⟨k,rfl,hk,hb,Hk⟩:=hrel
  by_cases hlt:k<N
  ·have hk':k<l.length:=by rw [←HN.out];exact hlt
   obtain⟨b,o,a,rfl,hgB,hs',hd',_,hcs⟩:=(HA.out.below hb).at_ hk'
   obtain⟨c0,c1,c2,c3,c4,c5,c6⟩:=hcs
   have hd:=idxP_drop (fun a:Acc=>decide (a.seq=seq)) l hk' (k:Int)
   have es:l[k]'hk'=a:=by
    have:=List.drop_eq_getElem_cons hk'
    rw [hd'] at this
    injection this with this
    exact this.symm
   rw [es] at hd
   clear es hs' hd'
   have hgr:=(hb.cell (p:=⟨g,0,none⟩) hgl).trans HG.out
   have hglr:g<wr.heap.size:=Nat.lt_of_lt_of_le hgl hb.size
   have CP:=Lib.hid (at1_cl a g seq wr hgr hglr)
   clear hgr
   by_cases hs:a.seq=seq
   ·have Hd:Hid ((k:Int)=X):=Lib.hid (by rw [if_pos (by simpa using hs)] at hd;rw [←Hk.out,hd])
    rw [decide_eq_true hs] at CP
    clear hd Hk hs
    go_wp2_with(go_at_call 74;(with_reducible refine CP.out.mono ?_);rintro e w2 ⟨rfl,hb2⟩)
    go_ret
    exact⟨by rw [←Hd.out];rfl,hb.trans (hb2.mono hb.size)⟩
   ·have Hd:Hid (idxP (fun a:Acc=>decide (a.seq=seq)) (l.drop (k+1)) ((k+1:Nat):Int)=X):=Lib.hid (by rw [if_neg (by simpa using hs)] at hd;rw [←Hk.out,hd];rfl)
    rw [decide_eq_false hs] at CP
    clear hd Hk hs
    go_wp2_with(go_at_call 74;(with_reducible refine CP.out.mono ?_);rintro e w2 ⟨rfl,hb2⟩)
    go_roundw
    case rel=>exact⟨k+1,by go_num,by omega,hb.trans (hb2.mono hb.size),Hd⟩
    case measure=>simp [intOf];omega
  ·obtain rfl:k=N:=by omega
   have e1:decide ((k:Int)<k)=false:=by simp
   have Hd:Hid ((-1:Int)=X):=Lib.hid (by rw [←Hk.out,HN.out,List.drop_length];rfl)
   clear Hk
   go_wp2
   go_ret
   exact⟨by rw [←Hd.out];rfl,hb⟩
theorem back2_cl (a:Acc) (g:Nat) (seq:Int) (w:World) (hg:w.cell? ⟨g,0,none⟩=some (.int .i64 seq)) (hgl:g<w.heap.size) :
  Calls Try.prog 62 #[.agg #[.int .i64 a.seq, .bool a.store, .bool a.known, .int .u32 a.at_, .int .i64 a.many, .int .u32 a.data, .bool a.done], .pointer (some ⟨g,0,none⟩)] w fun e w'=>e = .returned (.bool (decide (seq≤a.seq)))∧Below w.heap.size w w':=by
 go_enter Try.func62,Try.ntmps62
 go_upto_region 1 with(fail)
 go_simp
 refine wp_gen fun wa hq=>?_
 have hB:Blk wa w.heap.size 82 (Acc.cells a):=by rw [hq];exact Blk.new w _ _
 have hbl:Below w.heap.size w wa:=by rw [hq];exact(Below.refl _ _).alloc (Nat.le_refl _) _
 clear hq
 have c0:wa.cell? ⟨w.heap.size,0,none⟩=some (.int .i64 a.seq):=hB.cell 0
 have c1:=(hbl.cell (p:=⟨g,0,none⟩) hgl).trans hg
 go_wp2
 go_ret
 exact⟨rfl,hbl⟩
theorem back2_idx (A:Option Addr) (cap:Nat) (l:List Acc) (seq:Int) (g:Nat) (w:World) (hl:l.length≤140737488355328) (hA:AccsAt w w.heap.size A l) (hg:w.cell? ⟨g,0,none⟩=some (.int .i64 seq)) (hgl:g<w.heap.size) :
  Calls Try.prog 47 #[.slice A l.length cap, .func (.func 62) #[] #[.pointer (some ⟨g,0,none⟩)]] w fun e w'=>e = .returned (.int .i64 (idxP (fun a:Acc=>decide (seq≤a.seq)) l 0))∧Below w.heap.size w w':=by
 obtain⟨X,hX⟩:∃ X,idxP (fun a:Acc=>decide (seq≤a.seq)) l 0=X:=⟨_,rfl⟩
 rw [hX]
 obtain⟨N,hN⟩:∃ N,N=l.length:=⟨_,rfl⟩
 rw [←hN] at hl ⊢
 have HA:=Lib.hid hA
 have HN:=Lib.hid hN
 have HX:Hid (idxP (fun a:Acc=>decide (seq≤a.seq)) (l.drop 0) ((0:Nat):Int)=X):=Lib.hid (by simpa using hX)
 have HG:=Lib.hid hg
 clear hA hN hX hg
 go_enter Try.func47,Try.ntmps47
 go_upto_region 2 with(fail)
 go_loopw [8] (fun v wr=>∃ k:Nat,v = .int .i64 k∧k≤N∧Below w.heap.size w wr∧Hid (idxP (fun a:Acc=>decide (seq≤a.seq)) (l.drop k) k=X)) (fun v _=>N+1 - (intOf v).toNat)
 case atStart=>exact⟨0,rfl,Nat.zero_le _,Below.refl _ _,HX⟩
 case round=>
  clear HX
  obtain⟨k,rfl,hk,hb,Hk⟩:=hrel
  by_cases hlt:k<N
  ·have hk':k<l.length:=by rw [←HN.out];exact hlt
   obtain⟨b,o,a,rfl,hgB,hs',hd',_,hcs⟩:=(HA.out.below hb).at_ hk'
   obtain⟨c0,c1,c2,c3,c4,c5,c6⟩:=hcs
   have hd:=idxP_drop (fun a:Acc=>decide (seq≤a.seq)) l hk' (k:Int)
   have es:l[k]'hk'=a:=by
    have:=List.drop_eq_getElem_cons hk'
    rw [hd'] at this
    injection this with this
    exact this.symm
   rw [es] at hd
   clear es hs' hd'
   have hgr:=(hb.cell (p:=⟨g,0,none⟩) hgl).trans HG.out
   have hglr:g<wr.heap.size:=Nat.lt_of_lt_of_le hgl hb.size
   have CP:=Lib.hid (back2_cl a g seq wr hgr hglr)
   clear hgr
   by_cases hs:seq≤a.seq
   ·have Hd:Hid ((k:Int)=X):=Lib.hid (by rw [if_pos (by simpa using hs)] at hd;rw [←Hk.out,hd])
    rw [decide_eq_true hs] at CP
    clear hd Hk hs
    go_wp2_with(go_at_call 62;(with_reducible refine CP.out.mono ?_);rintro e w2 ⟨rfl,hb2⟩)
    go_ret
    exact⟨by rw [←Hd.out];rfl,hb.trans (hb2.mono hb.size)⟩
   ·have Hd:Hid (idxP (fun a:Acc=>decide (seq≤a.seq)) (l.drop (k+1)) ((k+1:Nat):Int)=X):=Lib.hid (by rw [if_neg (by simpa using hs)] at hd;rw [←Hk.out,hd];rfl)
    rw [decide_eq_false hs] at CP
    clear hd Hk hs
    go_wp2_with(go_at_call 62;(with_reducible refine CP.out.mono ?_);rintro e w2 ⟨rfl,hb2⟩)
    go_roundw
    case rel=>exact⟨k+1,by go_num,by omega,hb.trans (hb2.mono hb.size),Hd⟩
    case measure=>simp [intOf];omega
  ·obtain rfl:k=N:=by omega
   have e1:decide ((k:Int)<k)=false:=by simp
   have Hd:Hid ((-1:Int)=X):=Lib.hid (by rw [←Hk.out,HN.out,List.drop_length];rfl)
   clear Hk
   go_wp2
   go_ret
   exact⟨by rw [←Hd.out];rfl,hb⟩
theorem gone1_cl (a:Acc) (g:Nat) (seq:Int) (w:World) (hg:w.cell? ⟨g,0,none⟩=some (.int .i64 seq)) (hgl:g<w.heap.size) :
  Calls Try.prog 23 #[.agg #[.int .i64 a.seq, .bool a.store, .bool a.known, .int .u32 a.at_, .int .i64 a.many, .int .u32 a.data, .bool a.done], .pointer (some ⟨g,0,none⟩)] w fun e w'=>e = .returned (.bool (decide (a.seq=seq)))∧Below w.heap.size w w':=by
 go_enter Try.func23,Try.ntmps23
 go_upto_region 1 with(fail)
 go_simp
 refine wp_gen fun wa hq=>?_
 have hB:Blk wa w.heap.size 82 (Acc.cells a):=by rw [hq];exact Blk.new w _ _
 have hbl:Below w.heap.size w wa:=by rw [hq];exact(Below.refl _ _).alloc (Nat.le_refl _) _
 clear hq
 have c0:wa.cell? ⟨w.heap.size,0,none⟩=some (.int .i64 a.seq):=hB.cell 0
 have c1:=(hbl.cell (p:=⟨g,0,none⟩) hgl).trans hg
 go_wp2
 go_ret
 exact⟨rfl,hbl⟩
theorem gone1_idx (A:Option Addr) (cap:Nat) (l:List Acc) (seq:Int) (g:Nat) (w:World) (hl:l.length≤140737488355328) (hA:AccsAt w w.heap.size A l) (hg:w.cell? ⟨g,0,none⟩=some (.int .i64 seq)) (hgl:g<w.heap.size) :
  Calls Try.prog 47 #[.slice A l.length cap, .func (.func 23) #[] #[.pointer (some ⟨g,0,none⟩)]] w fun e w'=>e = .returned (.int .i64 (idxP (fun a:Acc=>decide (a.seq=seq)) l 0))∧Below w.heap.size w w':=by
 obtain⟨X,hX⟩:∃ X,idxP (fun a:Acc=>decide (a.seq=seq)) l 0=X:=⟨_,rfl⟩
 rw [hX]
 obtain⟨N,hN⟩:∃ N,N=l.length:=⟨_,rfl⟩
 rw [←hN] at hl ⊢
 have HA:=Lib.hid hA
 have HN:=Lib.hid hN
 have HX:Hid (idxP (fun a:Acc=>decide (a.seq=seq)) (l.drop 0) ((0:Nat):Int)=X):=Lib.hid (by simpa using hX)
 have HG:=Lib.hid hg
 clear hA hN hX hg
 go_enter Try.func47,Try.ntmps47
 go_upto_region 2 with(fail)
 go_loopw [8] (fun v wr=>∃ k:Nat,v = .int .i64 k∧k≤N∧Below w.heap.size w wr∧Hid (idxP (fun a:Acc=>decide (a.seq=seq)) (l.drop k) k=X)) (fun v _=>N+1 - (intOf v).toNat)
 case atStart=>exact⟨0,rfl,Nat.zero_le _,Below.refl _ _,HX⟩
 case round=>
  clear HX
  obtain⟨k,rfl,hk,hb,Hk⟩:=hrel
  by_cases hlt:k<N
  ·have hk':k<l.length:=by rw [←HN.out];exact hlt
   obtain⟨b,o,a,rfl,hgB,hs',hd',_,hcs⟩:=(HA.out.below hb).at_ hk'
   obtain⟨c0,c1,c2,c3,c4,c5,c6⟩:=hcs
   have hd:=idxP_drop (fun a:Acc=>decide (a.seq=seq)) l hk' (k:Int)
   have es:l[k]'hk'=a:=by
    have:=List.drop_eq_getElem_cons hk'
    rw [hd'] at this
    injection this with this
    exact this.symm
   rw [es] at hd
   clear es hs' hd'
   have hgr:=(hb.cell (p:=⟨g,0,none⟩) hgl).trans HG.out
   have hglr:g<wr.heap.size:=Nat.lt_of_lt_of_le hgl hb.size
   have CP:=Lib.hid (gone1_cl a g seq wr hgr hglr)
   clear hgr
   by_cases hs:a.seq=seq
   ·have Hd:Hid ((k:Int)=X):=Lib.hid (by rw [if_pos (by simpa using hs)] at hd;rw [←Hk.out,hd])
    rw [decide_eq_true hs] at CP
    clear hd Hk hs
    go_wp2_with(go_at_call 23;(with_reducible refine CP.out.mono ?_);rintro e w2 ⟨rfl,hb2⟩)
    go_ret
    exact⟨by rw [←Hd.out];rfl,hb.trans (hb2.mono hb.size)⟩
   ·have Hd:Hid (idxP (fun a:Acc=>decide (a.seq=seq)) (l.drop (k+1)) ((k+1:Nat):Int)=X):=Lib.hid (by rw [if_neg (by simpa using hs)] at hd;rw [←Hk.out,hd];rfl)
    rw [decide_eq_false hs] at CP
    clear hd Hk hs
    go_wp2_with(go_at_call 23;(with_reducible refine CP.out.mono ?_);rintro e w2 ⟨rfl,hb2⟩)
    go_roundw
    case rel=>exact⟨k+1,by go_num,by omega,hb.trans (hb2.mono hb.size),Hd⟩
    case measure=>simp [intOf];omega
  ·obtain rfl:k=N:=by omega
   have e1:decide ((k:Int)<k)=false:=by simp
   have Hd:Hid ((-1:Int)=X):=Lib.hid (by rw [←Hk.out,HN.out,List.drop_length];rfl)
   clear Hk
   go_wp2
   go_ret
   exact⟨by rw [←Hd.out];rfl,hb⟩
section
variable {B:Nat} {w:World} {g:Nat} {C:Core} {L:Lay} {ps:List Nat} {cs:Array Value}
theorem find_any (h:CoreIs B w g C L ps cs) (seq:Int) (hn:C.ops.length≤1000) :
  Calls Try.prog 58 #[.pointer (some ⟨g,0,none⟩), .int .i64 seq] w fun e w'=>e = .returned (.int .i64 (findU C.ops seq))∧Below w.heap.size w w':=by
 have c8:=h.ops
 have hr:=h.rows.ptrs
 obtain⟨A,c,hv,_,_,_⟩:=ptr_slice hr
 rw [hv] at c8 hr
 have hb:=(Below.refl w.heap.size w).alloc (Nat.le_refl _) (.cells #[.int .i64 seq] 3)
 have CI:=Lib.hid (find1_idx A c B C.ops ps seq w.heap.size (w.alloc (.cells #[.int .i64 seq] 3)) (by rw [h.rows.uops.len];omega) (hr.kept (below_grownBy hb) (Classical.em _)) (h.rows.uops.kept (below_grownBy hb) (fun p _=>by simp)) ((Blk.new w 3 #[.int .i64 seq]).cell 0) (by simp))
 have zg:=h.lt
 clear h hr hv
 go_enter Try.func58,Try.ntmps58
 go_wp2_with(go_at_call 81;(with_reducible refine CI.out.mono ?_);rintro e w2 ⟨rfl,hb2⟩)
 go_ret
 exact⟨rfl,hb.trans (hb2.mono hb.size)⟩
theorem accs_slice {base:Nat} {v:Value} {l:List Acc} (h:w.ownsRow base 82 7 v l.length (accsV l)):∃ A c,v = .slice A l.length c∧AccsAt w w.heap.size A l∧(A=none→l=[]∧c=0)∧l.length≤c∧c≤9223372036854775807:=by
 have h0:=h
 rcases h.2 with⟨rfl,hz⟩ | ⟨g,c,cur,rfl,_,_,hc,hm,_⟩
 ·have hz':=List.eq_nil_of_length_eq_zero hz
  subst hz'
  exact⟨none,0,rfl,fun h=>absurd rfl h,fun _=>⟨rfl,rfl⟩,Nat.le_refl _,by decide⟩
 ·exact⟨_,c,rfl,AccsAt.own h0,fun h=>(by cases h),hc,by unfold maxLen at hm;omega⟩
theorem at_any (h:CoreIs B w g C L ps cs) (seq:Int) (hn:C.access.length≤1000) :
  Calls Try.prog 49 #[.pointer (some ⟨g,0,none⟩), .int .i64 seq] w fun e w'=>e = .returned (.int .i64 (findA C.access seq))∧Below w.heap.size w w':=by
 have c8:=h.access
 obtain⟨A,c,hv,hS,_,_⟩:=accs_slice h.rows.access
 rw [hv] at c8
 have hb:=(Below.refl w.heap.size w).alloc (Nat.le_refl _) (.cells #[.int .i64 seq] 3)
 have CI:=Lib.hid (at1_idx A c C.access seq w.heap.size (w.alloc (.cells #[.int .i64 seq] 3)) (by omega) ((hS.below hb).mono hb.size) ((Blk.new w 3 #[.int .i64 seq]).cell 0) (by simp))
 have zg:=h.lt
 clear h hS hv
 go_enter Try.func49,Try.ntmps49
 go_wp2_with(go_at_call 47;(with_reducible refine CI.out.mono ?_);rintro e w2 ⟨rfl,hb2⟩)
 go_ret
 exact⟨rfl,hb.trans (hb2.mono hb.size)⟩
end
end Go.Proofs.Ytapgojgcmlnbgac
