/- Parts of a proof. -/
import Derived.Test.YtapgojgcmlnbgaaGreatDoorTZ
import Derived.Test.YtapgojgcmlnbgaaGreatDoorT02
import Derived.Test.YtapgojgcmlnbgaaGreatDoorT09
import Derived.Test.YtapgojgcmlnbgaaGreatDoorT05
import Derived.Test.YtapgojgcmlnbgaaGreatDoorT08
set_option linter.unusedSimpArgs false
set_option linter.unusedVariables false
set_option maxRecDepth 100000
set_option maxHeartbeats 16000000
namespace Go.Proofs.YtapgojgcmlnbgaaGreatDoor
open Go.RowKit
theorem Fc {w:World} {B:Nat} {v:Value} {ps:List Nat} (h:B8 w B v ps):∃ A c,v = .slice A ps.length c∧ps.length≤c∧c≤9223372036854775807∧(A=none→ps=[]∧c=0):=by
 rcases h with⟨rfl,rfl⟩ | ⟨go,oo,cap,cur,rfl,hb,hB,h1,h2,h3,h4⟩
 ·exact⟨none,0,rfl,qC _,by omega,fun _=>⟨rfl,rfl⟩⟩
 ·exact⟨_,cap,rfl,h1,h2,fun h=>by cases h⟩
theorem G2 {w:World} {B:Nat} {A:Option Addr} {n c:Nat} {ps:List Nat} (h:B8 w B (.slice A n c) ps) {i:Nat} (hi:i<ps.length):∃ b o,A=some ⟨b,o,none⟩∧b<w.heap.size∧w.cell? ⟨b,o+i,none⟩=some (.pointer (some ⟨ps[i],0,none⟩)):=by
 rcases h with⟨_,rfl⟩ | ⟨go,oo,cap,cur,hv,hb,hB,h1,h2,h3,h4⟩
 ·simp at hi
 ·injection hv with hv
  exact⟨go,oo,hv,hB.lt,(hB.cell _).trans (h4 i _ (qI hi))⟩
theorem Ahl (u:Uop) (p g:Nat) (seq:Int) (w:World) (hp:Blk w p 107 u.cells) (hg:w.cell? ⟨g,0,none⟩=some (.int .i64 seq)) (hgl:g<w.heap.size) :
  Calls Tryz.prog 139 #[.pointer (some ⟨p,0,none⟩), .pointer (some ⟨g,0,none⟩)] w fun e w'=>e = .returned (.bool (decide (u.seq=seq)))∧Below w.heap.size w w':=by
 have c0:w.cell? ⟨p,0,none⟩=some (.int .i64 u.seq):=hp.cell 0
 have zp:=hp.lt
 clear hp
 go_enter Tryz.func139,Tryz.ntmps139
 go_upto_region 1 with(fail)
 go_simp
 refine Ad 103 24 127 [0,1,2,3,4,5,6] (by kernel_rfl) (by kernel_rfl) (by kernel_rfl) rfl ?_
 refine rR (fun wq hwq=>i2 (hwq.at_ zp c0) (hwq.at_ hgl hg)) ?_
 refine Aj ?_
 rintro w1 rfl
 go_wp2_with(fail)
 go_ret
 exact⟨rfl,by first | exact qB _ _ | exact(qB _ _).drew⟩
theorem Afw (A:Option Addr) (cap B:Nat) (us:List Uop) (ps:List Nat) (seq:Int) (g:Nat) (w:World) (hl:ps.length≤140737488355328) (hA:B8 w B (.slice A ps.length cap) ps) (hU:C9 w B us ps) (hg:w.cell? ⟨g,0,none⟩=some (.int .i64 seq)) (hgl:g<w.heap.size) :
  Calls Tryz.prog 138 #[.slice A ps.length cap, .func (.func 139) #[] #[.pointer (some ⟨g,0,none⟩)]] w fun e w'=>e = .returned (.int .i64 (Cy (fun u:Uop=>decide (u.seq=seq)) us 0))∧Below w.heap.size w w':=by
 obtain⟨X,hX⟩:∃ X,Cy (fun u:Uop=>decide (u.seq=seq)) us 0=X:=⟨_,rfl⟩
 rw [hX]
 obtain⟨N,hN⟩:∃ N,N=ps.length:=⟨_,rfl⟩
 rw [←hN] at hl hA ⊢
 have HN2:=qA (hN.trans hU.len)
 have HA:=qA hA
 have HU:=qA hU
 have HN:=qA hN
 have HX:Hid (Cy (fun u:Uop=>decide (u.seq=seq)) (us.drop 0) ((0:Nat):Int)=X):=qA (by simpa using hX)
 have HG:=qA hg
 clear hA hN hX hg hU
 go_enter Tryz.func138,Tryz.ntmps138
 go_upto_region 2 with(fail)
 go_loopw [8] (fun v wr=>∃ k:Nat,v = .int .i64 k∧k≤N∧Below w.heap.size w wr∧Hid (Cy (fun u:Uop=>decide (u.seq=seq)) (us.drop k) k=X)) (fun v _=>N+1 - (intOf v).toNat)
 case atStart=>exact⟨0,rfl,Nat.zero_le _,qB _ _,HX⟩
 case round=>
  clear HX
  obtain⟨k,rfl,hk,hb,Hk⟩:=hrel
  by_cases hlt:k<N
  ·have hk':k<us.length:=by rw [←HN2.out];exact hlt
   have hk2:k<ps.length:=by rw [←HN.out];exact hlt
   obtain⟨b,o,rfl,hgB,c0⟩:=G2 (HA.out.kept (Cg hb) (Classical.em _)) hk2
   have hd:=Ik (fun u:Uop=>decide (u.seq=seq)) us hk' (k:Int)
   have hu:=((HU.out.kept (Cg hb) (fun p _=>by simp)).at_ k _ _ (qI hk') (qI hk2)).1
   generalize us[k]'hk'=u at *
   generalize ps[k]'hk2=q at *
   have hgr:=(hb.cell (p:=⟨g,0,none⟩) hgl).trans HG.out
   have hglr:g<wr.heap.size:=qE hgl hb.size
   have CP:=qA (Ahl u q g seq wr hu hgr hglr)
   clear hgr hu
   by_cases hs:u.seq=seq
   ·have Hd:Hid ((k:Int)=X):=qA (by rw [if_pos (by simpa using hs)] at hd;rw [←Hk.out,hd])
    rw [qF hs] at CP
    clear hd Hk hs
    go_wp2_with(go_at_call 139;(with_reducible refine CP.out.mono ?_);rintro e w2 ⟨rfl,hb2⟩)
    go_ret
    exact⟨by rw [←Hd.out];rfl,hb.trans (hb2.mono hb.size)⟩
   ·have Hd:Hid (Cy (fun u:Uop=>decide (u.seq=seq)) (us.drop (k+1)) ((k+1:Nat):Int)=X):=qA (by rw [if_neg (by simpa using hs)] at hd;rw [←Hk.out,hd];rfl)
    rw [qG hs] at CP
    clear hd Hk hs
    go_wp2_with(go_at_call 139;(with_reducible refine CP.out.mono ?_);rintro e w2 ⟨rfl,hb2⟩)
    go_roundw
    case rel=>exact⟨k+1,by go_num,by omega,hb.trans (hb2.mono hb.size),Hd⟩
    case measure=>simp [intOf];omega
  ·obtain rfl:k=N:=by omega
   have e1:decide ((k:Int)<k)=false:=by simp
   have Hd:Hid ((-1:Int)=X):=qA (by rw [←Hk.out,HN2.out,List.drop_length];rfl)
   clear Hk
   go_wp2
   go_ret
   exact⟨by rw [←Hd.out];rfl,hb⟩
theorem Zz (u:Uop) (p g:Nat) (seq:Int) (w:World) (hp:Blk w p 107 u.cells) (hg:w.cell? ⟨g,0,none⟩=some (.int .i64 seq)) (hgl:g<w.heap.size) :
  Calls Tryz.prog 103 #[.pointer (some ⟨p,0,none⟩), .pointer (some ⟨g,0,none⟩)] w fun e w'=>e = .returned (.bool (decide (seq≤u.seq)))∧Below w.heap.size w w':=by
 have c0:w.cell? ⟨p,0,none⟩=some (.int .i64 u.seq):=hp.cell 0
 have zp:=hp.lt
 clear hp
 go_enter Tryz.func103,Tryz.ntmps103
 go_upto_region 1 with(fail)
 go_simp
 refine Ad 103 24 127 [0,1,2,3,4,5,6] (by kernel_rfl) (by kernel_rfl) (by kernel_rfl) rfl ?_
 refine rR (fun wq hwq=>i2 (hwq.at_ zp c0) (hwq.at_ hgl hg)) ?_
 refine Aj ?_
 rintro w1 rfl
 go_wp2_with(fail)
 go_ret
 exact⟨rfl,by first | exact qB _ _ | exact(qB _ _).drew⟩
theorem Aex (A:Option Addr) (cap B:Nat) (us:List Uop) (ps:List Nat) (seq:Int) (g:Nat) (w:World) (hl:ps.length≤140737488355328) (hA:B8 w B (.slice A ps.length cap) ps) (hU:C9 w B us ps) (hg:w.cell? ⟨g,0,none⟩=some (.int .i64 seq)) (hgl:g<w.heap.size) :
  Calls Tryz.prog 138 #[.slice A ps.length cap, .func (.func 103) #[] #[.pointer (some ⟨g,0,none⟩)]] w fun e w'=>e = .returned (.int .i64 (Cy (fun u:Uop=>decide (seq≤u.seq)) us 0))∧Below w.heap.size w w':=by
 obtain⟨X,hX⟩:∃ X,Cy (fun u:Uop=>decide (seq≤u.seq)) us 0=X:=⟨_,rfl⟩
 rw [hX]
 obtain⟨N,hN⟩:∃ N,N=ps.length:=⟨_,rfl⟩
 rw [←hN] at hl hA ⊢
 have HN2:=qA (hN.trans hU.len)
 have HA:=qA hA
 have HU:=qA hU
 have HN:=qA hN
 have HX:Hid (Cy (fun u:Uop=>decide (seq≤u.seq)) (us.drop 0) ((0:Nat):Int)=X):=qA (by simpa using hX)
 have HG:=qA hg
 clear hA hN hX hg hU
 go_enter Tryz.func138,Tryz.ntmps138
 go_upto_region 2 with(fail)
 go_loopw [8] (fun v wr=>∃ k:Nat,v = .int .i64 k∧k≤N∧Below w.heap.size w wr∧Hid (Cy (fun u:Uop=>decide (seq≤u.seq)) (us.drop k) k=X)) (fun v _=>N+1 - (intOf v).toNat)
 case atStart=>exact⟨0,rfl,Nat.zero_le _,qB _ _,HX⟩
 case round=>
  clear HX
  obtain⟨k,rfl,hk,hb,Hk⟩:=hrel
  by_cases hlt:k<N
  ·have hk':k<us.length:=by rw [←HN2.out];exact hlt
   have hk2:k<ps.length:=by rw [←HN.out];exact hlt
   obtain⟨b,o,rfl,hgB,c0⟩:=G2 (HA.out.kept (Cg hb) (Classical.em _)) hk2
   have hd:=Ik (fun u:Uop=>decide (seq≤u.seq)) us hk' (k:Int)
   have hu:=((HU.out.kept (Cg hb) (fun p _=>by simp)).at_ k _ _ (qI hk') (qI hk2)).1
   generalize us[k]'hk'=u at *
   generalize ps[k]'hk2=q at *
   have hgr:=(hb.cell (p:=⟨g,0,none⟩) hgl).trans HG.out
   have hglr:g<wr.heap.size:=qE hgl hb.size
   have CP:=qA (Zz u q g seq wr hu hgr hglr)
   clear hgr hu
   by_cases hs:seq≤u.seq
   ·have Hd:Hid ((k:Int)=X):=qA (by rw [if_pos (by simpa using hs)] at hd;rw [←Hk.out,hd])
    rw [qF hs] at CP
    clear hd Hk hs
    go_wp2_with(go_at_call 103;(with_reducible refine CP.out.mono ?_);rintro e w2 ⟨rfl,hb2⟩)
    go_ret
    exact⟨by rw [←Hd.out];rfl,hb.trans (hb2.mono hb.size)⟩
   ·have Hd:Hid (Cy (fun u:Uop=>decide (seq≤u.seq)) (us.drop (k+1)) ((k+1:Nat):Int)=X):=qA (by rw [if_neg (by simpa using hs)] at hd;rw [←Hk.out,hd];rfl)
    rw [qG hs] at CP
    clear hd Hk hs
    go_wp2_with(go_at_call 103;(with_reducible refine CP.out.mono ?_);rintro e w2 ⟨rfl,hb2⟩)
    go_roundw
    case rel=>exact⟨k+1,by go_num,by omega,hb.trans (hb2.mono hb.size),Hd⟩
    case measure=>simp [intOf];omega
  ·obtain rfl:k=N:=by omega
   have e1:decide ((k:Int)<k)=false:=by simp
   have Hd:Hid ((-1:Int)=X):=qA (by rw [←Hk.out,HN2.out,List.drop_length];rfl)
   clear Hk
   go_wp2
   go_ret
   exact⟨by rw [←Hd.out];rfl,hb⟩
theorem Aki (a:Acc) (g:Nat) (seq:Int) (w:World) (hg:w.cell? ⟨g,0,none⟩=some (.int .i64 seq)) (hgl:g<w.heap.size) :
  Calls Tryz.prog 135 #[.agg #[.int .i64 a.seq, .bool a.store, .bool a.known, .int .u32 a.at_, .int .i64 a.many, .int .u32 a.data, .bool a.done], .pointer (some ⟨g,0,none⟩)] w fun e w'=>e = .returned (.bool (decide (a.seq=seq)))∧Below w.heap.size w w':=by
 go_enter Tryz.func135,Tryz.ntmps135
 go_upto_region 1 with(fail)
 go_simp
 refine A1 fun wa hq=>?_
 have hB:Blk wa w.heap.size 139 (Acc.cells a):=by rw [hq];exact Blk.new w _ _
 have hbl:Below w.heap.size w wa:=by rw [hq];exact(qB _ _).alloc (qC _) _
 clear hq
 have c0:wa.cell? ⟨w.heap.size,0,none⟩=some (.int .i64 a.seq):=hB.cell 0
 have c1:=(hbl.cell (p:=⟨g,0,none⟩) hgl).trans hg
 go_wp2
 go_ret
 exact⟨rfl,hbl⟩
theorem Ai6 (A:Option Addr) (cap:Nat) (l:List Acc) (seq:Int) (g:Nat) (w:World) (hl:l.length≤140737488355328) (hA:Ee w w.heap.size A l) (hg:w.cell? ⟨g,0,none⟩=some (.int .i64 seq)) (hgl:g<w.heap.size) :
  Calls Tryz.prog 95 #[.slice A l.length cap, .func (.func 135) #[] #[.pointer (some ⟨g,0,none⟩)]] w fun e w'=>e = .returned (.int .i64 (Cy (fun a:Acc=>decide (a.seq=seq)) l 0))∧Below w.heap.size w w':=by
 obtain⟨X,hX⟩:∃ X,Cy (fun a:Acc=>decide (a.seq=seq)) l 0=X:=⟨_,rfl⟩
 rw [hX]
 obtain⟨N,hN⟩:∃ N,N=l.length:=⟨_,rfl⟩
 rw [←hN] at hl ⊢
 have HA:=qA hA
 have HN:=qA hN
 have HX:Hid (Cy (fun a:Acc=>decide (a.seq=seq)) (l.drop 0) ((0:Nat):Int)=X):=qA (by simpa using hX)
 have HG:=qA hg
 clear hA hN hX hg
 go_enter Tryz.func95,Tryz.ntmps95
 go_upto_region 2 with(fail)
 go_loopw [8] (fun v wr=>∃ k:Nat,v = .int .i64 k∧k≤N∧Below w.heap.size w wr∧Hid (Cy (fun a:Acc=>decide (a.seq=seq)) (l.drop k) k=X)) (fun v _=>N+1 - (intOf v).toNat)
 case atStart=>exact⟨0,rfl,Nat.zero_le _,qB _ _,HX⟩
 case round=>
  clear HX
  obtain⟨k,rfl,hk,hb,Hk⟩:=hrel
  by_cases hlt:k<N
  ·have hk':k<l.length:=by rw [←HN.out];exact hlt
   obtain⟨b,o,a,rfl,hgB,hs',hd',_,hcs⟩:=(HA.out.below hb).at_ hk'
   obtain⟨c0,c1,c2,c3,c4,c5,c6⟩:=hcs
   have hd:=Ik (fun a:Acc=>decide (a.seq=seq)) l hk' (k:Int)
   have es:l[k]'hk'=a:=by
    have:=qM hk'
    rw [hd'] at this
    injection this with this
    exact this.symm
   rw [es] at hd
   clear es hs' hd'
   have hgr:=(hb.cell (p:=⟨g,0,none⟩) hgl).trans HG.out
   have hglr:g<wr.heap.size:=qE hgl hb.size
   have CP:=qA (Aki a g seq wr hgr hglr)
   clear hgr
   by_cases hs:a.seq=seq
   ·have Hd:Hid ((k:Int)=X):=qA (by rw [if_pos (by simpa using hs)] at hd;rw [←Hk.out,hd])
    rw [qF hs] at CP
    clear hd Hk hs
    go_wp2_with(go_at_call 135;(with_reducible refine CP.out.mono ?_);rintro e w2 ⟨rfl,hb2⟩)
    go_ret
    exact⟨by rw [←Hd.out];rfl,hb.trans (hb2.mono hb.size)⟩
   ·have Hd:Hid (Cy (fun a:Acc=>decide (a.seq=seq)) (l.drop (k+1)) ((k+1:Nat):Int)=X):=qA (by rw [if_neg (by simpa using hs)] at hd;rw [←Hk.out,hd];rfl)
    rw [qG hs] at CP
    clear hd Hk hs
    go_wp2_with(go_at_call 135;(with_reducible refine CP.out.mono ?_);rintro e w2 ⟨rfl,hb2⟩)
    go_roundw
    case rel=>exact⟨k+1,by go_num,by omega,hb.trans (hb2.mono hb.size),Hd⟩
    case measure=>simp [intOf];omega
  ·obtain rfl:k=N:=by omega
   have e1:decide ((k:Int)<k)=false:=by simp
   have Hd:Hid ((-1:Int)=X):=qA (by rw [←Hk.out,HN.out,List.drop_length];rfl)
   clear Hk
   go_wp2
   go_ret
   exact⟨by rw [←Hd.out];rfl,hb⟩
theorem Z0 (a:Acc) (g:Nat) (seq:Int) (w:World) (hg:w.cell? ⟨g,0,none⟩=some (.int .i64 seq)) (hgl:g<w.heap.size) :
  Calls Tryz.prog 104 #[.agg #[.int .i64 a.seq, .bool a.store, .bool a.known, .int .u32 a.at_, .int .i64 a.many, .int .u32 a.data, .bool a.done], .pointer (some ⟨g,0,none⟩)] w fun e w'=>e = .returned (.bool (decide (seq≤a.seq)))∧Below w.heap.size w w':=by
 go_enter Tryz.func104,Tryz.ntmps104
 go_upto_region 1 with(fail)
 go_simp
 refine A1 fun wa hq=>?_
 have hB:Blk wa w.heap.size 139 (Acc.cells a):=by rw [hq];exact Blk.new w _ _
 have hbl:Below w.heap.size w wa:=by rw [hq];exact(qB _ _).alloc (qC _) _
 clear hq
 have c0:wa.cell? ⟨w.heap.size,0,none⟩=some (.int .i64 a.seq):=hB.cell 0
 have c1:=(hbl.cell (p:=⟨g,0,none⟩) hgl).trans hg
 go_wp2
 go_ret
 exact⟨rfl,hbl⟩
theorem Ae0 (A:Option Addr) (cap:Nat) (l:List Acc) (seq:Int) (g:Nat) (w:World) (hl:l.length≤140737488355328) (hA:Ee w w.heap.size A l) (hg:w.cell? ⟨g,0,none⟩=some (.int .i64 seq)) (hgl:g<w.heap.size) :
  Calls Tryz.prog 95 #[.slice A l.length cap, .func (.func 104) #[] #[.pointer (some ⟨g,0,none⟩)]] w fun e w'=>e = .returned (.int .i64 (Cy (fun a:Acc=>decide (seq≤a.seq)) l 0))∧Below w.heap.size w w':=by
 obtain⟨X,hX⟩:∃ X,Cy (fun a:Acc=>decide (seq≤a.seq)) l 0=X:=⟨_,rfl⟩
 rw [hX]
 obtain⟨N,hN⟩:∃ N,N=l.length:=⟨_,rfl⟩
 rw [←hN] at hl ⊢
 have HA:=qA hA
 have HN:=qA hN
 have HX:Hid (Cy (fun a:Acc=>decide (seq≤a.seq)) (l.drop 0) ((0:Nat):Int)=X):=qA (by simpa using hX)
 have HG:=qA hg
 clear hA hN hX hg
 go_enter Tryz.func95,Tryz.ntmps95
 go_upto_region 2 with(fail)
 go_loopw [8] (fun v wr=>∃ k:Nat,v = .int .i64 k∧k≤N∧Below w.heap.size w wr∧Hid (Cy (fun a:Acc=>decide (seq≤a.seq)) (l.drop k) k=X)) (fun v _=>N+1 - (intOf v).toNat)
 case atStart=>exact⟨0,rfl,Nat.zero_le _,qB _ _,HX⟩
 case round=>
  clear HX
  obtain⟨k,rfl,hk,hb,Hk⟩:=hrel
  by_cases hlt:k<N
  ·have hk':k<l.length:=by rw [←HN.out];exact hlt
   obtain⟨b,o,a,rfl,hgB,hs',hd',_,hcs⟩:=(HA.out.below hb).at_ hk'
   obtain⟨c0,c1,c2,c3,c4,c5,c6⟩:=hcs
   have hd:=Ik (fun a:Acc=>decide (seq≤a.seq)) l hk' (k:Int)
   have es:l[k]'hk'=a:=by
    have:=qM hk'
    rw [hd'] at this
    injection this with this
    exact this.symm
   rw [es] at hd
   clear es hs' hd'
   have hgr:=(hb.cell (p:=⟨g,0,none⟩) hgl).trans HG.out
   have hglr:g<wr.heap.size:=qE hgl hb.size
   have CP:=qA (Z0 a g seq wr hgr hglr)
   clear hgr
   by_cases hs:seq≤a.seq
   ·have Hd:Hid ((k:Int)=X):=qA (by rw [if_pos (by simpa using hs)] at hd;rw [←Hk.out,hd])
    rw [qF hs] at CP
    clear hd Hk hs
    go_wp2_with(go_at_call 104;(with_reducible refine CP.out.mono ?_);rintro e w2 ⟨rfl,hb2⟩)
    go_ret
    exact⟨by rw [←Hd.out];rfl,hb.trans (hb2.mono hb.size)⟩
   ·have Hd:Hid (Cy (fun a:Acc=>decide (seq≤a.seq)) (l.drop (k+1)) ((k+1:Nat):Int)=X):=qA (by rw [if_neg (by simpa using hs)] at hd;rw [←Hk.out,hd];rfl)
    rw [qG hs] at CP
    clear hd Hk hs
    go_wp2_with(go_at_call 104;(with_reducible refine CP.out.mono ?_);rintro e w2 ⟨rfl,hb2⟩)
    go_roundw
    case rel=>exact⟨k+1,by go_num,by omega,hb.trans (hb2.mono hb.size),Hd⟩
    case measure=>simp [intOf];omega
  ·obtain rfl:k=N:=by omega
   have e1:decide ((k:Int)<k)=false:=by simp
   have Hd:Hid ((-1:Int)=X):=qA (by rw [←Hk.out,HN.out,List.drop_length];rfl)
   clear Hk
   go_wp2
   go_ret
   exact⟨by rw [←Hd.out];rfl,hb⟩
theorem Aaw (a:Acc) (g:Nat) (seq:Int) (w:World) (hg:w.cell? ⟨g,0,none⟩=some (.int .i64 seq)) (hgl:g<w.heap.size) :
  Calls Tryz.prog 62 #[.agg #[.int .i64 a.seq, .bool a.store, .bool a.known, .int .u32 a.at_, .int .i64 a.many, .int .u32 a.data, .bool a.done], .pointer (some ⟨g,0,none⟩)] w fun e w'=>e = .returned (.bool (decide (a.seq=seq)))∧Below w.heap.size w w':=by
 go_enter Tryz.func62,Tryz.ntmps62
 go_upto_region 1 with(fail)
 go_simp
 refine A1 fun wa hq=>?_
 have hB:Blk wa w.heap.size 139 (Acc.cells a):=by rw [hq];exact Blk.new w _ _
 have hbl:Below w.heap.size w wa:=by rw [hq];exact(qB _ _).alloc (qC _) _
 clear hq
 have c0:wa.cell? ⟨w.heap.size,0,none⟩=some (.int .i64 a.seq):=hB.cell 0
 have c1:=(hbl.cell (p:=⟨g,0,none⟩) hgl).trans hg
 go_wp2
 go_ret
 exact⟨rfl,hbl⟩
theorem Af0 (A:Option Addr) (cap:Nat) (l:List Acc) (seq:Int) (g:Nat) (w:World) (hl:l.length≤140737488355328) (hA:Ee w w.heap.size A l) (hg:w.cell? ⟨g,0,none⟩=some (.int .i64 seq)) (hgl:g<w.heap.size) :
  Calls Tryz.prog 95 #[.slice A l.length cap, .func (.func 62) #[] #[.pointer (some ⟨g,0,none⟩)]] w fun e w'=>e = .returned (.int .i64 (Cy (fun a:Acc=>decide (a.seq=seq)) l 0))∧Below w.heap.size w w':=by
 obtain⟨X,hX⟩:∃ X,Cy (fun a:Acc=>decide (a.seq=seq)) l 0=X:=⟨_,rfl⟩
 rw [hX]
 obtain⟨N,hN⟩:∃ N,N=l.length:=⟨_,rfl⟩
 rw [←hN] at hl ⊢
 have HA:=qA hA
 have HN:=qA hN
 have HX:Hid (Cy (fun a:Acc=>decide (a.seq=seq)) (l.drop 0) ((0:Nat):Int)=X):=qA (by simpa using hX)
 have HG:=qA hg
 clear hA hN hX hg
 go_enter Tryz.func95,Tryz.ntmps95
 go_upto_region 2 with(fail)
 go_loopw [8] (fun v wr=>∃ k:Nat,v = .int .i64 k∧k≤N∧Below w.heap.size w wr∧Hid (Cy (fun a:Acc=>decide (a.seq=seq)) (l.drop k) k=X)) (fun v _=>N+1 - (intOf v).toNat)
 case atStart=>exact⟨0,rfl,Nat.zero_le _,qB _ _,HX⟩
 case round=>
  clear HX
  obtain⟨k,rfl,hk,hb,Hk⟩:=hrel
  by_cases hlt:k<N
  ·have hk':k<l.length:=by rw [←HN.out];exact hlt
   obtain⟨b,o,a,rfl,hgB,hs',hd',_,hcs⟩:=(HA.out.below hb).at_ hk'
   obtain⟨c0,c1,c2,c3,c4,c5,c6⟩:=hcs
   have hd:=Ik (fun a:Acc=>decide (a.seq=seq)) l hk' (k:Int)
   have es:l[k]'hk'=a:=by
    have:=qM hk'
    rw [hd'] at this
    injection this with this
    exact this.symm
   rw [es] at hd
   clear es hs' hd'
   have hgr:=(hb.cell (p:=⟨g,0,none⟩) hgl).trans HG.out
   have hglr:g<wr.heap.size:=qE hgl hb.size
   have CP:=qA (Aaw a g seq wr hgr hglr)
   clear hgr
   by_cases hs:a.seq=seq
   ·have Hd:Hid ((k:Int)=X):=qA (by rw [if_pos (by simpa using hs)] at hd;rw [←Hk.out,hd])
    rw [qF hs] at CP
    clear hd Hk hs
    go_wp2_with(go_at_call 62;(with_reducible refine CP.out.mono ?_);rintro e w2 ⟨rfl,hb2⟩)
    go_ret
    exact⟨by rw [←Hd.out];rfl,hb.trans (hb2.mono hb.size)⟩
   ·have Hd:Hid (Cy (fun a:Acc=>decide (a.seq=seq)) (l.drop (k+1)) ((k+1:Nat):Int)=X):=qA (by rw [if_neg (by simpa using hs)] at hd;rw [←Hk.out,hd];rfl)
    rw [qG hs] at CP
    clear hd Hk hs
    go_wp2_with(go_at_call 62;(with_reducible refine CP.out.mono ?_);rintro e w2 ⟨rfl,hb2⟩)
    go_roundw
    case rel=>exact⟨k+1,by go_num,by omega,hb.trans (hb2.mono hb.size),Hd⟩
    case measure=>simp [intOf];omega
  ·obtain rfl:k=N:=by omega
   have e1:decide ((k:Int)<k)=false:=by simp
   have Hd:Hid ((-1:Int)=X):=qA (by rw [←Hk.out,HN.out,List.drop_length];rfl)
   clear Hk
   go_wp2
   go_ret
   exact⟨by rw [←Hd.out];rfl,hb⟩
section
variable {B:Nat} {w:World} {g:Nat} {C:Core} {L:Lay} {ps:List Nat} {cs:Array Value}
theorem Aaq (h:Af B w g C L ps cs) (seq:Int) (hn:C.ops.length≤1000) :
  Calls Tryz.prog 100 #[.pointer (some ⟨g,0,none⟩), .int .i64 seq] w fun e w'=>e = .returned (.int .i64 (I6 C.ops seq))∧Below w.heap.size w w':=by
 have c8:=h.ops
 have hr:=h.rows.ptrs
 obtain⟨A,c,hv,_,_,_⟩:=Fc hr
 rw [hv] at c8 hr
 have hb:=(qB w.heap.size w).alloc (qC _) (.cells #[.int .i64 seq] 3)
 have CI:=qA (Afw A c B C.ops ps seq w.heap.size (w.alloc (.cells #[.int .i64 seq] 3)) (by rw [h.rows.uops.len];omega) (hr.kept (Cg hb) (Classical.em _)) (h.rows.uops.kept (Cg hb) (fun p _=>by simp)) ((Blk.new w 3 #[.int .i64 seq]).cell 0) (by simp))
 have zg:=h.lt
 clear h hr hv
 go_enter Tryz.func100,Tryz.ntmps100
 go_wp2_with(go_at_call 138;(with_reducible refine CI.out.mono ?_);rintro e w2 ⟨rfl,hb2⟩)
 go_ret
 exact⟨rfl,hb.trans (hb2.mono hb.size)⟩
theorem J0 {base:Nat} {v:Value} {l:List Acc} (h:w.ownsRow base 139 7 v l.length (Dp l)):∃ A c,v = .slice A l.length c∧Ee w w.heap.size A l∧(A=none→l=[]∧c=0)∧l.length≤c∧c≤9223372036854775807:=by
 have h0:=h
 rcases h.2 with⟨rfl,hz⟩ | ⟨g,c,cur,rfl,_,_,hc,hm,_⟩
 ·have hz':=qN hz
  subst hz'
  exact⟨none,0,rfl,fun h=>absurd rfl h,fun _=>⟨rfl,rfl⟩,qC _,by decide⟩
 ·exact⟨_,c,rfl,Ee.own h0,fun h=>(by cases h),hc,by unfold maxLen at hm;omega⟩
theorem Ahc (h:Af B w g C L ps cs) (seq:Int) (hn:C.access.length≤1000) :
  Calls Tryz.prog 97 #[.pointer (some ⟨g,0,none⟩), .int .i64 seq] w fun e w'=>e = .returned (.int .i64 (Jh C.access seq))∧Below w.heap.size w w':=by
 have c8:=h.access
 obtain⟨A,c,hv,hS,_,_⟩:=J0 h.rows.access
 rw [hv] at c8
 have hb:=(qB w.heap.size w).alloc (qC _) (.cells #[.int .i64 seq] 3)
 have CI:=qA (Ai6 A c C.access seq w.heap.size (w.alloc (.cells #[.int .i64 seq] 3)) (by omega) ((hS.below hb).mono hb.size) ((Blk.new w 3 #[.int .i64 seq]).cell 0) (by simp))
 have zg:=h.lt
 clear h hS hv
 go_enter Tryz.func97,Tryz.ntmps97
 go_wp2_with(go_at_call 95;(with_reducible refine CI.out.mono ?_);rintro e w2 ⟨rfl,hb2⟩)
 go_ret
 exact⟨rfl,hb.trans (hb2.mono hb.size)⟩
end
def Ce (d:Uop→Bool):List Uop→List Nat→List Nat
 |u::us,p::ps=>if d u=true then Ce d us ps else p::Ce d us ps
 |_,_=>[]
theorem Il (d:Uop→Bool) (ps:List Nat):Ce d [] ps=[]:=by cases ps<;>rfl
theorem U0 (d:Uop→Bool):∀ (us:List Uop) (ps:List Nat),ps.length=us.length→(Ce d us ps).length=(us.filter fun u=>!d u).length
 |[],ps,_=>by rw [Il];rfl
 |u::us,[],h=>by cases h
 |u::us,p::ps,h=>by
  have ih:=U0 d us ps (by simpa using h)
  unfold Ce
  cases hd:d u<;>simp [hd,ih]
theorem Pq (d:Uop→Bool):∀ (us:List Uop) (ps:List Nat) (p:Nat),p∈Ce d us ps→p∈ps
 |[],ps,p,h=>by rw [Il] at h;cases h
 |u::us,[],p,h=>by cases h
 |u::us,q::ps,p,h=>by
  have ih:=Pq d us ps p
  unfold Ce at h
  split at h
  ·exact qP _ (ih h)
  ·rcases List.mem_cons.1 h with rfl | h
   ·exact List.mem_cons_self
   ·exact qP _ (ih h)
theorem Mi (d:Uop→Bool):∀ (us:List Uop) (ps:List Nat),ps.Nodup→(Ce d us ps).Nodup
 |[],ps,_=>by rw [Il];exact List.nodup_nil
 |u::us,[],_=>List.nodup_nil
 |u::us,q::ps,h=>by
  rw [List.nodup_cons] at h
  unfold Ce
  split
  ·exact Mi d us ps h.2
  ·exact List.nodup_cons.2 ⟨fun hm=>h.1 (Pq d us ps q hm),Mi d us ps h.2⟩
theorem Xr (d:Uop→Bool):∀ (us:List Uop) (ps:List Nat),ps.length=us.length→∀ (k:Nat) (u:Uop) (p:Nat),(us.filter fun u=>!d u)[k]? = some u→(Ce d us ps)[k]? = some p→∃ i:Nat,us[i]? = some u∧ps[i]? = some p
 |[],_,_,k,u,p,h,_=>by simp at h
 |v::us,[],h,_,_,_,_,_=>by cases h
 |v::us,q::ps,hl,k,u,p,h1,h2=>by
  have ih:=Xr d us ps (by simpa using hl)
  unfold Ce at h2
  cases hd:d v with
  |true=>
   rw [if_pos hd] at h2
   rw [List.filter_cons_of_neg (by simp [hd])] at h1
   obtain⟨i,e1,e2⟩:=ih k u p h1 h2
   exact⟨i+1,by simpa using e1,by simpa using e2⟩
  |false=>
   rw [if_neg (by rw [hd];decide)] at h2
   rw [List.filter_cons_of_pos (by simp [hd])] at h1
   cases k with
   |zero=>exact⟨0,by simpa using h1,by simpa using h2⟩
   |succ k=>
    obtain⟨i,e1,e2⟩:=ih k u p (by simpa using h1) (by simpa using h2)
    exact⟨i+1,by simpa using e1,by simpa using e2⟩
theorem S3 (d:Uop→Bool):∀ (k:Nat) (us:List Uop) (ps:List Nat),(∀ i u,i≤k→us[i]? = some u→d u=false)→ps.length=us.length→(Ce d us ps)[k]? = ps[k]? ∧ (us.filter fun u=>!d u)[k]? = us[k]?
 |_,[],ps,_,hl=>by cases ps with
  |nil=>exact⟨by rw [Il],rfl⟩
  |cons _ _=>cases hl
 |_,_::_,[],_,hl=>by cases hl
 |k,u::us,p::ps,h,hl=>by
  have hd:d u=false:=h 0 u (by omega) rfl
  unfold Ce
  rw [if_neg (by rw [hd];decide),List.filter_cons_of_pos (by simp [hd])]
  cases k with
  |zero=>exact⟨rfl,rfl⟩
  |succ k=>
   have ih:=S3 d k us ps (fun i v hi hv=>h (i+1) v (by omega) (by simpa using hv)) (by simpa using hl)
   exact⟨by simpa using ih.1,by simpa using ih.2⟩
theorem S2 (d:Uop→Bool):∀ (us:List Uop) (ps:List Nat),(∀ u∈us,d u=false)→ps.length=us.length→Ce d us ps=ps∧(us.filter fun u=>!d u)=us
 |[],ps,_,hl=>by cases ps with
  |nil=>exact⟨by rw [Il],rfl⟩
  |cons _ _=>cases hl
 |_::_,[],_,hl=>by cases hl
 |u::us,p::ps,h,hl=>by
  have hd:d u=false:=h u (by simp)
  have ih:=S2 d us ps (fun v hv=>h v (by simp [hv])) (by simpa using hl)
  unfold Ce
  rw [if_neg (by rw [hd];decide),List.filter_cons_of_pos (by simp [hd]),ih.1,ih.2]
  exact⟨rfl,rfl⟩
theorem S4 (d:Uop→Bool):∀ (j:Nat) (us:List Uop) (ps:List Nat),(∀ i u,i<j→us[i]? = some u→d u=false)→ps.length=us.length→(∃ u,us[j]? = some u∧d u=true)→ps.take j++Ce d (us.drop (j+1)) (ps.drop (j+1))=Ce d us ps
 |_,[],_,_,_,h=>by obtain⟨u,h,_⟩:=h;simp at h
 |_,_::_,[],_,hl,_=>by cases hl
 |j,u::us,p::ps,h,hl,hj=>by
  cases j with
  |zero=>
   obtain⟨v,e,hv⟩:=hj
   have e:u=v:=by simpa using e
   subst e
   show []++Ce d us ps=Ce d (u::us) (p::ps)
   rw [Ce,if_pos hv,List.nil_append]
  |succ j=>
   have hd:d u=false:=h 0 u (by omega) rfl
   have ih:=S4 d j us ps (fun i v hi hv=>h (i+1) v (by omega) (by simpa using hv)) (by simpa using hl) (by simpa using hj)
   show p::(ps.take j++Ce d (us.drop (j+1)) (ps.drop (j+1)))=_
   rw [Ce,if_neg (by rw [hd];decide),ih]
theorem S1 (d:Uop→Bool) {us:List Uop} {ps:List Nat} {j:Nat} (h1:j<us.length) (h2:j<ps.length):Ce d (us.drop j) (ps.drop j)=if d us[j]=true then Ce d (us.drop (j+1)) (ps.drop (j+1)) else ps[j]::Ce d (us.drop (j+1)) (ps.drop (j+1)):=by
 rw [qM h1,qM h2]
 rfl
theorem C9.keep {w:World} {B:Nat} {us:List Uop} {ps:List Nat} (h:C9 w B us ps) (d:Uop→Bool):C9 w B (us.filter fun u=>!d u) (Ce d us ps):=
 ⟨U0 d us ps h.len,fun k u p h1 h2=>by
  obtain⟨i,e1,e2⟩:=Xr d us ps h.len k u p h1 h2
  exact h.at_ i u p e1 e2,Mi d us ps h.nodup⟩
theorem Sv {α:Type} (d:α→Bool):∀ (j:Nat) (l:List α),(∀ i u,i<j→l[i]? = some u→d u=false)→(∃ u,l[j]? = some u∧d u=true)→l.take j++(l.drop (j+1)).filter (fun u=>!d u)=l.filter fun u=>!d u
 |_,[],_,h=>by obtain⟨u,h,_⟩:=h;simp at h
 |j,u::us,h,hj=>by
  cases j with
  |zero=>
   obtain⟨v,e,hv⟩:=hj
   have e:u=v:=by simpa using e
   subst e
   rw [List.filter_cons_of_neg (by simp [hv])]
   rfl
  |succ j=>
   have hd:d u=false:=h 0 u (by omega) rfl
   have ih:=Sv d j us (fun i v hi hv=>h (i+1) v (by omega) (by simpa using hv)) (by simpa using hj)
   rw [List.filter_cons_of_pos (by simp [hd]),←ih]
   rfl
theorem K9 {P:Program} (w:World) (t e ty:TypeId) (z:Value) (ht:P.underlying t=some (.slice e)) (hv:∀ w,(zeroValue e).run P w = .ok z w) (b o n c:Nat) (hn:0<n) (t':TypeId) (old:Array Value) (hB:Blk w b t' old)
  (hz:∀ v∈(Builtin.zeroCells z.cells n).toList,v.oneCell'=true) (hs:o+(Builtin.zeroCells z.cells n).size≤old.size) :
  (Builtin.clear_ #[t] ty #[.slice (some ⟨b,o,none⟩) n c]).run P w = .ok (.tuple #[]) (w.setRow b (splice old o (Builtin.zeroCells z.cells n).toList)):=by
 have hst:=run_storeCells_at P b o t' (Builtin.zeroCells z.cells n).toList 0 old w hB (by simpa using hs) hz
 simp only [Nat.add_zero] at hst
 obtain⟨m,rfl⟩:∃ m,n=m+1:=⟨n - 1,by omega⟩
 simp [Builtin.clear_,run_underlying ht,hv,hst,splice]
theorem Kg (zc:Array Value) (n:Nat):(Builtin.zeroCells zc n).size=n*zc.size:=by simp [Builtin.zeroCells]
theorem Le {zc:Array Value} (h:zc.all (·.oneCell')=true) (n:Nat):∀ v∈(Builtin.zeroCells zc n).toList,v.oneCell'=true:=by
 intro v hv
 simp only [Builtin.zeroCells,Array.toList_map,List.mem_map] at hv
 obtain⟨i,hi,rfl⟩:=hv
 have hi:i<n*zc.size:=by simpa using hi
 have hp:0<zc.size:=by
  rcases Nat.eq_zero_or_pos zc.size with h0 | h0
  ·rw [h0] at hi;omega
  ·exact h0
 have hm:=Nat.mod_lt i hp
 rw [getElem!_pos zc (i%zc.size) hm]
 exact(Array.all_eq_true_iff_forall_mem.1 h) _ (Array.getElem_mem hm)
theorem Aeu {P:Program} {t:TypeId} {z:Value} (h:(P.info? t).map (·.zero)=some (some z)) (w:World):(zeroValue t).run P w = .ok z w:=by
 cases hq:P.info? t with
 |none=>rw [hq] at h;cases h
 |some i=>
  rw [hq] at h
  have h:i.zero=some z:=by simpa using h
  simp [zeroValue,typeInfo,hq,h]
theorem Ag0 (w:World):(zeroValue 105).run Tryz.prog w = .ok (.pointer none) w:=Aeu (by kernel_rfl) w
structure Rj (d:Uop→Bool) (us:List Uop) (ps:List Nat) (cur:Array Value) (oo i j:Nat):Prop where
 ex:∃ P:List Nat,P.length=i∧(∀ k p,P[k]? = some p→cur[oo+k]? = some (.pointer (some ⟨p,0,none⟩)))∧P++Ce d (us.drop j) (ps.drop j)=Ce d us ps
 rest:∀ k p,j≤k→ps[k]? = some p→cur[oo+k]? = some (.pointer (some ⟨p,0,none⟩))
section
variable {d:Uop→Bool} {us:List Uop} {ps:List Nat} {cur:Array Value} {oo i j:Nat}
theorem Rj.skip (h:Rj d us ps cur oo i j) (h1:j<us.length) (h2:j<ps.length) (hd:d us[j]=true):Rj d us ps cur oo i (j+1):=by
 obtain⟨P,e1,e2,e3⟩:=h.ex
 rw [S1 d h1 h2,if_pos hd] at e3
 exact⟨⟨P,e1,e2,e3⟩,fun k p hk hp=>h.rest k p (by omega) hp⟩
theorem Rj.keep (h:Rj d us ps cur oo i j) (h1:j<us.length) (h2:j<ps.length) (hd:d us[j]=false) (hij:i<j) (hs:oo+ps.length≤cur.size):Rj d us ps (cur.setIfInBounds (oo+i) (.pointer (some ⟨ps[j],0,none⟩))) oo (i+1) (j+1):=by
 obtain⟨P,e1,e2,e3⟩:=h.ex
 rw [S1 d h1 h2,if_neg (by rw [hd];decide)] at e3
 refine⟨⟨P++[ps[j]],by simp [e1],fun k p hp=>?_,by rw [←e3];simp⟩,fun k p hk hp=>?_⟩
 ·rw [Array.getElem?_setIfInBounds]
  by_cases e:k=i
  ·subst e
   rw [qR (by omega),e1,Nat.sub_self] at hp
   have hp:ps[j]=p:=by simpa using hp
   rw [if_pos rfl,if_pos (by omega),hp]
  ·have hk:k<i:=by
    have:=(qJ.1 hp).1
    simp [e1] at this
    omega
   rw [if_neg (by omega)]
   rw [qQ (by omega)] at hp
   exact e2 k p hp
 ·rw [Array.getElem?_setIfInBounds,if_neg (by omega)]
  exact h.rest k p (by omega) hp
theorem Rj.done (h:Rj d us ps cur oo i j) (h1:j=us.length):(Ce d us ps).length=i∧∀ k p,(Ce d us ps)[k]? = some p→cur[oo+k]? = some (.pointer (some ⟨p,0,none⟩)):=by
 obtain⟨P,e1,e2,e3⟩:=h.ex
 rw [h1,List.drop_length,Il,List.append_nil] at e3
 rw [←e3]
 exact⟨e1,e2⟩
theorem Rj.start (hl:ps.length=us.length) (h1:∀ k p,ps[k]? = some p→cur[oo+k]? = some (.pointer (some ⟨p,0,none⟩))) (h2:∀ i u,i<j→us[i]? = some u→d u=false) {x:Uop} (h3:us[j]? = some x) (h4:d x=true):Rj d us ps cur oo j (j+1):=by
 have hj:j<us.length:=(qJ.1 h3).1
 refine⟨⟨ps.take j,by simp;omega,fun k p hp=>?_,S4 d j us ps h2 hl ⟨x,h3,h4⟩⟩,fun k p _ hp=>h1 k p hp⟩
 rw [List.getElem?_take] at hp
 split at hp
 ·exact h1 k p hp
 ·cases hp
end
theorem Aaf (A:Option Addr) (cap B:Nat) (us:List Uop) (ps:List Nat) (seq:Int) (gs:Nat) (w:World) (hl:ps.length≤1000) (hA:B8 w B (.slice A ps.length cap) ps) (hU:C9 w B us ps) (hg:Blk w gs 3 #[.int .i64 seq]) :
  Calls Tryz.prog 102 #[.slice A ps.length cap, .func (.func 103) #[] #[.pointer (some ⟨gs,0,none⟩)]] w
   fun e w'=>e = .returned (.slice A (Ce (fun u=>decide (seq≤u.seq)) us ps).length cap)∧w.grownBy w' (Value.slice A ps.length cap).ownBlock∧B8 w' B (.slice A (Ce (fun u=>decide (seq≤u.seq)) us ps).length cap) (Ce (fun u=>decide (seq≤u.seq)) us ps):=by
 have CI:=qA (Aex A cap B us ps seq gs w (by omega) hA hU (hg.cell 0) hg.lt)
 have hul:=hU.len
 rcases E5 (fun u:Uop=>decide (seq≤u.seq)) us 0 with⟨h1,h2⟩ | ⟨i0,x,h1,h2,h3,h4⟩
 ·have h1:Cy (fun u:Uop=>decide (seq≤u.seq)) us (0:Int) = -1:=h1
  rw [h1] at CI
  have hk:=(S2 (fun u:Uop=>decide (seq≤u.seq)) us ps h2 hul).1
  rw [hk]
  have HA:=qA hA
  clear hA hU hg h1 h2 hk hul
  go_enter Tryz.func102,Tryz.ntmps102
  go_wp2_with(go_at_call 138;(with_reducible refine CI.out.mono ?_);rintro e w2 ⟨rfl,hb2⟩)
  go_ret
  exact⟨rfl,Bc hb2 _,HA.out.kept (Cg hb2) (Classical.em _)⟩
 ·have h1:Cy (fun u:Uop=>decide (seq≤u.seq)) us (0:Int)=(i0:Int):=by
   have h1:Cy (fun u:Uop=>decide (seq≤u.seq)) us (0:Int)=((0+i0:Nat):Int):=h1
   rw [h1,Nat.zero_add]
  rw [h1] at CI
  have hi0:i0<us.length:=(qJ.1 h2).1
  rcases hA with⟨hv,rfl⟩ | ⟨go,oo,cap',cur0,hv,hb,hB,q1,q2,q3,q4⟩
  ·simp at hul;omega
  injection hv with hv1 _ hv2
  subst hv1 hv2
  have HS:Hid (Rj (fun u=>decide (seq≤u.seq)) us ps cur0 oo i0 (i0+1)):=qA (Rj.start hul q4 h4 h2 h3)
  have hne:gs≠go:=Bm hg hB (by decide)
  obtain⟨N,hN⟩:∃ N,N=ps.length:=⟨_,rfl⟩
  rw [←hN] at hl hul q1 CI ⊢
  have HN:=qA hN
  have HU:=qA hU
  have HUL:=qA hul
  have HB:=qA hB
  have HB0:=qA hB
  have HG:=qA hg
  have h30:((i0:Int) == -1)=false:=by simp
  clear h1 h2 h3 h4 q4 hB hg hU
  rw [←hul] at hi0
  clear hN hul
  go_enter Tryz.func102,Tryz.ntmps102
  go_wp2_with(go_at_call 138;(with_reducible refine CI.out.mono ?_);rintro e w2 ⟨rfl,hb2⟩)
  go_loopw [5,6] (fun v5 v6 wr=>∃ (i j:Nat) (cur:Array Value),v5 = .int .i64 i∧v6 = .int .i64 j∧i<j∧j≤N∧w.grownBy wr (some go)∧Hid (Blk wr go 105 cur)∧cur.size=cur0.size∧Hid (Rj (fun u=>decide (seq≤u.seq)) us ps cur oo i j)) (fun _ v _=>N+1 - (intOf v).toNat)
  case atStart=>exact⟨i0,i0+1,cur0,rfl,by go_num,by omega,by omega,Bc hb2 _,qA (HB.out.ext hb2),rfl,HS⟩
  case round=>
   clear HS HB CI
   obtain⟨i,j,cur,rfl,rfl,hij,hj,hgr,HB,hsz,HD⟩:=hrel
   by_cases hlt:j<N
   ·have hj2:j<ps.length:=by rw [←HN.out];exact hlt
    have hju:j<us.length:=by rw [←HUL.out];exact hlt
    have c0:=(HB.out.cell (oo+j)).trans (HD.out.rest j _ (qC _) (qI hj2))
    have hu:=((HU.out.kept hgr (fun p hp e=>by
     obtain⟨u,hu,_⟩:=HU.out.mem hp
     injection e with e
     exact Bm hu HB0.out (by decide) e)).at_ j _ _ (qI hju) (qI hj2)).1
    have hgr':Blk wr gs 3 #[.int .i64 seq]:=HG.out.grown hgr (by simpa using hne)
    have zgo:=HB.out.lt
    have hkp:=HD.out.keep hju hj2
    have hsk:=HD.out.skip hju hj2
    generalize us[j]'hju=u at *
    generalize ps[j]'hj2=q at *
    have CP:=qA (Zz u q gs seq wr hu (hgr'.cell 0) hgr'.lt)
    clear hu hgr'
    by_cases hs:seq≤u.seq
    ·have Hd:=qA (hsk (qF hs))
     rw [qF hs] at CP
     clear hkp hsk hs HD
     go_wp2_with(go_at_call 103;(with_reducible refine CP.out.mono ?_);rintro e w2 ⟨rfl,hb2⟩)
     go_roundw
     case rel=>exact⟨i,j+1,cur,rfl,by go_num,by omega,by omega,hgr.trans (Bc hb2 _),qA (HB.out.ext hb2),hsz,Hd⟩
     case measure=>simp [intOf];omega
    ·have Hd:=qA (hkp (qG hs) hij (by rw [hsz,←HN.out];omega))
     obtain⟨xv,hxv⟩:∃ xv,cur[oo+i]? = some xv:=⟨_,Array.getElem?_eq_getElem (by omega)⟩
     rw [qG hs] at CP
     clear hkp hsk hs HD
     go_wp2_with(go_at_call 103;(with_reducible refine CP.out.mono ?_);rintro e w2 ⟨rfl,hb2⟩;have HB2:=HB.out.ext hb2;have f2:=HB2.frozen (oo+i);have z2:=HB2.lt;have d2:=(HB2.cell (oo+i)).trans hxv;have HB3:=qA (HB2.set (oo+i) (.pointer (some ⟨q,0,none⟩)));clear HB2)
     go_roundw
     case rel=>exact⟨i+1,j+1,_,by go_num,by go_num,by omega,by omega,(hgr.trans (Bc hb2 _)).trans (grownBy_setCell _ ⟨go,oo+i,none⟩ _),HB3,by simpa using hsz,Hd⟩
     case measure=>simp [intOf];omega
   ·obtain rfl:j=N:=by omega
    have e1:decide ((j:Int)<j)=false:=by simp
    obtain⟨hkl,hkc⟩:=HD.out.done HUL.out
    have b1:(0:Int)≤i:=by omega
    have b2:(i:Int)≤j:=by omega
    have b3:(j:Int)≤cap:=by omega
    have b4:(i:Int)≤cap:=by omega
    have hzs:(Builtin.zeroCells (Value.pointer none).cells (j - i)).toList.length=j - i:=by
     rw [Array.length_toList,Kg]
     show(j - i)*1=_
     omega
    have hcl:∀ ty,(Builtin.clear_ #[83] ty #[.slice (some ⟨go,oo+i,none⟩) (j - i) (cap - i)]).run Tryz.prog wr = .ok (.tuple #[]) (wr.setRow go (splice cur (oo+i) (Builtin.zeroCells (Value.pointer none).cells (j - i)).toList)):=
     fun ty=>K9 wr _ _ ty _ rfl Ag0 go (oo+i) (j - i) (cap - i) (by omega) 105 cur HB.out (Le (by kernel_rfl) _) (by rw [←Array.length_toList,hzs,hsz];omega)
    generalize (Builtin.zeroCells (Value.pointer none).cells (j - i)).toList=Z at hzs hcl
    have HR:=qA (show w.grownBy (wr.setRow go (splice cur (oo+i) Z)) (some go)∧B8 (wr.setRow go (splice cur (oo+i) Z)) B (.slice (some ⟨go,oo,none⟩) (Ce (fun u=>decide (seq≤u.seq)) us ps).length cap) (Ce (fun u=>decide (seq≤u.seq)) us ps) by
     refine⟨hgr.trans (Ge _ _ _),Or.inr ⟨go,oo,cap,_,rfl,hb,HB.out.setRow _,by omega,q2,by rw [Ht _ _ _ (by omega)];omega,fun k p hp=>?_⟩⟩
     have hki:k<i:=by rw [←hkl];exact(qJ.1 hp).1
     rw [E6 _ _ _ (by omega),if_pos (by omega)]
     exact hkc k p hp)
    generalize wr.setRow go (splice cur (oo+i) Z)=w9 at hcl HR
    have HKL:=qA hkl
    clear hkl hkc HB HD HU HG HUL HN
    go_wp2_with(fail)
    go_ret
    exact⟨by rw [HKL.out];rfl,HR.out.1,HR.out.2⟩
theorem Zx (w:World):(zeroValue 139).run Tryz.prog w = .ok (.agg #[.int .i64 0, .bool false, .bool false, .int .u32 0, .int .i64 0, .int .u32 0, .bool false]) w:=Aeu (by kernel_rfl) w
theorem Jz (a:Acc):a.cells.size=7:=rfl
theorem Dt (a:Acc):(Tryz.prog.info? 139).map (·.size)=some a.cells.size:=by rw [Jz];kernel_rfl
theorem Ma:(Tryz.prog.info? 139).map (·.size)=some 7:=by kernel_rfl
theorem Kk (a:Acc):a.cells.all (·.oneCell')=true:=by
 simp [Acc.cells,Value.oneCell']
def Fx (cur:Array Value) (l:List Acc):Prop:=∀ k a c,l[k]? = some a→c<7→cur[k*7+c]? = a.cells[c]?
theorem Fx.take {cur:Array Value} {l:List Acc} (h:Fx cur l):cur.toList.take (l.length*7)=Dp l:=by
 apply List.ext_getElem?
 intro m
 rw [List.getElem?_take]
 by_cases hm:m<l.length*7
 ·rw [if_pos hm]
  have hk:m / 7<l.length:=by omega
  have e:m / 7*7+m%7=m:=by omega
  have h1:=h (m / 7) _ (m%7) (qI hk) (by omega)
  have h2:=N7 l (m / 7) _ (m%7) (qI hk) (by omega)
  rw [e] at h1 h2
  rw [h2,←h1]
  simp
 ·rw [if_neg hm,List.getElem?_eq_none (by rw [Jp];omega)]
theorem Fx.of {cur:Array Value} {l:List Acc} (h:cur.toList.take (l.length*7)=Dp l):Fx cur l:=fun k a c hk hc=>by
 have hkl:k<l.length:=(qJ.1 hk).1
 rw [←N7 l k a c hk hc,←h,List.getElem?_take,if_pos (by omega)]
 simp
structure M8 (d:Acc→Bool) (l:List Acc) (cur:Array Value) (i j:Nat):Prop where
 ex:∃ P:List Acc,P.length=i∧Fx cur P∧P++(l.drop j).filter (fun a=>!d a)=l.filter fun a=>!d a
 rest:∀ k a c,j≤k→l[k]? = some a→c<7→cur[k*7+c]? = a.cells[c]?
section
variable {d:Acc→Bool} {l:List Acc} {cur:Array Value} {i j:Nat}
theorem M8.skip (h:M8 d l cur i j) (h1:j<l.length) (hd:d l[j]=true):M8 d l cur i (j+1):=by
 obtain⟨P,e1,e2,e3⟩:=h.ex
 rw [qM h1,List.filter_cons_of_neg (by simp [hd])] at e3
 exact⟨⟨P,e1,e2,e3⟩,fun k p c hk hp hc=>h.rest k p c (by omega) hp hc⟩
theorem M8.keep (h:M8 d l cur i j) (h1:j<l.length) (hd:d l[j]=false) (hij:i<j) (hs:l.length*7≤cur.size):M8 d l (splice cur (i*7) l[j].cells.toList) (i+1) (j+1):=by
 obtain⟨P,e1,e2,e3⟩:=h.ex
 rw [qM h1,List.filter_cons_of_pos (by simp [hd])] at e3
 have hl:i*7+l[j].cells.toList.length≤cur.size:=by rw [Ji];omega
 refine⟨⟨P++[l[j]],by simp [e1],fun k p c hp hc=>?_,by rw [←e3];simp⟩,fun k p c hk hp hc=>?_⟩
 ·rw [E6 _ _ _ hl]
  by_cases e:k=i
  ·subst e
   rw [qR (by omega),e1,Nat.sub_self] at hp
   have hp:l[j]=p:=by simpa using hp
   rw [if_neg (by omega),if_pos (by rw [Ji];omega),←hp,show k*7+c - k*7=c by omega]
   simp
  ·have hk:k<i:=by
    have:=(qJ.1 hp).1
    simp [e1] at this
    omega
   rw [if_pos (by omega)]
   rw [qQ (by omega)] at hp
   exact e2 k p c hp hc
 ·rw [E6 _ _ _ hl,if_neg (by omega),if_neg (by rw [Ji];omega)]
  exact h.rest k p c (by omega) hp hc
theorem M8.done (h:M8 d l cur i j) (h1:j=l.length):(l.filter fun a=>!d a).length=i∧Fx cur (l.filter fun a=>!d a):=by
 obtain⟨P,e1,e2,e3⟩:=h.ex
 rw [h1,List.drop_length,List.filter_nil,List.append_nil] at e3
 rw [←e3]
 exact⟨e1,e2⟩
theorem M8.start (h1:Fx cur l) (h2:∀ i u,i<j→l[i]? = some u→d u=false) {x:Acc} (h3:l[j]? = some x) (h4:d x=true):M8 d l cur j (j+1):=by
 have hj:j<l.length:=(qJ.1 h3).1
 refine⟨⟨l.take j,by simp;omega,fun k p c hp hc=>?_,Sv d j l h2 ⟨x,h3,h4⟩⟩,fun k p c _ hp hc=>h1 k p c hp hc⟩
 rw [List.getElem?_take] at hp
 split at hp
 ·exact h1 k p c hp hc
 ·cases hp
theorem M8.at (h:M8 d l cur i j) (h1:j<l.length) (hs:l.length*7≤cur.size):cur.extract (j*7) (j*7+7)=l[j].cells:=by
 have hr:=fun c=>h.rest j _ c (qC _) (qI h1)
 apply Array.ext_getElem?
 intro c
 rw [Array.getElem?_extract]
 by_cases hc:c<7
 ·rw [if_pos (by omega),hr c hc]
 ·rw [if_neg (by omega),Array.getElem?_eq_none (by rw [Jz];omega)]
end
theorem filter_all {α:Type} (d:α→Bool) (l:List α) (h:∀ u∈l,d u=false):(l.filter fun u=>!d u)=l:=by
 rw [List.filter_eq_self]
 intro u hu
 rw [h u hu]
 rfl
theorem Aey (a:Acc) (g:Nat) (seq:Int) (w:World) (hg:w.cell? ⟨g,0,none⟩=some (.int .i64 seq)) (hgl:g<w.heap.size) :
  Calls Tryz.prog 104 #[.agg a.cells, .pointer (some ⟨g,0,none⟩)] w fun e w'=>e = .returned (.bool (decide (seq≤a.seq)))∧Below w.heap.size w w':=Z0 a g seq w hg hgl
theorem Aez (A:Option Addr) (cap B:Nat) (l:List Acc) (seq:Int) (gs:Nat) (w:World) (hl:l.length≤1000) (hA:w.ownsRow B 139 7 (.slice A l.length cap) l.length (Dp l)) (hg:Blk w gs 3 #[.int .i64 seq]) :
  Calls Tryz.prog 61 #[.slice A l.length cap, .func (.func 104) #[] #[.pointer (some ⟨gs,0,none⟩)]] w
   fun e w'=>e = .returned (.slice A (l.filter fun a=>!decide (seq≤a.seq)).length cap)∧w.grownBy w' (Value.slice A l.length cap).ownBlock∧w'.ownsRow B 139 7 (.slice A (l.filter fun a=>!decide (seq≤a.seq)).length cap) (l.filter fun a=>!decide (seq≤a.seq)).length (Dp (l.filter fun a=>!decide (seq≤a.seq))):=by
 have hS:=Ee.own hA
 have CI:=qA (Ae0 A cap l seq gs w (by omega) hS (hg.cell 0) hg.lt)
 clear hS
 rcases E5 (fun a:Acc=>decide (seq≤a.seq)) l 0 with⟨h1,h2⟩ | ⟨i0,x,h1,h2,h3,h4⟩
 ·have h1:Cy (fun a:Acc=>decide (seq≤a.seq)) l (0:Int) = -1:=h1
  rw [h1] at CI
  rw [filter_all (fun a:Acc=>decide (seq≤a.seq)) l h2]
  have HA:=qA hA
  clear hA hg h1 h2
  go_enter Tryz.func61,Tryz.ntmps61
  go_wp2_with(go_at_call 95;(with_reducible refine CI.out.mono ?_);rintro e w2 ⟨rfl,hb2⟩)
  go_ret
  exact⟨rfl,Bc hb2 _,HA.out.kept (Cg hb2) (Classical.em _)⟩
 ·have h1:Cy (fun a:Acc=>decide (seq≤a.seq)) l (0:Int)=(i0:Int):=by
   have h1:Cy (fun a:Acc=>decide (seq≤a.seq)) l (0:Int)=((0+i0:Nat):Int):=h1
   rw [h1,Nat.zero_add]
  rw [h1] at CI
  have hi0:i0<l.length:=(qJ.1 h2).1
  rcases hA.2 with⟨hv,hz⟩ | ⟨go,cap',cur0,hv,hb,hB,q1,q2,q3,q4⟩
  ·omega
  injection hv with hv1 _ hv2
  subst hv1 hv2
  have hB:Blk w go 139 cur0:=hB
  have HS:Hid (M8 (fun a=>decide (seq≤a.seq)) l cur0 i0 (i0+1)):=qA (M8.start (Fx.of q4) h4 h2 h3)
  have hne:gs≠go:=Bm hg hB (by decide)
  unfold maxLen at q2
  obtain⟨N,hN⟩:∃ N,N=l.length:=⟨_,rfl⟩
  rw [←hN] at hl q1 CI hi0 ⊢
  have HN:=qA hN
  have HB:=qA hB
  have HG:=qA hg
  have h30:((i0:Int) == -1)=false:=by simp
  clear h1 h2 h3 h4 q4 hB hg hA hN
  go_enter Tryz.func61,Tryz.ntmps61
  go_wp2_with(go_at_call 95;(with_reducible refine CI.out.mono ?_);rintro e w2 ⟨rfl,hb2⟩)
  go_loopw [5,6] (fun v5 v6 wr=>∃ (i j:Nat) (cur:Array Value),v5 = .int .i64 i∧v6 = .int .i64 j∧i<j∧j≤N∧w.grownBy wr (some go)∧Hid (Blk wr go 139 cur)∧cur.size=cur0.size∧Hid (M8 (fun a=>decide (seq≤a.seq)) l cur i j)) (fun _ v _=>N+1 - (intOf v).toNat)
  case atStart=>exact⟨i0,i0+1,cur0,rfl,by go_num,by omega,by omega,Bc hb2 _,qA (HB.out.ext hb2),rfl,HS⟩
  case round=>
   clear HS HB CI
   obtain⟨i,j,cur,rfl,rfl,hij,hj,hgr,HB,hsz,HD⟩:=hrel
   by_cases hlt:j<N
   ·have hju:j<l.length:=by rw [←HN.out];exact hlt
    have hszN:l.length*7≤cur.size:=by rw [hsz,q3,←HN.out];omega
    have hgr':Blk wr gs 3 #[.int .i64 seq]:=HG.out.grown hgr (by simpa using hne)
    have zgo:=HB.out.lt
    have hkp:=HD.out.keep hju
    have hsk:=HD.out.skip hju
    have he:=HD.out.at hju hszN
    have hszj:j*7+7≤cur.size:=by omega
    generalize l[j]'hju=a at *
    have HE:=qA he
    have CP:=qA (fun W h1 h2=>Aey a gs seq W h1 h2)
    have HG':=qA hgr'
    clear he hgr'
    by_cases hs:seq≤a.seq
    ·have Hd:=qA (hsk (qF hs))
     rw [qF hs] at CP
     clear hkp hsk hs HD
     go_wp2_with(first
      |(refine Ai rfl 139 _ rfl go _ rfl 139 cur 7 _ HB.out Tryz.underlying139 rfl Ma (by omega) ?_;rw [HE.out])
      |(refine Ae rfl 139 _ _ rfl wr.heap.size a.cells rfl rfl 139 _ (Blk.new wr _ _) (Dt a) rfl (Kk a) ?_;intro w3 hB3 hg3;have hb13:Below wr.heap.size wr w3:=below_grown ((qB _ _).alloc (qC _) _) hg3 (by simp) (qC _))
      |(refine Ab rfl 139 _ rfl wr.heap.size rfl 139 a.cells _ hB4 Tryz.underlying139 rfl (Dt a) ?_)
      |(refine Ab rfl 139 _ rfl wr.heap.size rfl 139 a.cells _ hB3 Tryz.underlying139 rfl (Dt a) ?_)
      |(go_at_call 104;(with_reducible refine(CP.out _ ((HG'.out.ext hb13).cell 0) (HG'.out.ext hb13).lt).mono ?_);rintro e w4 ⟨rfl,hb4⟩;have hB4:=hB3.ext hb4;have hb14:=hb13.trans (hb4.mono hb13.size))
      |(refine B7 rfl 139 _ _ rfl go (i*7) a.cells rfl rfl 139 cur (HB.out.ext hb14) (Dt a) (by rw [Jz];omega) (Kk a) ?_;intro w5 hB5 hg5))
     go_roundw
     case rel=>exact⟨i,j+1,cur,rfl,by go_num,by omega,by omega,hgr.trans (Bc hb14 _),qA (HB.out.ext hb14),hsz,Hd⟩
     case measure=>simp [intOf];omega
    ·have Hd:=qA (hkp (qG hs) hij hszN)
     rw [qG hs] at CP
     clear hkp hsk hs HD
     have hszi:i*7+7≤cur.size:=by omega
     go_wp2_with(first
      |(refine Ai rfl 139 _ rfl go _ rfl 139 cur 7 _ HB.out Tryz.underlying139 rfl Ma (by omega) ?_;rw [HE.out])
      |(refine Ae rfl 139 _ _ rfl wr.heap.size a.cells rfl rfl 139 _ (Blk.new wr _ _) (Dt a) rfl (Kk a) ?_;intro w3 hB3 hg3;have hb13:Below wr.heap.size wr w3:=below_grown ((qB _ _).alloc (qC _) _) hg3 (by simp) (qC _))
      |(refine Ab rfl 139 _ rfl wr.heap.size rfl 139 a.cells _ hB4 Tryz.underlying139 rfl (Dt a) ?_)
      |(refine Ab rfl 139 _ rfl wr.heap.size rfl 139 a.cells _ hB3 Tryz.underlying139 rfl (Dt a) ?_)
      |(go_at_call 104;(with_reducible refine(CP.out _ ((HG'.out.ext hb13).cell 0) (HG'.out.ext hb13).lt).mono ?_);rintro e w4 ⟨rfl,hb4⟩;have hB4:=hB3.ext hb4;have hb14:=hb13.trans (hb4.mono hb13.size))
      |(refine B7 rfl 139 _ _ rfl go (i*7) a.cells rfl rfl 139 cur (HB.out.ext hb14) (Dt a) (by rw [Jz];omega) (Kk a) ?_;intro w5 hB5 hg5))
     go_roundw
     case rel=>exact⟨i+1,j+1,_,by go_num,by go_num,by omega,by omega,(hgr.trans (Bc hb14 _)).trans hg5,qA hB5,by rw [Ht _ _ _ (by rw [Ji];omega)];exact hsz,Hd⟩
     case measure=>simp [intOf];omega
   ·obtain rfl:j=N:=by omega
    have e1:decide ((j:Int)<j)=false:=by simp
    obtain⟨hkl,hkc⟩:=HD.out.done HN.out
    have b1:(0:Int)≤i:=by omega
    have b2:(i:Int)≤j:=by omega
    have b3:(j:Int)≤cap:=by omega
    have b4:(i:Int)≤cap:=by omega
    have hzs:(Builtin.zeroCells (Value.agg #[.int .i64 0, .bool false, .bool false, .int .u32 0, .int .i64 0, .int .u32 0, .bool false]).cells (j - i)).toList.length=(j - i)*7:=by
     rw [Array.length_toList,Kg]
     rfl
    have hcl:∀ ty,(Builtin.clear_ #[84] ty #[.slice (some ⟨go,i*7,none⟩) (j - i) (cap - i)]).run Tryz.prog wr = .ok (.tuple #[]) (wr.setRow go (splice cur (i*7) (Builtin.zeroCells (Value.agg #[.int .i64 0, .bool false, .bool false, .int .u32 0, .int .i64 0, .int .u32 0, .bool false]).cells (j - i)).toList)):=
     fun ty=>K9 wr _ _ ty _ rfl Zx go (i*7) (j - i) (cap - i) (by omega) 139 cur HB.out (Le (by simp [Value.cells,Value.oneCell']) _) (by rw [←Array.length_toList,hzs,hsz,q3];omega)
    generalize (Builtin.zeroCells (Value.agg #[.int .i64 0, .bool false, .bool false, .int .u32 0, .int .i64 0, .int .u32 0, .bool false]).cells (j - i)).toList=Z at hzs hcl
    have HR:=qA (show w.grownBy (wr.setRow go (splice cur (i*7) Z)) (some go)∧(wr.setRow go (splice cur (i*7) Z)).ownsRow B 139 7 (.slice (some ⟨go,0,none⟩) (l.filter fun a=>!decide (seq≤a.seq)).length cap) (l.filter fun a=>!decide (seq≤a.seq)).length (Dp (l.filter fun a=>!decide (seq≤a.seq))) by
     refine⟨hgr.trans (Ge _ _ _),Jp _,Or.inr ⟨go,cap,_,rfl,hb,HB.out.setRow _,by omega,by unfold maxLen;omega,by rw [Ht _ _ _ (by omega)];omega,Fx.take (fun k a c hk hc=>?_)⟩⟩
     have hki:k<i:=by rw [←hkl];exact(qJ.1 hk).1
     rw [E6 _ _ _ (by omega),if_pos (by omega)]
     exact hkc k a c hk hc)
    generalize wr.setRow go (splice cur (i*7) Z)=w9 at hcl HR
    have HKL:=qA hkl
    clear hkl hkc HB HD HG HN
    go_wp2_with(fail)
    go_ret
    exact⟨by rw [HKL.out];rfl,HR.out.1,HR.out.2⟩
theorem Afz (a:Acc) (g:Nat) (seq:Int) (w:World) (hg:w.cell? ⟨g,0,none⟩=some (.int .i64 seq)) (hgl:g<w.heap.size) :
  Calls Tryz.prog 62 #[.agg a.cells, .pointer (some ⟨g,0,none⟩)] w fun e w'=>e = .returned (.bool (decide (a.seq=seq)))∧Below w.heap.size w w':=Aaw a g seq w hg hgl
theorem Xm (A:Option Addr) (cap B:Nat) (l:List Acc) (seq:Int) (gs:Nat) (w:World) (hl:l.length≤1000) (hA:w.ownsRow B 139 7 (.slice A l.length cap) l.length (Dp l)) (hg:Blk w gs 3 #[.int .i64 seq]) :
  Calls Tryz.prog 61 #[.slice A l.length cap, .func (.func 62) #[] #[.pointer (some ⟨gs,0,none⟩)]] w
   fun e w'=>e = .returned (.slice A (l.filter fun a=>!decide (a.seq=seq)).length cap)∧w.grownBy w' (Value.slice A l.length cap).ownBlock∧w'.ownsRow B 139 7 (.slice A (l.filter fun a=>!decide (a.seq=seq)).length cap) (l.filter fun a=>!decide (a.seq=seq)).length (Dp (l.filter fun a=>!decide (a.seq=seq))):=by
 have hS:=Ee.own hA
 have CI:=qA (Af0 A cap l seq gs w (by omega) hS (hg.cell 0) hg.lt)
 clear hS
 rcases E5 (fun a:Acc=>decide (a.seq=seq)) l 0 with⟨h1,h2⟩ | ⟨i0,x,h1,h2,h3,h4⟩
 ·have h1:Cy (fun a:Acc=>decide (a.seq=seq)) l (0:Int) = -1:=h1
  rw [h1] at CI
  rw [filter_all (fun a:Acc=>decide (a.seq=seq)) l h2]
  have HA:=qA hA
  clear hA hg h1 h2
  go_enter Tryz.func61,Tryz.ntmps61
  go_wp2_with(go_at_call 95;(with_reducible refine CI.out.mono ?_);rintro e w2 ⟨rfl,hb2⟩)
  go_ret
  exact⟨rfl,Bc hb2 _,HA.out.kept (Cg hb2) (Classical.em _)⟩
 ·have h1:Cy (fun a:Acc=>decide (a.seq=seq)) l (0:Int)=(i0:Int):=by
   have h1:Cy (fun a:Acc=>decide (a.seq=seq)) l (0:Int)=((0+i0:Nat):Int):=h1
   rw [h1,Nat.zero_add]
  rw [h1] at CI
  have hi0:i0<l.length:=(qJ.1 h2).1
  rcases hA.2 with⟨hv,hz⟩ | ⟨go,cap',cur0,hv,hb,hB,q1,q2,q3,q4⟩
  ·omega
  injection hv with hv1 _ hv2
  subst hv1 hv2
  have hB:Blk w go 139 cur0:=hB
  have HS:Hid (M8 (fun a=>decide (a.seq=seq)) l cur0 i0 (i0+1)):=qA (M8.start (Fx.of q4) h4 h2 h3)
  have hne:gs≠go:=Bm hg hB (by decide)
  unfold maxLen at q2
  obtain⟨N,hN⟩:∃ N,N=l.length:=⟨_,rfl⟩
  rw [←hN] at hl q1 CI hi0 ⊢
  have HN:=qA hN
  have HB:=qA hB
  have HG:=qA hg
  have h30:((i0:Int) == -1)=false:=by simp
  clear h1 h2 h3 h4 q4 hB hg hA hN
  go_enter Tryz.func61,Tryz.ntmps61
  go_wp2_with(go_at_call 95;(with_reducible refine CI.out.mono ?_);rintro e w2 ⟨rfl,hb2⟩)
  go_loopw [5,6] (fun v5 v6 wr=>∃ (i j:Nat) (cur:Array Value),v5 = .int .i64 i∧v6 = .int .i64 j∧i<j∧j≤N∧w.grownBy wr (some go)∧Hid (Blk wr go 139 cur)∧cur.size=cur0.size∧Hid (M8 (fun a=>decide (a.seq=seq)) l cur i j)) (fun _ v _=>N+1 - (intOf v).toNat)
  case atStart=>exact⟨i0,i0+1,cur0,rfl,by go_num,by omega,by omega,Bc hb2 _,qA (HB.out.ext hb2),rfl,HS⟩
  case round=>
   clear HS HB CI
   obtain⟨i,j,cur,rfl,rfl,hij,hj,hgr,HB,hsz,HD⟩:=hrel
   by_cases hlt:j<N
   ·have hju:j<l.length:=by rw [←HN.out];exact hlt
    have hszN:l.length*7≤cur.size:=by rw [hsz,q3,←HN.out];omega
    have hgr':Blk wr gs 3 #[.int .i64 seq]:=HG.out.grown hgr (by simpa using hne)
    have zgo:=HB.out.lt
    have hkp:=HD.out.keep hju
    have hsk:=HD.out.skip hju
    have he:=HD.out.at hju hszN
    have hszj:j*7+7≤cur.size:=by omega
    generalize l[j]'hju=a at *
    have HE:=qA he
    have CP:=qA (fun W h1 h2=>Afz a gs seq W h1 h2)
    have HG':=qA hgr'
    clear he hgr'
    by_cases hs:a.seq=seq
    ·have Hd:=qA (hsk (qF hs))
     rw [qF hs] at CP
     clear hkp hsk hs HD
     go_wp2_with(first
      |(refine Ai rfl 139 _ rfl go _ rfl 139 cur 7 _ HB.out Tryz.underlying139 rfl Ma (by omega) ?_;rw [HE.out])
      |(refine Ae rfl 139 _ _ rfl wr.heap.size a.cells rfl rfl 139 _ (Blk.new wr _ _) (Dt a) rfl (Kk a) ?_;intro w3 hB3 hg3;have hb13:Below wr.heap.size wr w3:=below_grown ((qB _ _).alloc (qC _) _) hg3 (by simp) (qC _))
      |(refine Ab rfl 139 _ rfl wr.heap.size rfl 139 a.cells _ hB4 Tryz.underlying139 rfl (Dt a) ?_)
      |(refine Ab rfl 139 _ rfl wr.heap.size rfl 139 a.cells _ hB3 Tryz.underlying139 rfl (Dt a) ?_)
      |(go_at_call 62;(with_reducible refine(CP.out _ ((HG'.out.ext hb13).cell 0) (HG'.out.ext hb13).lt).mono ?_);rintro e w4 ⟨rfl,hb4⟩;have hB4:=hB3.ext hb4;have hb14:=hb13.trans (hb4.mono hb13.size))
      |(refine B7 rfl 139 _ _ rfl go (i*7) a.cells rfl rfl 139 cur (HB.out.ext hb14) (Dt a) (by rw [Jz];omega) (Kk a) ?_;intro w5 hB5 hg5))
     go_roundw
     case rel=>exact⟨i,j+1,cur,rfl,by go_num,by omega,by omega,hgr.trans (Bc hb14 _),qA (HB.out.ext hb14),hsz,Hd⟩
     case measure=>simp [intOf];omega
    ·have Hd:=qA (hkp (qG hs) hij hszN)
     rw [qG hs] at CP
     clear hkp hsk hs HD
     have hszi:i*7+7≤cur.size:=by omega
     go_wp2_with(first
      |(refine Ai rfl 139 _ rfl go _ rfl 139 cur 7 _ HB.out Tryz.underlying139 rfl Ma (by omega) ?_;rw [HE.out])
      |(refine Ae rfl 139 _ _ rfl wr.heap.size a.cells rfl rfl 139 _ (Blk.new wr _ _) (Dt a) rfl (Kk a) ?_;intro w3 hB3 hg3;have hb13:Below wr.heap.size wr w3:=below_grown ((qB _ _).alloc (qC _) _) hg3 (by simp) (qC _))
      |(refine Ab rfl 139 _ rfl wr.heap.size rfl 139 a.cells _ hB4 Tryz.underlying139 rfl (Dt a) ?_)
      |(refine Ab rfl 139 _ rfl wr.heap.size rfl 139 a.cells _ hB3 Tryz.underlying139 rfl (Dt a) ?_)
      |(go_at_call 62;(with_reducible refine(CP.out _ ((HG'.out.ext hb13).cell 0) (HG'.out.ext hb13).lt).mono ?_);rintro e w4 ⟨rfl,hb4⟩;have hB4:=hB3.ext hb4;have hb14:=hb13.trans (hb4.mono hb13.size))
      |(refine B7 rfl 139 _ _ rfl go (i*7) a.cells rfl rfl 139 cur (HB.out.ext hb14) (Dt a) (by rw [Jz];omega) (Kk a) ?_;intro w5 hB5 hg5))
     go_roundw
     case rel=>exact⟨i+1,j+1,_,by go_num,by go_num,by omega,by omega,(hgr.trans (Bc hb14 _)).trans hg5,qA hB5,by rw [Ht _ _ _ (by rw [Ji];omega)];exact hsz,Hd⟩
     case measure=>simp [intOf];omega
   ·obtain rfl:j=N:=by omega
    have e1:decide ((j:Int)<j)=false:=by simp
    obtain⟨hkl,hkc⟩:=HD.out.done HN.out
    have b1:(0:Int)≤i:=by omega
    have b2:(i:Int)≤j:=by omega
    have b3:(j:Int)≤cap:=by omega
    have b4:(i:Int)≤cap:=by omega
    have hzs:(Builtin.zeroCells (Value.agg #[.int .i64 0, .bool false, .bool false, .int .u32 0, .int .i64 0, .int .u32 0, .bool false]).cells (j - i)).toList.length=(j - i)*7:=by
     rw [Array.length_toList,Kg]
     rfl
    have hcl:∀ ty,(Builtin.clear_ #[84] ty #[.slice (some ⟨go,i*7,none⟩) (j - i) (cap - i)]).run Tryz.prog wr = .ok (.tuple #[]) (wr.setRow go (splice cur (i*7) (Builtin.zeroCells (Value.agg #[.int .i64 0, .bool false, .bool false, .int .u32 0, .int .i64 0, .int .u32 0, .bool false]).cells (j - i)).toList)):=
     fun ty=>K9 wr _ _ ty _ rfl Zx go (i*7) (j - i) (cap - i) (by omega) 139 cur HB.out (Le (by simp [Value.cells,Value.oneCell']) _) (by rw [←Array.length_toList,hzs,hsz,q3];omega)
    generalize (Builtin.zeroCells (Value.agg #[.int .i64 0, .bool false, .bool false, .int .u32 0, .int .i64 0, .int .u32 0, .bool false]).cells (j - i)).toList=Z at hzs hcl
    have HR:=qA (show w.grownBy (wr.setRow go (splice cur (i*7) Z)) (some go)∧(wr.setRow go (splice cur (i*7) Z)).ownsRow B 139 7 (.slice (some ⟨go,0,none⟩) (l.filter fun a=>!decide (a.seq=seq)).length cap) (l.filter fun a=>!decide (a.seq=seq)).length (Dp (l.filter fun a=>!decide (a.seq=seq))) by
     refine⟨hgr.trans (Ge _ _ _),Jp _,Or.inr ⟨go,cap,_,rfl,hb,HB.out.setRow _,by omega,by unfold maxLen;omega,by rw [Ht _ _ _ (by omega)];omega,Fx.take (fun k a c hk hc=>?_)⟩⟩
     have hki:k<i:=by rw [←hkl];exact(qJ.1 hk).1
     rw [E6 _ _ _ (by omega),if_pos (by omega)]
     exact hkc k a c hk hc)
    generalize wr.setRow go (splice cur (i*7) Z)=w9 at hcl HR
    have HKL:=qA hkl
    clear hkl hkc HB HD HG HN
    go_wp2_with(fail)
    go_ret
    exact⟨by rw [HKL.out];rfl,HR.out.1,HR.out.2⟩
theorem H9 (A:Option Addr) (n n' c:Nat):(Value.slice A n c).ownBlock=(Value.slice A n' c).ownBlock:=by cases A<;>rfl
theorem Agy (m:Ax) (rd p:Int):(N6 m rd p).free.length≤m.free.length+1:=by
 unfold N6 M6
 split
 ·simp
 ·exact Nat.zero_le _
theorem Ad1 (ops:List Uop) (m:Ax) (s:Int) (k:Nat) (h:I6 ops s=(k:Int)):Ei ops m s=if 0<(ops.getD k Bz).dest then N6 m (ops.getD k Bz).ins.rd (ops.getD k Bz).old else m:=by
 unfold Ei N6
 rw [h]
 rfl
theorem Ab3 (ops:List Uop) (m:Ax) (s:Int):(Ei ops m s).free.length≤m.free.length+1:=by
 unfold Ei
 dsimp only
 split
 ·exact Agy m _ _
 ·omega
theorem Pd (ops:List Uop):∀ (l:List Int) (m:Ax),(l.foldl (Ei ops) m).free.length≤m.free.length+l.length
 |[],m=>by simp
 |s::l,m=>by
  have h1:=Ab3 ops m s
  have h2:=Pd ops l (Ei ops m s)
  simp only [List.foldl_cons,List.length_cons]
  omega
theorem Z1 {C C1 C2 C5 C7:Core} {l:List Int} {acc':List Acc} {seq pc:Int} {ps ps':List Nat} (h1:({ C with backs:=C.backs+1 }:Core)=C1) (hl:Lj C1.slots seq=l) (h2:C2=({ C1 with names:=l.foldl (Ei C1.ops) C1.names }:Core))
  (h5:C5=({ C2 with slots:=Nb C1.slots seq }:Core)) (h7:C7=({ C5 with ops:=C5.ops.filter (fun u=>!decide (seq≤u.seq)) }:Core)) (ha:(C7.access.filter fun a=>!decide (seq≤a.seq))=acc') (hk:Ce (fun u=>decide (seq≤u.seq)) C5.ops ps=ps') :
  F5 C seq pc=({ C7 with access:=acc',pc:=pc,still:=false }:Core)∧Ce (fun u=>decide (seq≤u.seq)) C.ops ps=ps':=by
 subst h1 hl h2 h5 h7 ha hk
 exact⟨rfl,rfl⟩
section
variable {B:Nat} {w w' w2:World} {g:Nat} {C:Core} {L:Lay} {ps:List Nat} {cs:Array Value}
theorem Af.setnames (h:Af B w g C L ps cs) (hb:Below w.heap.size w w') {M:Ax} {A:Option Addr} {c:Nat} (hm:Kj w' M A c) (hf:∀ ad,A=some ad→w.heap.size≤ad.block)
  (hB:Blk w2 g 86 (splice cs 108 (Ag M.phys M.regs A M.free.length c).toList)) (hg:w'.grownBy w2 (some g)) :
  Af B w2 g { C with names:=M } { L with freeA:=A,freeCap:=c } ps (splice cs 108 (Ag M.phys M.regs A M.free.length c).toList):=by
 obtain⟨s1,s2,s3⟩:=N3 (off:=108) (n:=34) h.cells.size (by decide) (B3 M.phys M.regs A M.free.length c hm.len)
 have h1:=h.rows.name h.lt hm hf h.low hb
 exact⟨qD (qD h.low hb.size) hg.size,hB,h.cells.part_names M A c s1 s2 s3,h1.core (qD h.low hb.size) (h.blk.ext hb) hg⟩
theorem Af.mapV (h:Af B w g C L ps cs):Rn w C.names (.agg (Ag C.names.phys C.names.regs L.freeA C.names.free.length L.freeCap)):=⟨L.freeA,L.freeCap,rfl,h.rows.names⟩
theorem Af.setops (h:Af B w g C L ps cs) (hg:w.grownBy w' L.ops.ownBlock) {v':Value} {ps':List Nat} {ops':List Uop} (hrow:B8 w' B v' ps') (hu:C9 w' B ops' ps')
  (hv:v'.ownBlock=L.ops.ownBlock∨∀ k,v'.ownBlock=some k→w.heap.size≤k) (hp:∀ p∈ps',p∈ps∨(C.names.free≠[]→∀ ad,L.freeA=some ad→ad.block≠p)) :
  Af B (w'.setCell ⟨g,335,none⟩ v') g { C with ops:=ops' } { L with ops:=v' } ps' (cs.setIfInBounds 335 v')∧Ah B w (w'.setCell ⟨g,335,none⟩ v')∧w'.cell? ⟨g,335,none⟩=some L.ops∧w'.frozen? ⟨g,335,none⟩=false∧g<w'.heap.size:=by
 have hb:Blk w' g 86 cs:=h.blk.grown hg (by
  rcases h.rows.ptrs.other h.blk (by decide) with e | e
  ·rw [e];simp
  ·exact fun e'=>e e'.symm)
 have hr:=h.rows.ptr h.low hg hrow hu hv hp
 have ht:Ah B w w':=Ah.grown hg fun k hk=>by
  obtain⟨cur,hc⟩:=Kx h.rows.ptrs hk
  exact⟨(h.rows.ptrs.lt k hk).1,_,_,_,hc,rfl⟩
 have hg2:=grownBy_setCell w' ⟨g,335,none⟩ v'
 exact⟨⟨qD h.low (qD hg.size hg2.size),hb.set 335 v',h.cells.set_ops v' ops',hr.core (qD h.low hg.size) hb hg2⟩,
  ht.trans (Ah.grown hg2 fun k hk=>by cases hk;exact⟨h.rows.base,_,_,_,hb,rfl⟩),(hb.cell 335).trans h.cells.ops,hb.frozen 335,hb.lt⟩
theorem Af.setaccess (h:Af B w g C L ps cs) (hg:w.grownBy w' L.access.ownBlock) {v':Value} {acc':List Acc} (hown:w'.ownsRow B 139 7 v' acc'.length (Dp acc'))
  (hv:v'.ownBlock=L.access.ownBlock∨∀ k,v'.ownBlock=some k→w.heap.size≤k) :
  Af B (w'.setCell ⟨g,336,none⟩ v') g { C with access:=acc' } { L with access:=v' } ps (cs.setIfInBounds 336 v')∧Ah B w (w'.setCell ⟨g,336,none⟩ v')∧w'.cell? ⟨g,336,none⟩=some L.access∧w'.frozen? ⟨g,336,none⟩=false∧g<w'.heap.size:=by
 have hb:Blk w' g 86 cs:=h.blk.grown hg (by
  rcases Br h.rows.access h.blk (by decide) with e | e
  ·rw [e];simp
  ·exact fun e'=>e e'.symm)
 have hr:=h.rows.acc h.low hg hown hv
 have ht:Ah B w w':=Ah.grown hg fun k hk=>by
  rcases h.rows.access.2 with⟨e,_⟩ | ⟨go,c,cur,e,hl,hh,_⟩
  ·rw [e] at hk;cases hk
  ·rw [e] at hk
   cases hk
   exact⟨hl,_,_,_,hh,rfl⟩
 have hg2:=grownBy_setCell w' ⟨g,336,none⟩ v'
 exact⟨⟨qD h.low (qD hg.size hg2.size),hb.set 336 v',h.cells.set_access v' acc',hr.core (qD h.low hg.size) hb hg2⟩,
  ht.trans (Ah.grown hg2 fun k hk=>by cases hk;exact⟨h.rows.base,_,_,_,hb,rfl⟩),(hb.cell 336).trans h.cells.access,hb.frozen 336,hb.lt⟩
structure Pf (B:Nat) (w wr:World) (g:Nat) (C:Core) (ps:List Nat) (gs:Nat) (seq:Int) (AO:Option Addr) (cO:Nat) (l:List Int):Prop where
 core:∃ L cs,Af B wr g C L ps cs
 box:Blk wr gs 3 #[.int .i64 seq]
 turned:w.grownBy wr (some g)
 gone:wr.ownsRow w.heap.size 3 1 (.slice AO l.length cO) l.length (l.map (Value.int .i64))
theorem Pf.step {gs:Nat} {seq:Int} {AO:Option Addr} {cO:Nat} {l:List Int} {wr wn:World} {C':Core} (h:Pf B w wr g C ps gs seq AO cO l) (hg:wr.grownBy wn (some g)) (hC:∃ L cs,Af B wn g C' L ps cs):Pf B w wn g C' ps gs seq AO cO l:=by
 obtain⟨L,cs,h1⟩:=h.core
 exact⟨hC,h.box.grown hg (by simpa using Bm h.box h1.blk (by decide)),h.turned.trans hg,h.gone.kept hg (Br h.gone h1.blk (by decide))⟩
theorem Nh (h:Af B w g C L ps cs) (seq pc:Int) (h1:0≤C.backs) (h2:C.backs<4611686018427387904) (hsl:C.slots.length≤1000) (hop:C.ops.length≤1000) (hac:C.access.length≤1000) (hfr:C.names.free.length≤1000)
  (hfi:∀ s∈Lj C.slots seq,∃ k:Nat,I6 C.ops s=(k:Int)∧k<C.ops.length) (hus:∀ u∈C.ops,(0≤u.ins.rd∧u.ins.rd≤31)∧(0<u.dest→0≤u.old∧u.old<96)) :
  Calls Tryz.prog 69 #[.pointer (some ⟨g,0,none⟩), .int .i64 seq, .int .u32 pc] w fun e w'=>e = .returned (.tuple #[])∧Ah B w w'∧∃ L' cs',Af B w' g (F5 C seq pc) L' (Ce (fun u=>decide (seq≤u.seq)) C.ops ps) cs':=by
 have hbx:=Blk.new w 3 #[.int .i64 seq]
 have hb0:=(qB w.heap.size w).alloc (qC _) (.cells #[.int .i64 seq] 3)
 have h0:=h.ext hb0
 have c42:=h0.cell h0.cells.backs
 have f42:=h0.blk.frozen 42
 have zg:=h0.lt
 have HI:=qA (qL (h0.set 42 (.int .i64 (C.backs+1)) (h0.cells.set_backs _) h0.rows) ((Bc hb0 (some g)).trans (grownBy_setCell _ ⟨g,42,none⟩ (.int .i64 (C.backs+1)))))
 have HBX:=qA (hbx.far (by exact fun e=>Bm hbx h0.blk (by decide) e:w.heap.size≠(⟨g,42,none⟩:Addr).block) (.int .i64 (C.backs+1)))
 have zgs:w.heap.size<(w.alloc (.cells #[.int .i64 seq] 3)).heap.size:=hbx.lt
 have HT0:=qA h
 generalize hC1:({ C with backs:=C.backs+1 }:Core)=C1 at HI
 have HC1:=qA hC1
 have HFI:=qA (show ∀ s∈Lj C1.slots seq,∃ k:Nat,I6 C1.ops s=(k:Int)∧k<C1.ops.length by rw [←hC1];exact hfi)
 have HUS:=qA (show ∀ u∈C1.ops,(0≤u.ins.rd∧u.ins.rd≤31)∧(0<u.dest→0≤u.old∧u.old<96) by rw [←hC1];exact hus)
 have hsl1:C1.slots.length≤1000:=by rw [←hC1];exact hsl
 have hop1:C1.ops.length≤1000:=by rw [←hC1];exact hop
 have hac1:C1.access.length≤1000:=by rw [←hC1];exact hac
 have hfr1:C1.names.free.length≤1000:=by rw [←hC1];exact hfr
 clear hC1 hbx hb0 h0 hfi hus h hsl hop hac hfr
 go_enter Tryz.func69,Tryz.ntmps69
 go_upto_region 2 with(fail)
 go_simp
 clear c42 f42 zg zgs h1 h2
 generalize (w.alloc (.cells #[.int .i64 seq] 3)).setCell ⟨g,42,none⟩ (.int .i64 (C.backs+1))=w1 at *
 obtain⟨h1c,hg1⟩:=HI.out
 have zg1:=h1c.lt
 have c334:=h1c.slots
 obtain⟨A,cp,hsv,hS,hnl,hc1,hc2⟩:=Hq h1c.rows.slots
 rw [hsv] at c334
 have cgs:=HBX.out.cell 0
 have zgs1:=HBX.out.lt
 have HS:=qA (qL hS hnl)
 have hsz01:=hg1.size
 clear hS hnl h1c hsv hg1 hc2
 refine Ad 1991 24 2015 [0,1,2,3,4,5,6,7,8,9,10] (by kernel_rfl) (by kernel_rfl) (by kernel_rfl) rfl ?_
 refine rR (fun wq hwq=>i2 (hwq.at_ zg1 c334) (hwq.at_ zgs1 cgs)) ?_
 refine oS (fun w2 hw2 K1 hK1=>?_)
 have hb2:Below w1.heap.size w1 w2:=by rw [hw2];exact(qB _ _).drew
 have CD:=qA (Aef A cp C1.slots seq w2 (by omega) ((HS.out.1.below hb2).mono hb2.size))
 clear hw2
 go_wp2_with(go_at_call 99;(with_reducible refine CD.out.mono ?_);intro e w3 hD;obtain⟨hb3,v3,u3,rfl,hq3,ho3⟩:=hD;obtain⟨AO,cO,rfl⟩:=Al ho3)
 refine hK1 _ _ (fun _=>True) trivial ?_
 simp only [Act.put,sA,sS,sZ]
 clear hK1 K1 CD hq3
 have hb13:=hb2.trans (hb3.mono hb2.size)
 have ho3':=Gp ho3 (base':=w.heap.size) (qD hsz01 hb2.size)
 have HBA:Hid (Pf B w w3 g C1 ps w.heap.size seq AO cO (Lj C1.slots seq)):=qA ⟨⟨_,_,HI.out.1.ext hb13⟩,HBX.out.ext hb13,HI.out.2.trans (Bc hb13 _),ho3'⟩
 have hcl:(Lj C1.slots seq).length≤1000:=by have:=Aco C1.slots seq;omega
 clear hb2 hb3 ho3 ho3' hb13 HI HBX HS cgs zgs1 c334 zg1
 refine rO ?_
 refine Aj ?_
 rintro w4 hw4
 have HBA:Hid (Pf B w w4 g C1 ps w.heap.size seq AO cO (Lj C1.slots seq)):=by first | (rw [hw4];exact HBA) | (rw [←hw4];exact HBA)
 clear hw4
 generalize hcO:Lj C1.slots seq=l at *
 obtain⟨N,hN⟩:∃ N,N=l.length:=⟨_,rfl⟩
 have HN:=qA hN
 rw [←hN] at hcl
 simp only [←hN]
 have HCO:=qA hcO
 clear hN hcO
 have HB1:Hid (Pf B w w4 g { C1 with names:=(l.take 0).foldl (Ei C1.ops) C1.names } ps w.heap.size seq AO cO l):=HBA
 clear HBA
 go_upto_region 4 with(fail)
 go_simp
 go_loopw [31] (fun v wr=>∃ k:Nat,v = .int .i64 k∧k≤N∧Hid (Pf B w wr g { C1 with names:=(l.take k).foldl (Ei C1.ops) C1.names } ps w.heap.size seq AO cO l)) (fun v _=>N+1 - (intOf v).toNat)
 case atStart=>exact⟨0,rfl,Nat.zero_le _,HB1⟩
 case round=>
  clear HB1
  obtain⟨k,rfl,hk,HB⟩:=hrel
  by_cases hlt:k<N
  ·have hk':k<l.length:=by rw [←HN.out];exact hlt
   have hgl:=HB.out.gone
   obtain⟨bO,oO,rfl,hbO,hcO⟩:=(Ar.own (k := .i64) hgl).at_ hk'
   have ck:=hcO k hk'
   have hgd:l.getD k 0=l[k]'hk':=by simp [List.getD,qI hk']
   obtain⟨i,hfi,hil⟩:=HFI.out _ (List.getElem_mem hk')
   have hMl:=Pd C1.ops (l.take k) C1.names
   rw [List.length_take] at hMl
   have hM2:((l.take k).foldl (Ei C1.ops) C1.names).free.length<17592186044000:=by omega
   have hMn:(l.take (k+1)).foldl (Ei C1.ops) C1.names=Ei C1.ops ((l.take k).foldl (Ei C1.ops) C1.names) (l[k]'hk'):=by rw [List.take_succ_eq_append_getElem hk',List.foldl_append];rfl
   rw [Ad1 _ _ _ _ hfi] at hMn
   rw [hgd] at ck
   generalize l[k]'hk'=sq at *
   generalize (l.take k).foldl (Ei C1.ops) C1.names=M at *
   obtain⟨L2,cs2,h2⟩:=HB.out.core
   have zg:=h2.lt
   have hl2:C1.ops.length=ps.length:=h2.rows.uops.len.symm
   have c335:=h2.ops
   have hpr:=h2.rows.ptrs
   obtain⟨A2,c2,hv2,hcc,_,_⟩:=Fc hpr
   rw [hv2] at c335 hpr
   have hips:i<ps.length:=by rw [←hl2];exact hil
   obtain⟨bP,oP,rfl,zP,cP⟩:=G2 hpr hips
   have hp:ps[i]? = some ps[i]:=qI hips
   generalize ps[i]'hips=p at *
   have hu:Blk wr p 107 (C1.ops.getD i Bz).cells:=(h2.uop_at hp).1
   have hum:C1.ops.getD i Bz∈C1.ops:=by rw [List.getD,qI hil];exact List.getElem_mem hil
   obtain⟨⟨hr0,hr1⟩,hoo⟩:=HUS.out _ hum
   generalize C1.ops.getD i Bz=u at *
   have c13:wr.cell? ⟨p,13,none⟩=some (.int .i64 u.dest):=hu.cell 13
   have c6:wr.cell? ⟨p,6,none⟩=some (.int .i64 u.ins.rd):=hu.cell 6
   have c14:wr.cell? ⟨p,14,none⟩=some (.int .i64 u.old):=hu.cell 14
   have zp:=hu.lt
   have CF:∀ W,Below wr.heap.size wr W→Calls Tryz.prog 100 #[.pointer (some ⟨g,0,none⟩), .int .i64 sq] W fun e w'=>e = .returned (.int .i64 (i:Int))∧Below W.heap.size W w':=fun W hb=>by rw [←hfi];exact Aaq (h2.ext hb) sq hop1
   have HCF:=qA CF
   have H2:=qA h2
   have HM:=qA hMn
   have HN2:(l.length:Int)=N:=by rw [HN.out]
   have HOO:=qA hoo
   clear hoo
   have hN3:N≤cO∨True:=Or.inr trivial
   clear CF h2 hMn hu hum hv2 hpr hcO hfi hgd hMl hp hgl
   go_upto_region 6 with(fail)
   go_simp
   clear ck hbO
   refine Ad 695 264 959 [0,1,2,3,4,5,6,7,8,9] (by kernel_rfl) (by kernel_rfl) (by kernel_rfl) rfl ?_
   refine rR (fun wq hwq=>hwq.at_ zg c335) ?_
   refine oB (fun w5 hw5 K1 hK1=>?_)
   have hb5:Below wr.heap.size wr w5:=by rw [hw5];exact(qB _ _).drew
   clear hw5
   go_wp2_with(go_at_call 100;(with_reducible refine(HCF.out _ hb5).mono ?_);rintro e w6 ⟨rfl,hb6⟩)
   replace hb6:=hb5.trans (hb6.mono hb5.size)
   refine hK1 _ _ hb6 ?_
   simp only [Act.put,sA,sS,sZ]
   clear hK1 K1 HCF hb5
   refine rR (fun wq hwq=>hwq.at_ zP cP) ?_
   refine Aj ?_
   rintro w7 hw7
   rw [←hw7] at hb6
   clear hw7
   replace c13:=(hb6.cell (p:=⟨p,13,none⟩) zp).trans c13
   replace c6:=(hb6.cell (p:=⟨p,6,none⟩) zp).trans c6
   replace c14:=(hb6.cell (p:=⟨p,14,none⟩) zp).trans c14
   replace zp:=qE zp hb6.size
   replace H2:=qA (H2.out.ext hb6)
   replace HB:=qA (HB.out.step (Bc hb6 (some g)) ⟨_,_,H2.out⟩)
   clear hb6 c335 cP zP zg
   by_cases hd:0<u.dest
   ·rw [if_pos hd] at HM
    obtain⟨ho0,ho1⟩:=HOO.out hd
    have hT:=H2.out.cells.namesX H2.out.rows.names.len
    have HX:=qA hT
    have hsz2:=H2.out.cells.size
    have hs:=D6 (phys:=M.phys) (A:=L2.freeA) (n:=M.free.length) (cap:=L2.freeCap) H2.out.rows.names.len
    have CU:∀ W,Below w7.heap.size w7 W→Calls Tryz.prog 101 #[.agg (Ag M.phys M.regs L2.freeA M.free.length L2.freeCap), .int .i64 u.ins.rd, .int .i64 u.old] W fun e w'=>∃ v',e = .returned (.tuple #[v', .bool (M6 M u.ins.rd u.old).isSome])∧Below W.heap.size W w'∧M9 w' W.heap.size (N6 M u.ins.rd u.old) v':=fun W hb=>Aix (H2.out.mapV.ext hb) u.ins.rd u.old (by omega) (by omega) (by omega) (by omega) hM2
    have HCU:=qA CU
    have zg:=H2.out.lt
    clear hT CU
    generalize Ag M.phys M.regs L2.freeA M.free.length L2.freeCap=T at *
    go_upto_region 8 with(fail)
    go_simp
    refine Ad 1023471 8720 1032191 [0,1,2,3,4,5,6,7,8,9,10,11,12,13,14,15,16,17,18,19,20] (by kernel_rfl) (by kernel_rfl) (by kernel_rfl) rfl ?_
    repeat'(first
     |refine rZ ?_
     |(refine' oR _ (by decide) (by decide) (by decide) (fun wq hwq K hK=>?_) ?_ ?_;rotate_left 1;(· have k6:=hwq.at_ zp c6;have k14:=hwq.at_ zp c14;first | ((refine Az 79 _ rfl g 108 rfl 86 cs2 34 _ (H2.out.blk.ext hwq) Tryz.underlying79 rfl Nj (by omega) ?_;rw [HX.out];exact hK)) | (go_wp2_with(fail);all_goals exact hK));rfl)
     |fail)
    refine oS (fun w8 hw8 K1 hK1=>?_)
    have hb8:Below w7.heap.size w7 w8:=by rw [hw8];exact(qB _ _).drew
    clear hw8
    generalize N6 M u.ins.rd u.old=Mn at *
    generalize (M6 M u.ins.rd u.old).isSome=bn at *
    go_wp2_with(go_at_call 101;(with_reducible refine(HCU.out _ hb8).mono ?_);rintro e w9 ⟨v9,rfl,hb9,A9,c9,rfl,hm9,hf9⟩)
    refine hK1 _ _ (fun _=>True) trivial ?_
    simp only [Act.put,sA,sS,sZ]
    clear hK1 K1 HCU
    have hb79:=hb8.trans (hb9.mono hb8.size)
    have i9:=D6 (phys:=Mn.phys) (A:=A9) (n:=Mn.free.length) (cap:=c9) hm9.len
    have o9:=Ez Mn.phys Mn.regs A9 Mn.free.length c9
    have z9:=B3 Mn.phys Mn.regs A9 Mn.free.length c9 hm9.len
    have HN9:=qA (fun(wz:World) (hB:Blk wz g 86 (splice cs2 108 (Ag Mn.phys Mn.regs A9 Mn.free.length c9).toList)) (hg:w9.grownBy wz (some g))=>HB.out.step ((Bc hb79 (some g)).trans hg) ⟨_,_,H2.out.setnames hb79 hm9 (fun ad e=>qD hb8.size (hf9 ad e)) hB hg⟩)
    generalize Ag Mn.phys Mn.regs A9 Mn.free.length c9=T9 at *
    clear hm9 hf9
    refine rO ?_
    refine oS (fun w10 hw10 K1 hK1=>?_)
    have hB9:=H2.out.blk.ext hb79
    rw [←hw10] at hB9 HN9
    clear hw10
    refine Ch 79 _ _ rfl g 108 T9 rfl rfl 86 cs2 hB9 i9 (by rw [z9,hsz2];decide) o9 ?_
    intro w11 hB11 hg11
    refine hK1 undef _ (fun _=>True) trivial ?_
    simp only [Act.put,sA,sS,sZ]
    clear hK1 K1
    refine Aj ?_
    rintro w12 hw12
    rw [←hw12] at hB11 hg11
    clear hw12
    have HBn:=qA (HN9.out w12 hB11 hg11)
    clear HN9 hB9 hB11 hg11 hb79 hb8 hb9 H2 HB
    go_wp2_with(fail)
    go_roundw
    case rel=>
     refine⟨k+1,by go_num,by omega,?_⟩
     rw [HM.out]
     exact HBn
    case measure=>simp [intOf];omega
   ·rw [if_neg hd] at HM
    go_wp2_with(fail)
    go_roundw
    case rel=>
     refine⟨k+1,by go_num,by omega,?_⟩
     rw [HM.out]
     exact HB
    case measure=>simp [intOf];omega
  ·obtain rfl:k=N:=by omega
   have e1:decide ((k:Int)<k)=false:=by simp
   have hkl:l.take k=l:=by rw [HN.out];exact List.take_length
   rw [hkl] at HB
   clear hkl
   obtain⟨C2,hC2⟩:∃ C2,C2=({ C1 with names:=l.foldl (Ei C1.ops) C1.names }:Core):=⟨_,rfl⟩
   rw [←hC2] at HB
   have HC2:=qA hC2
   have es2:C2.slots=C1.slots:=by rw [hC2]
   have eo2:C2.ops=C1.ops:=by rw [hC2]
   have ea2:C2.access=C1.access:=by rw [hC2]
   clear hC2
   obtain⟨L2,cs2,h2⟩:=HB.out.core
   have zg:=h2.lt
   have c334:=h2.slots
   obtain⟨A2,c2,hsv,hS,hnl,hc1',hc2'⟩:=Hq h2.rows.slots
   rw [hsv] at c334
   rw [es2] at c334 hS hnl
   have cgs:=HB.out.box.cell 0
   have zgs:=HB.out.box.lt
   have HS:=qA (qL hS hnl)
   have H2:=qA h2
   have HBX:=qA HB.out.box
   have HG2:=qA HB.out.turned
   clear hS hnl h2 hsv hc1' hc2' HB
   go_upto_region 10 with(fail)
   go_simp
   refine Ad 3983 48 4031 [0,1,2,3,4,5,6,7,8,9,10,11,12] (by kernel_rfl) (by kernel_rfl) (by kernel_rfl) rfl ?_
   refine rR (fun wq hwq=>i2 (hwq.at_ zg c334) (hwq.at_ zgs cgs)) ?_
   refine oS (fun w2 hw2 K1 hK1=>?_)
   have hb2:Below wr.heap.size wr w2:=by rw [hw2];exact(qB _ _).drew
   have CD:=qA (Aef A2 c2 C1.slots seq w2 (by omega) ((HS.out.1.below hb2).mono hb2.size))
   clear hw2
   go_wp2_with(go_at_call 99;(with_reducible refine CD.out.mono ?_);intro e w3 hD;obtain⟨hb3,v3,u3,rfl,ho3,hq3⟩:=hD;obtain⟨A3,c3,rfl⟩:=Al ho3)
   refine hK1 _ _ (fun _=>True) trivial ?_
   simp only [Act.put,sA,sS,sZ]
   clear hK1 K1 CD hq3
   have hb13:=hb2.trans (hb3.mono hb2.size)
   have h3:=H2.out.ext hb13
   have ho3':=Gp ho3 (base':=B) (qD H2.out.low hb2.size)
   have k3:=h3.slots
   have f3:=h3.blk.frozen 334
   have z3:=h3.lt
   have hbx3:=HBX.out.ext hb13
   have hnx:=Bm hbx3 h3.blk (by decide)
   have HJ:=qA (qL (h3.setslots ho3').1 (qL (((HT0.out.turned HG2.out).trans (Ah.below hb13)).trans (h3.setslots ho3').2) (hbx3.farAt (off:=334) hnx (.slice A3 (Nb C1.slots seq).length c3))))
   clear h3 ho3 ho3' hb13 hb2 hb3 HS H2 HBX HG2 hbx3 hnx cgs zgs c334 zg
   refine rO ?_
   refine oS (fun w4 hw4 K1 hK1=>?_)
   subst hw4
   go_wp2_with(fail)
   refine hK1 undef _ (fun _=>True) trivial ?_
   simp only [Act.put,sA,sS,sZ]
   clear hK1 K1 k3 f3 z3
   refine Aj ?_
   rintro w5 hw5
   rw [←hw5] at HJ
   clear hw5
   obtain⟨h5,ht5,hbx5⟩:=HJ.out
   generalize (cs2.setIfInBounds 334 (.slice A3 (Nb C1.slots seq).length c3))=cs5 at *
   generalize hL5:({ L2 with slots := .slice A3 (Nb C1.slots seq).length c3 }:Lay)=L5 at *
   obtain⟨C5,hC5⟩:∃ C5,C5=({ C2 with slots:=Nb C1.slots seq }:Core):=⟨_,rfl⟩
   rw [←hC5] at h5
   have HC5:=qA hC5
   have eo5:C5.ops=C1.ops:=by rw [hC5];exact eo2
   have ea5:C5.access=C1.access:=by rw [hC5];exact ea2
   clear hC5 hL5 HJ
   have c335:=h5.ops
   have zg5:=h5.lt
   obtain⟨A5,n5,hv5,hcc5,_,_⟩:=Fc h5.rows.ptrs
   have CDU:=qA (Aaf A5 n5 B C5.ops ps seq w.heap.size w5 (by rw [h5.rows.uops.len,eo5];omega) (by rw [←hv5];exact h5.rows.ptrs) h5.rows.uops hbx5)
   have HSO:=qA (fun(wz:World) (hg:w5.grownBy wz (Value.slice A5 ps.length n5).ownBlock) (hr:B8 wz B (.slice A5 (Ce (fun u=>decide (seq≤u.seq)) C5.ops ps).length n5) (Ce (fun u=>decide (seq≤u.seq)) C5.ops ps))=>
    have hg':w5.grownBy wz L5.ops.ownBlock:=by rw [hv5];exact hg
    qL (h5.setops hg' hr ((h5.rows.uops.kept hg' (fun p hp e=>by
     obtain⟨u,hu,_⟩:=h5.rows.uops.mem hp
     obtain⟨cur,hk⟩:=Kx h5.rows.ptrs e.symm
     exact Bm hu hk (by decide) rfl)).keep _) (Or.inl (by rw [hv5];exact H9 _ _ _ _)) (fun p hp=>Or.inl (Pq _ _ _ _ hp)))
     (qL (hbx5.grown hg' (by
      rcases h5.rows.ptrs.other hbx5 (by decide) with e | e
      ·rw [e];simp
      ·exact fun e'=>e e'.symm)) (fun e=>Bm hbx5 h5.blk (by decide) e)))
   rw [hv5] at c335
   have HT5:=qA ht5
   clear h5 hbx5 hv5 ht5
   generalize hKB:Ce (fun u=>decide (seq≤u.seq)) C5.ops ps=ps' at *
   go_upto_region 12 with(go_at_call 102;(with_reducible refine CDU.out.mono ?_);rintro e w6 ⟨rfl,hg6,hr6⟩;obtain⟨⟨h6,ht6,k6,f6,z6⟩,hbx6,hne6⟩:=HSO.out w6 hg6 hr6;have HJ6:=qA (qL h6 (qL (HT5.out.trans ht6) (hbx6.farAt (off:=335) hne6 (.slice A5 ps'.length n5))));clear h6 ht6 hbx6 hg6 hr6)
   go_simp
   have HKB:=qA hKB
   clear hKB CDU HSO k6 f6 z6 c335 zg5
   generalize w6.setCell ⟨g,335,none⟩ (.slice A5 ps'.length n5)=w7 at *
   generalize (cs5.setIfInBounds 335 (.slice A5 ps'.length n5))=cs7 at *
   generalize ({ L5 with ops := .slice A5 ps'.length n5 }:Lay)=L7 at *
   obtain⟨h7,ht7,hbx7⟩:=HJ6.out
   obtain⟨C7,hC7⟩:∃ C7,C7=({ C5 with ops:=C5.ops.filter (fun u=>!decide (seq≤u.seq)) }:Core):=⟨_,rfl⟩
   rw [←hC7] at h7
   have HC7:=qA hC7
   have ea7:C7.access=C1.access:=by rw [hC7];exact ea5
   clear hC7 HJ6
   have c336:=h7.access
   have zg7:=h7.lt
   have hac7:=h7.rows.access
   obtain⟨A7,n7,hv7⟩:=Al hac7
   have CDA:=qA (Aez A7 n7 B C7.access seq w.heap.size w7 (by rw [ea7];omega) (by rw [←hv7];exact hac7) hbx7)
   have HSA:=qA (fun(wz:World) (hg:w7.grownBy wz (Value.slice A7 C7.access.length n7).ownBlock) (hr:wz.ownsRow B 139 7 (.slice A7 (C7.access.filter fun a=>!decide (seq≤a.seq)).length n7) (C7.access.filter fun a=>!decide (seq≤a.seq)).length (Dp (C7.access.filter fun a=>!decide (seq≤a.seq))))=>
    h7.setaccess (by rw [hv7];exact hg) hr (Or.inl (by rw [hv7];exact H9 _ _ _ _)))
   rw [hv7] at c336
   have HT7:=qA ht7
   clear h7 hbx7 hv7 ht7 hac7
   have EO5:=qA eo5
   clear ea7 ea5 ea2 eo5 eo2 es2
   generalize hFA:(C7.access.filter fun a=>!decide (seq≤a.seq))=acc' at *
   go_upto_region 13 with(go_at_call 61;(with_reducible refine CDA.out.mono ?_);rintro e w8 ⟨rfl,hg8,hr8⟩;obtain⟨h8,ht8,k8,f8,z8⟩:=HSA.out w8 hg8 hr8;have HJ8:=qA (qL h8 (HT7.out.trans ht8));clear h8 ht8 hg8 hr8)
   go_simp
   have HFA:=qA hFA
   clear hFA CDA HSA c336 zg7
   (try clear k8);(try clear f8);(try clear z8)
   generalize w8.setCell ⟨g,336,none⟩ (.slice A7 acc'.length n7)=w9 at *
   generalize (cs7.setIfInBounds 336 (.slice A7 acc'.length n7))=cs9 at *
   generalize ({ L7 with access := .slice A7 acc'.length n7 }:Lay)=L9 at *
   obtain⟨h9,ht9⟩:=HJ8.out
   have k338:=h9.cell h9.cells.pc
   have k339:=h9.cell h9.cells.still
   have f338:=h9.blk.frozen 338
   have f339:=h9.blk.frozen 339
   have z9:=h9.lt
   have h10:=h9.set 338 (.int .u32 pc) (h9.cells.set_pc pc) h9.rows
   have h11:=h10.set 339 (.bool false) (h10.cells.set_still false) h10.rows
   have HJ:=qA (qL h11 ((ht9.trans (h9.turned (grownBy_setCell w9 ⟨g,338,none⟩ (.int .u32 pc)))).trans (h10.turned (grownBy_setCell _ ⟨g,339,none⟩ (.bool false)))))
   clear h9 h10 h11 ht9 HJ8
   go_wp2_with(fail)
   refine bodyPost_end (results_none rfl _ _ _) rfl ?_
   obtain⟨e1,e2⟩:=Z1 (pc:=pc) HC1.out HCO.out HC2.out HC5.out HC7.out HFA.out HKB.out
   refine⟨rfl,HJ.out.2,?_⟩
   rw [e1,e2]
   exact⟨_,_,HJ.out.1⟩
end
theorem Fx.set1 {cur:Array Value} {l:List Acc} (h:Fx cur l) (hs:l.length*7≤cur.size) {j:Nat} {a a':Acc} (hj:l[j]? = some a) {i:Nat} (hi:i<7) {x:Value} (hc:a.cells.setIfInBounds i x=a'.cells):Fx (cur.setIfInBounds (j*7+i) x) (l.set j a'):=fun k b c hk hc7=>by
 have hjl:=(qJ.1 hj).1
 rw [Array.getElem?_setIfInBounds]
 by_cases e:k=j
 ·subst e
  rw [List.getElem?_set_self hjl] at hk
  cases hk
  rw [←hc,Array.getElem?_setIfInBounds]
  by_cases e2:i=c
  ·subst e2
   rw [if_pos rfl,if_pos rfl,if_pos (by omega),if_pos (by rw [Jz];exact hi)]
  ·rw [if_neg (by omega),if_neg e2]
   exact h k a c hj hc7
 ·rw [List.getElem?_set_ne (fun x=>e x.symm)] at hk
  rw [if_neg (by omega)]
  exact h k b c hk hc7
section
variable {B:Nat} {w:World} {g p:Nat} {C:Core} {L:Lay} {ps:List Nat} {cs:Array Value}
theorem W3 {v:Value} {l:List Acc} (h:w.ownsRow B 139 7 v l.length (Dp l)) (h0:0<l.length) :
  ∃ ga cap cur,v = .slice (some ⟨ga,0,none⟩) l.length cap∧B≤ga∧Blk w ga 139 cur∧Fx cur l∧l.length*7≤cur.size:=by
 rcases h.2 with⟨_,hz⟩ | ⟨ga,cap,cur,rfl,hb,hB,q1,q2,q3,q4⟩
 ·omega
 ·exact⟨ga,cap,cur,rfl,hb,hB,Fx.of q4,by rw [q3];exact Nat.mul_le_mul_right _ q1⟩
theorem Af.setacc1 (h:Af B w g C L ps cs) {ga cap:Nat} (hv:L.access = .slice (some ⟨ga,0,none⟩) C.access.length cap) {j:Nat} {a a':Acc} (hj:C.access[j]? = some a) {i:Nat} (hi:i<7) {x:Value} (hc:a.cells.setIfInBounds i x=a'.cells) :
  Af B (w.setCell ⟨ga,j*7+i,none⟩ x) g { C with access:=C.access.set j a' } L ps cs∧Ah B w (w.setCell ⟨ga,j*7+i,none⟩ x):=by
 have hjl:=(qJ.1 hj).1
 have hg:=grownBy_setCell w ⟨ga,j*7+i,none⟩ x
 rcases h.rows.access.2 with⟨_,hz⟩ | ⟨ga',cap',cur,hv',hb,hB,q1,q2,q3,q4⟩
 ·omega
 rw [hv] at hv'
 injection hv' with e1 _ e2
 injection e1 with e1
 injection e1 with e1
 subst e1 e2
 have hB:Blk w ga 139 cur:=hB
 have hsz:C.access.length*7≤cur.size:=by rw [q3];exact Nat.mul_le_mul_right _ q1
 have hB':=hB.set (j*7+i) x
 have hr':=(Fx.of q4).set1 hsz hj hi hc
 have hlen:(C.access.set j a').length=C.access.length:=List.length_set
 have hgo:w.grownBy (w.setCell ⟨ga,j*7+i,none⟩ x) L.access.ownBlock:=by rw [hv];exact hg
 have hown:(w.setCell ⟨ga,j*7+i,none⟩ x).ownsRow B 139 7 L.access (C.access.set j a').length (Dp (C.access.set j a')):=by
  rw [hv,hlen]
  refine⟨by rw [Jp,hlen],Or.inr ⟨ga,cap,_,rfl,hb,hB',q1,q2,by simpa using q3,?_⟩⟩
  rw [←hlen]
  exact hr'.take
 have hrows:=h.rows.acc h.low hgo hown (Or.inl rfl)
 have hne:g≠ga:=Bm h.blk hB (by decide)
 have hcells:Ak cs { C with access:=C.access.set j a' } L:=⟨h.cells.size,h.cells.window,h.cells.phys,h.cells.wide,h.cells.commits,h.cells.mem,h.cells.cycles,h.cells.taken,h.cells.backs,h.cells.script,h.cells.slots,h.cells.ops,h.cells.access,h.cells.seq,h.cells.pc,h.cells.still,h.cells.hart,h.cells.tab,h.cells.names,h.cells.words,h.cells.there⟩
 exact⟨⟨by simpa using h.low,h.blk.farAt hne x,hcells,hrows⟩,Ah.grown hg fun k hk=>by cases hk;exact⟨hb,_,_,_,hB,rfl⟩⟩
theorem Af.setacc4 (h:Af B w g C L ps cs) {ga cap:Nat} (hv:L.access = .slice (some ⟨ga,0,none⟩) C.access.length cap) {j:Nat} {a:Acc} (hj:C.access[j]? = some a) (at_:Int) (many:Int) {i4:Nat} (hi4:i4<7) {x4:Value} {a':Acc} (h4:(Acc.cells { a with known:=true,at_:=at_,many:=many }).setIfInBounds i4 x4=a'.cells) :
  Af B ((((w.setCell ⟨ga,j*7+2,none⟩ (.bool true)).setCell ⟨ga,j*7+3,none⟩ (.int .u32 at_)).setCell ⟨ga,j*7+4,none⟩ (.int .i64 many)).setCell ⟨ga,j*7+i4,none⟩ x4) g { C with access:=C.access.set j a' } L ps cs ∧
  Ah B w ((((w.setCell ⟨ga,j*7+2,none⟩ (.bool true)).setCell ⟨ga,j*7+3,none⟩ (.int .u32 at_)).setCell ⟨ga,j*7+4,none⟩ (.int .i64 many)).setCell ⟨ga,j*7+i4,none⟩ x4):=by
 have hjl:=(qJ.1 hj).1
 have hs:∀ b:Acc,(C.access.set j b)[j]? = some b:=fun b=>List.getElem?_set_self hjl
 have hl:∀ b:Acc,(C.access.set j b).length=C.access.length:=fun b=>List.length_set
 obtain⟨h1,t1⟩:=h.setacc1 hv hj (i:=2) (by decide) (x := .bool true) (a':={ a with known:=true }) rfl
 obtain⟨h2,t2⟩:=h1.setacc1 (ga:=ga) (cap:=cap) (by rw [hv];simp only [hl]) (j:=j) (hs _) (i:=3) (by decide) (x := .int .u32 at_) (a':={ a with known:=true,at_:=at_ }) rfl
 simp only [List.set_set] at h2
 obtain⟨h3,t3⟩:=h2.setacc1 (ga:=ga) (cap:=cap) (by rw [hv];simp only [hl]) (j:=j) (hs _) (i:=4) (by decide) (x := .int .i64 many) (a':={ a with known:=true,at_:=at_,many:=many }) rfl
 simp only [List.set_set] at h3
 obtain⟨h5,t4⟩:=h3.setacc1 (ga:=ga) (cap:=cap) (by rw [hv];simp only [hl]) (j:=j) (hs _) (i:=i4) hi4 (x:=x4) (a':=a') h4
 simp only [List.set_set] at h5
 exact⟨h5,((t1.trans t2).trans t3).trans t4⟩
theorem Jy (h:Af B w g C L ps cs) {ga cap:Nat} (hv:L.access = .slice (some ⟨ga,0,none⟩) C.access.length cap) {j:Nat} {a:Acc} (hj:C.access[j]? = some a) {i:Nat} (hi:i<7) :
  w.cell? ⟨ga,j*7+i,none⟩=a.cells[i]? ∧ w.frozen? ⟨ga,j*7+i,none⟩=false∧ga<w.heap.size:=by
 have hjl:=(qJ.1 hj).1
 rcases h.rows.access.2 with⟨_,hz⟩ | ⟨ga',cap',cur,hv',hb,hB,q1,q2,q3,q4⟩
 ·omega
 rw [hv] at hv'
 injection hv' with e1 _ e2
 injection e1 with e1
 injection e1 with e1
 subst e1 e2
 have hB:Blk w ga 139 cur:=hB
 exact⟨(hB.cell _).trans (Fx.of q4 j a i hj hi),hB.frozen _,hB.lt⟩
theorem Af.setaccN {j:Nat} {a:Acc} (h:Af B w g { C with access:=C.access.set j a } L ps cs) {ga cap:Nat} (hv:L.access = .slice (some ⟨ga,0,none⟩) C.access.length cap) (hjl:j<C.access.length) {i:Nat} (hi:i<7) {x:Value} {a':Acc} (hc:a.cells.setIfInBounds i x=a'.cells) :
  (Af B (w.setCell ⟨ga,j*7+i,none⟩ x) g { C with access:=C.access.set j a' } L ps cs∧Ah B w (w.setCell ⟨ga,j*7+i,none⟩ x))∧w.cell? ⟨ga,j*7+i,none⟩=a.cells[i]? ∧ w.frozen? ⟨ga,j*7+i,none⟩=false∧ga<w.heap.size:=by
 have hs:(C.access.set j a)[j]? = some a:=List.getElem?_set_self hjl
 have hv':L.access = .slice (some ⟨ga,0,none⟩) (C.access.set j a).length cap:=by rw [hv,List.length_set]
 have h1:=h.setacc1 hv' hs hi hc
 simp only [List.set_set] at h1
 exact⟨h1,Jy h hv' hs hi⟩
theorem Af.setaccI (h:Af B w g C L ps cs) {j:Nat} {a:Acc} (hj:C.access[j]? = some a):Af B w g { C with access:=C.access.set j a } L ps cs:=by
 have e:C.access.set j a=C.access:=by
  obtain⟨hl,rfl⟩:=qJ.1 hj
  exact List.set_getElem_self hl
 rw [e]
 exact h
end
section
variable {B:Nat} {w:World} {g p:Nat} {C:Core} {L:Lay} {ps:List Nat} {cs:Array Value}
theorem P0 (u:Uop) (c:Com):splice u.cells 16 c.cells.toList=Uop.cells { u with commit:=c }:=rfl
theorem Mb (c:Com):c.cells.size=11:=rfl
theorem Kc (c:Com):(Tryz.prog.info? 65).map (·.size)=some c.cells.size:=by rw [Mb];kernel_rfl
theorem Af.uopall (h:Af B w g C L ps cs) {i:Nat} (hp:ps[i]? = some p) {u u':Uop} (hu:Blk w p 107 u.cells) {w':World} (hg:w.grownBy w' (some p)) (hB':Blk w' p 107 u'.cells) :
  Af B w' g { C with ops:=C.ops.set i u' } L ps cs:=
 ⟨qD h.low hg.size,h.blk.grown hg (fun e=>by injection e with e;exact Bm hu h.blk (by decide) e.symm),h.cells.any_ops _,h.rows.uop h.low hp hg hB'⟩
theorem Z6 (pc:Int):Tryz.prog.built 65 [(0, .int .u32 pc),(1, .int .u32 pc),(2, .int .i64 2),(3, .int .i64 3)]=some (By pc 3).cells:=by kernel_rfl
theorem Qc (a b c d:Int):Tryz.prog.built 151 [(0, .int .u8 a),(1, .int .u8 b),(2, .int .u8 c),(3, .int .u8 d)]=some #[.int .u8 a, .int .u8 b, .int .u8 c, .int .u8 d]:=by kernel_rfl
theorem Ae6 (pc:Int):Tryz.prog.built 30 [(1, .int .u32 pc)]=some (Aq.cells ⟨List.replicate 32 0,pc,0,0⟩):=by kernel_rfl
theorem Ts {a b c d:Int}:(Tryz.prog.info? 151).map (·.size)=some (#[.int .u8 a, .int .u8 b, .int .u8 c, .int .u8 d]:Array Value).size:=by kernel_rfl
theorem Y8 {a b c d:Int}:(#[.int .u8 a, .int .u8 b, .int .u8 c, .int .u8 d]:Array Value).all (·.oneCell')=true:=by kernel_rfl
theorem Ll (i:Ins):(Tryz.prog.info? 53).map (·.size)=some i.cells.size:=by rw [show i.cells.size=5 from rfl];kernel_rfl
theorem Qt (i:Ins):i.cells.all (·.oneCell')=true:=by simp [Ins.cells,Value.oneCell']
theorem Dw {P:Program} {o:Oper} {a:Act} {w:World} {K:Act→World→Prop} {Q:Exit→Act→World→Prop} (t:TypeId) (parts:Array (Nat×Operand)) (ho:o.op = .build t parts) (vals:List (Nat×Value))
  (hv:(parts.map fun(i,x)=>(i,a.eval x)).toList=vals) (cs:Array Value) (hf:P.built t vals=some cs) (h:K (a.put o.dst (.agg cs)) w):o.wp P a w K Q:=
 wp_build t parts ho (by rw [hv,hf];rfl) (by rw [hv,hf];exact h)
end
section
variable {B:Nat} {w:World} {g p:Nat} {C:Core} {L:Lay} {ps:List Nat} {cs:Array Value} {u:Uop}
theorem Af.settab (h:Af B w g C L ps cs) {T:Array Value} (hT:T.size=64) {w':World} (hB:Blk w' g 86 (splice cs 44 T.toList)) (hg:w.grownBy w' (some g)):Af B w' g { C with table:=T } L ps (splice cs 44 T.toList):=by
 obtain⟨s1,s2,s3⟩:=N3 (off:=44) (n:=64) h.cells.size (by decide) hT
 exact⟨qD h.low hg.size,hB,h.cells.part_tab T s1 s2 s3,h.rows.core h.low h.blk hg⟩
theorem Xy (h:Af B w g C L ps cs) (hp:Blk w p 107 u.cells) (ht:E9 C.table) (h0:0≤u.pc∧u.pc≤4294967295) (hc:u.commit.Wf) :
  Calls Tryz.prog 60 #[.pointer (some ⟨g,0,none⟩), .pointer (some ⟨p,0,none⟩)] w fun e w'=>e = .returned (.tuple #[])∧w.grownBy w' (some g)∧∃ cs',Af B w' g (K7 C u) L ps cs':=by
 have c3:w.cell? ⟨p,3,none⟩=some (.int .u32 u.pc):=hp.cell 3
 have c5:w.cell? ⟨p,5,none⟩=some (.int .i64 u.ins.op):=hp.cell 5
 have c17:w.cell? ⟨p,17,none⟩=some (.int .u32 u.commit.next):=hp.cell 17
 have c21:w.cell? ⟨p,21,none⟩=some (.int .u32 u.commit.value):=hp.cell 21
 have zp:=hp.lt
 have hT:=h.cells.tabX ht.size
 have hsz:=h.cells.size
 have htl:=Aer ht h0 hc
 obtain⟨hw1,hca⟩:=ht.cnt_of u.pc
 obtain⟨hw2,hva⟩:=ht.vl_of u.pc
 have CB:=qA (fun t W=>Tj C.table (Nk C.table u.pc) u.pc u.commit.next t W h0.1 h0.2 hc.next.1 hc.next.2 ht hw1 hca)
 have CV:=qA (fun W=>U5 C.table (P1 C.table u.pc) u.pc u.commit.value W h0.1 h0.2 hc.value.1 hc.value.2 ht hw2 hva)
 have HT:=qA hT
 rw [Ol]
 unfold Agu at htl ⊢
 have hl:=D5 (i:=u.ins)
 clear hT ht hca hva hw1 hw2 h0 hc
 generalize Nk C.table u.pc=t at *
 generalize P1 C.table u.pc=v at *
 have LB:=qA (fun W=>Io u.ins W)
 have HP:=qA hp
 generalize hlB:Bp u.ins=lb at *
 generalize u.ins.op=op at *
 have HI:=qA h
 clear h hp
 by_cases q4:op=4
 ·subst q4
  rw [if_pos (Or.inl rfl)] at htl ⊢
  obtain⟨bb,hbb⟩:∃ bb,bb=decide (u.commit.next≠u32 (u.pc+4)):=⟨_,rfl⟩
  rw [←hbb] at htl ⊢
  have hne1:(u.commit.next != (u.pc+4)%4294967296)=bb:=by
   rw [hbb]
   unfold u32
   rw [Bool.eq_iff_iff]
   simp
  clear hbb
  obtain⟨T,hTT⟩:∃ T,T=Gm C.table t u.pc bb u.commit.next:=⟨_,rfl⟩
  rw [←hTT] at htl ⊢
  have HTT:=qA hTT.symm
  clear hTT
  have HI2:=HI
  have HG:=qA (Bc (qB w.heap.size w) (some g))
  go_enter Tryz.func60,Tryz.ntmps60
  go_upto_region 2 with(first
   |(refine Ai rfl 53 _ rfl p 5 rfl 107 u.cells 5 _ HP.out Tryz.underlying53 rfl Au (by rw [Uop.size];decide) ?_;rw [Uop.insX])
   |(go_at_call 65;(with_reducible refine(LB.out _).mono ?_);rintro e w2 ⟨rfl,hb0⟩))
  go_simp
  skip
  refine Ad 217964271 16916752 234881023 [0,1,2,3,4,5,6,7,8,9,10,11,12,13,14,15,16,17,18,19,20,21,22,23,24,25,26,27,28] (by kernel_rfl) (by kernel_rfl) (by kernel_rfl) rfl ?_
  repeat'(first
   |refine rZ ?_
   |(refine' oR _ (by decide) (by decide) (by decide) (fun wq hwq K hK=>?_) ?_ ?_;rotate_left 1;(· have k3:=hwq.at_ zp c3;have k17:=hwq.at_ zp c17;have k21:=hwq.at_ zp c21;first | ((refine Az 76 _ rfl g 44 rfl 86 cs 64 _ (HI.out.blk.ext hwq) Tryz.underlying76 rfl Hg (by omega) ?_;rw [HT.out];exact hK)) | (go_wp2_with(fail);all_goals exact hK));rfl)
   |fail)
  refine oS (fun w1 hw1 K1 hK1=>?_)
  have hb1:Below w.heap.size w w1:=by rw [hw1];exact(qB _ _).drew
  clear hw1
  go_wp2_with(go_at_call 93;(with_reducible refine(CB.out _ w1).mono ?_);rintro e w3 ⟨rfl,hb2⟩;(try rw [hne1]);(try rw [HTT.out]))
  refine hK1 _ _ (fun _=>True) trivial ?_
  simp only [Act.put,sA,sS,sZ]
  clear hK1 K1
  refine rO ?_
  refine oS (fun w4 hw4 K1 hK1=>?_)
  have hb4:Below w.heap.size w w4:=by rw [hw4];first | exact hb1.trans (hb2.mono hb1.size) | exact(hb1.trans (hb2.mono hb1.size)).drew
  clear hw4 hb1 hb2
  have h4:=HI2.out.ext hb4
  have B4:=h4.blk
  refine Ch 76 _ _ rfl g 44 T rfl rfl 86 cs B4 (by rw [htl.size];exact Hg) (by rw [htl.size];omega) htl.one ?_
  intro w5 hB5 hg5
  refine hK1 undef _ (fun _=>True) trivial ?_
  simp only [Act.put,sA,sS,sZ]
  clear hK1 K1
  refine Aj ?_
  rintro w6 rfl
  go_wp2_with(fail)
  refine bodyPost_end (results_none rfl _ _ _) rfl ?_
  exact⟨rfl,HG.out.trans ((Bc hb4 _).trans hg5),_,h4.settab htl.size hB5 hg5⟩
 ·have q4':(op==4)=false:=by simpa using q4
  by_cases q5:5≤op∧op≤10
  ·obtain⟨q5a,q5b⟩:=q5
   have e5:decide (5≤op)=true:=qF q5a
   have e6:decide (op≤10)=true:=qF q5b
   rw [if_pos (Or.inr ⟨q5a,q5b⟩)] at htl ⊢
   obtain⟨bb,hbb⟩:∃ bb,bb=decide (u.commit.next≠u32 (u.pc+4)):=⟨_,rfl⟩
   rw [←hbb] at htl ⊢
   have hne1:(u.commit.next != (u.pc+4)%4294967296)=bb:=by
    rw [hbb]
    unfold u32
    rw [Bool.eq_iff_iff]
    simp
   clear hbb
   obtain⟨T,hTT⟩:∃ T,T=Gm C.table t u.pc bb u.commit.next:=⟨_,rfl⟩
   rw [←hTT] at htl ⊢
   have HTT:=qA hTT.symm
   clear hTT
   have HI2:=HI
   have HG:=qA (Bc (qB w.heap.size w) (some g))
   go_enter Tryz.func60,Tryz.ntmps60
   go_upto_region 2 with(first
    |(refine Ai rfl 53 _ rfl p 5 rfl 107 u.cells 5 _ HP.out Tryz.underlying53 rfl Au (by rw [Uop.size];decide) ?_;rw [Uop.insX])
    |(go_at_call 65;(with_reducible refine(LB.out _).mono ?_);rintro e w2 ⟨rfl,hb0⟩))
   go_simp
   skip
   refine Ad 217964271 16916752 234881023 [0,1,2,3,4,5,6,7,8,9,10,11,12,13,14,15,16,17,18,19,20,21,22,23,24,25,26,27,28] (by kernel_rfl) (by kernel_rfl) (by kernel_rfl) rfl ?_
   repeat'(first
    |refine rZ ?_
    |(refine' oR _ (by decide) (by decide) (by decide) (fun wq hwq K hK=>?_) ?_ ?_;rotate_left 1;(· have k3:=hwq.at_ zp c3;have k17:=hwq.at_ zp c17;have k21:=hwq.at_ zp c21;first | ((refine Az 76 _ rfl g 44 rfl 86 cs 64 _ (HI.out.blk.ext hwq) Tryz.underlying76 rfl Hg (by omega) ?_;rw [HT.out];exact hK)) | (go_wp2_with(fail);all_goals exact hK));rfl)
    |fail)
   refine oS (fun w1 hw1 K1 hK1=>?_)
   have hb1:Below w.heap.size w w1:=by rw [hw1];exact(qB _ _).drew
   clear hw1
   go_wp2_with(go_at_call 93;(with_reducible refine(CB.out _ w1).mono ?_);rintro e w3 ⟨rfl,hb2⟩;(try rw [hne1]);(try rw [HTT.out]))
   refine hK1 _ _ (fun _=>True) trivial ?_
   simp only [Act.put,sA,sS,sZ]
   clear hK1 K1
   refine rO ?_
   refine oS (fun w4 hw4 K1 hK1=>?_)
   have hb4:Below w.heap.size w w4:=by rw [hw4];first | exact hb1.trans (hb2.mono hb1.size) | exact(hb1.trans (hb2.mono hb1.size)).drew
   clear hw4 hb1 hb2
   have h4:=HI2.out.ext hb4
   have B4:=h4.blk
   refine Ch 76 _ _ rfl g 44 T rfl rfl 86 cs B4 (by rw [htl.size];exact Hg) (by rw [htl.size];omega) htl.one ?_
   intro w5 hB5 hg5
   refine hK1 undef _ (fun _=>True) trivial ?_
   simp only [Act.put,sA,sS,sZ]
   clear hK1 K1
   refine Aj ?_
   rintro w6 rfl
   go_wp2_with(fail)
   refine bodyPost_end (results_none rfl _ _ _) rfl ?_
   exact⟨rfl,HG.out.trans ((Bc hb4 _).trans hg5),_,h4.settab htl.size hB5 hg5⟩
  ·rw [if_neg (by omega)] at htl ⊢
   have q5':op<5∨(5≤op∧10<op):=by omega
   clear q5
   by_cases ql:lb=true
   ·subst ql
    rw [if_pos rfl] at htl ⊢
    have q6:=hl.1 rfl
    have e5:decide (5≤op)=true:=qF (by omega)
    have e6:decide (op≤10)=false:=qG (by omega)
    obtain⟨T,hTT⟩:∃ T,T=Ek C.table v u.pc u.commit.value:=⟨_,rfl⟩
    rw [←hTT] at htl ⊢
    have HTT:=qA hTT.symm
    have hne1:=trivial
    clear hTT hl q6
    go_enter Tryz.func60,Tryz.ntmps60
    go_upto_region 4 with(first
     |(refine Ai rfl 53 _ rfl p 5 rfl 107 u.cells 5 _ HP.out Tryz.underlying53 rfl Au (by rw [Uop.size];decide) ?_;rw [Uop.insX])
     |(go_at_call 65;(with_reducible refine(LB.out _).mono ?_);rintro e w2 ⟨rfl,hb0⟩))
    go_simp
    (have HI2:=qA (HI.out.ext hb0);have HG:=qA (Bc hb0 (some g));replace c3:=(hb0.cell (p:=⟨p,3,none⟩) zp).trans c3;replace c17:=(hb0.cell (p:=⟨p,17,none⟩) zp).trans c17;replace c21:=(hb0.cell (p:=⟨p,21,none⟩) zp).trans c21;replace zp:=qE zp hb0.size;replace HI:=HI2)
    refine Ad 106223 8464 114687 [0,1,2,3,4,5,6,7,8,9,10,11,12,13,14,15,16,17] (by kernel_rfl) (by kernel_rfl) (by kernel_rfl) rfl ?_
    repeat'(first
     |refine rZ ?_
     |(refine' oR _ (by decide) (by decide) (by decide) (fun wq hwq K hK=>?_) ?_ ?_;rotate_left 1;(· have k3:=hwq.at_ zp c3;have k17:=hwq.at_ zp c17;have k21:=hwq.at_ zp c21;first | ((refine Az 76 _ rfl g 44 rfl 86 cs 64 _ (HI.out.blk.ext hwq) Tryz.underlying76 rfl Hg (by omega) ?_;rw [HT.out];exact hK)) | (go_wp2_with(fail);all_goals exact hK));rfl)
     |fail)
    refine oS (fun w1 hw1 K1 hK1=>?_)
    have hb1:Below w2.heap.size w2 w1:=by rw [hw1];exact(qB _ _).drew
    clear hw1
    go_wp2_with(go_at_call 94;(with_reducible refine(CV.out w1).mono ?_);rintro e w3 ⟨rfl,hb2⟩;(try rw [hne1]);(try rw [HTT.out]))
    refine hK1 _ _ (fun _=>True) trivial ?_
    simp only [Act.put,sA,sS,sZ]
    clear hK1 K1
    refine rO ?_
    refine oS (fun w4 hw4 K1 hK1=>?_)
    have hb4:Below w2.heap.size w2 w4:=by rw [hw4];first | exact hb1.trans (hb2.mono hb1.size) | exact(hb1.trans (hb2.mono hb1.size)).drew
    clear hw4 hb1 hb2
    have h4:=HI2.out.ext hb4
    have B4:=h4.blk
    refine Ch 76 _ _ rfl g 44 T rfl rfl 86 cs B4 (by rw [htl.size];exact Hg) (by rw [htl.size];omega) htl.one ?_
    intro w5 hB5 hg5
    refine hK1 undef _ (fun _=>True) trivial ?_
    simp only [Act.put,sA,sS,sZ]
    clear hK1 K1
    refine Aj ?_
    rintro w6 rfl
    go_wp2_with(fail)
    refine bodyPost_end (results_none rfl _ _ _) rfl ?_
    exact⟨rfl,HG.out.trans ((Bc hb4 _).trans hg5),_,h4.settab htl.size hB5 hg5⟩
   ·have ql:lb=false:=by simpa using ql
    subst ql
    rw [if_neg (by decide)] at htl ⊢
    rcases q5' with q5 | ⟨q5,q6⟩
    ·have e5:decide (5≤op)=false:=qG (by omega)
     clear hl
     go_enter Tryz.func60,Tryz.ntmps60
     go_wp2_with(first
      |(refine Ai rfl 53 _ rfl p 5 rfl 107 u.cells 5 _ HP.out Tryz.underlying53 rfl Au (by rw [Uop.size];decide) ?_;rw [Uop.insX])
      |(go_at_call 65;(with_reducible refine(LB.out _).mono ?_);rintro e w2 ⟨rfl,hb0⟩))
     refine bodyPost_end (results_none rfl _ _ _) rfl ?_
     exact⟨rfl,Bc hb0 _,cs,HI.out.ext hb0⟩
    ·have e5:decide (5≤op)=true:=qF q5
     have e6:decide (op≤10)=false:=qG (by omega)
     clear hl
     go_enter Tryz.func60,Tryz.ntmps60
     go_wp2_with(first
      |(refine Ai rfl 53 _ rfl p 5 rfl 107 u.cells 5 _ HP.out Tryz.underlying53 rfl Au (by rw [Uop.size];decide) ?_;rw [Uop.insX])
      |(go_at_call 65;(with_reducible refine(LB.out _).mono ?_);rintro e w2 ⟨rfl,hb0⟩))
     refine bodyPost_end (results_none rfl _ _ _) rfl ?_
     exact⟨rfl,Bc hb0 _,cs,HI.out.ext hb0⟩
end
end Go.Proofs.YtapgojgcmlnbgaaGreatDoor
