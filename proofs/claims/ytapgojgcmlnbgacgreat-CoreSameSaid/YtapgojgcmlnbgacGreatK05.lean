/- Parts of a proof. -/
import Derived.Test.YtapgojgcmlnbgacGreatK04
import Derived.Test.YtapgojgcmlnbgacGreatProg
import Derived.WalkKit
import Derived.Deep.LoopGhost
import Derived.Lib.Walk
import Derived.Sort.Row
import Derived.Lib.SlicesMore
import Derived.BigRegion
import Derived.RegionCalls
import Derived.Lib.OwnBridge
import Derived.Test.YtapgojgcmlnbgacGreatK00
import Derived.WalkLawsBesides
import Derived.Lib.Hide
import Derived.Test.YtapgojgcmlnbgacGreatK01
import Derived.OwnWalk
set_option linter.unusedSimpArgs false
set_option linter.unusedVariables false
set_option maxRecDepth 100000
set_option maxHeartbeats 16000000
namespace Go.Proofs.YtapgojgcmlnbgacGreat
open Go.RowKit
def Wn:Value→Nat
 |.slice _ n _=>n
 |_=>0
def Ahg (w:World) (l:List Slt) (most:Int) (e:Ending) (w':World):Prop:=
 Below w.heap.size w w'∧∃ v u,e = .returned (.tuple #[v,u])∧Fz w (l.drop (Dx l most)) v w'∧w'.ownsRow w.heap.size 3 1 u (Dx l most) (((l.take (Dx l most)).map (·.seq)).map (Value.int .i64))
theorem Ty:(Tryz.prog.info? 3).map (fun i=>(i.zero,i.size,i.bytes))=some (some (.int .i64 0),1,8):=by kernel_rfl
theorem Aew (l:List Slt) {k:Nat} (hk:k<l.length) (z:Int):Dx (l.drop k) z=if 0<z∧(l[k]'hk).done=true then 1+Dx (l.drop (k+1)) (z - 1) else 0:=by
 rw [List.drop_eq_getElem_cons hk]
 rfl
theorem Cr.tail {w:World} {B b o:Nat} {s:Slt} {l:List Slt} (h:Cr w B (some ⟨b,o,none⟩) (s::l)):Cr w B (some ⟨b,o+2,none⟩) l:=fun _=>by
 obtain⟨b',o',he,hb,hc⟩:=h (by simp)
 injection he with he
 injection he with h1 h2
 subst h1 h2
 refine⟨b,o+2,rfl,hb,fun j u hj=>?_⟩
 have e:A8 (s::l) = .int .i64 s.seq :: .bool s.done::A8 l:=rfl
 have:=hc (j+1+1) u (by rw [e];simpa using hj)
 rw [show o+2+j=o+(j+1+1) by omega]
 exact this
theorem _root_.Go.World.ownsRow.keptBelow {w w':World} {base:Nat} {e:TypeId} {size:Nat} {v:Value} {n:Nat} {xs:List Value} (h:w.ownsRow base e size v n xs) (hb:Below w.heap.size w w') (_hk:∀ j,v.ownBlock=some j→j<w.heap.size):w'.ownsRow base e size v n xs:=
 ⟨h.1,h.2.imp id fun⟨g,cap,cur,hv,l,hh,r⟩=>⟨g,cap,cur,hv,l,by
  have hg:g<w.heap.size:=(Array.getElem?_eq_some_iff.1 hh).1
  rw [←hh]
  exact hb.block g hg,r⟩⟩
theorem Aif (A:Option Addr) (cap:Nat) (l:List Slt) (most:Int) (w:World) (hl:l.length*16≤140737488351232) (hcap:l.length≤cap) (hcm:cap≤9223372036854775807) (hA:Cr w w.heap.size A l) (hnil:A=none→l=[]∧cap=0) :
  Calls Tryz.prog 31 #[.slice A l.length cap, .int .i64 most] w (Ahg w l most):=by
 obtain⟨N,hN⟩:∃ N,N=l.length:=⟨_,rfl⟩
 have HN:=Lib.hid hN
 rw [←hN] at hl hcap ⊢
 have H0:Hid (Cr w w.heap.size A (l.drop 0)∧(A=none→N - 0=0∧cap=0)∧Dx l most=0+Dx (l.drop 0) (most - (0:Nat))):=Lib.hid ⟨by simpa using hA,fun e=>⟨by rw [hN,(hnil e).1];rfl,(hnil e).2⟩,by simp⟩
 clear hA hnil hN
 obtain⟨i0,hi,hz0,hz1,hz2⟩:=info_parts Ty
 go_enter Tryz.func31,Tryz.ntmps31
 go_upto_region 2 with(fail)
 go_loopw [0,6] (fun v0 v6 wr=>∃ (k:Nat) (A':Option Addr) (c':Nat) (AI:Option Addr) (cI:Nat),v0 = .slice A' (N - k) c'∧v6 = .slice AI k cI∧k≤N∧N - k≤c'∧c'≤9223372036854775807∧Below w.heap.size w wr∧wr.ownsRow w.heap.size 3 1 (.slice AI k cI) k (((l.take k).map (·.seq)).map (Value.int .i64))∧Hid (Cr w w.heap.size A' (l.drop k)∧(A'=none→N - k=0∧c'=0)∧Dx l most=k+Dx (l.drop k) (most - k))) (fun v0 _ _=>N+1+Wn v0)
 case atStart=>exact⟨0,A,cap,none,0,rfl,rfl,Nat.zero_le _,hcap,hcm,Below.refl _ _,by simpa using World.ownsRow_nil _ _ _ _,H0⟩
 case round=>
  clear H0
  obtain⟨k,A',c',AI,cI,rfl,rfl,hk,hkc,hcm',hb,hI,Hrel⟩:=hrel
  obtain⟨hS,hn,hp⟩:=Hrel.out
  clear Hrel
  by_cases hlt:k<N∧(k:Int)<most
  ·have hk':k<l.length:=by rw [←HN.out];exact hlt.1
   have hk0:0<(l.drop k).length:=by rw [List.length_drop];omega
   obtain⟨b,o,hAe,hgB,c0,c1⟩:=hS.at_ hk0
   have hq:=Aew l hk' (most - k)
   have hge:(l.drop k)[0]'hk0=l[k]'hk':=by simp
   rw [hge] at c0 c1
   have htk:(l.take (k+1)).map (·.seq)=(l.take k).map (·.seq)++[(l[k]'hk').seq]:=by rw [List.take_succ_eq_append_getElem hk',List.map_append];rfl
   generalize l[k]'hk'=s at *
   obtain⟨sq,dn⟩:=s
   dsimp only at c0 c1 hq htk
   have e1:decide ((k:Int)<most)=true:=decide_eq_true hlt.2
   have e2:decide (0<N - k)=true:=decide_eq_true (by omega)
   have z1:b<wr.heap.size:=Nat.lt_of_lt_of_le hgB hb.size
   have d0:wr.cell? ⟨b,o,none⟩=some (.int .i64 sq):=(hb.cell (p:=⟨b,o,none⟩) hgB).trans (by simpa using c0)
   have d1:wr.cell? ⟨b,o+1,none⟩=some (.bool dn):=(hb.cell (p:=⟨b,o+1,none⟩) hgB).trans (by simpa using c1)
   clear c0 c1 hge
   subst hAe
   cases dn with
   |true=>
    have HQ:Hid (Dx l most=(k+1)+Dx (l.drop (k+1)) (most - ((k+1:Nat):Int))):=Lib.hid (by
     rw [hp,hq,if_pos ⟨by omega,rfl⟩,show most - (k:Int) - 1=most - ((k+1:Nat):Int) by omega]
     omega)
    have HS:=Lib.hid hS
    have HT:=Lib.hid htk
    have hk1:k<N:=hlt.1
    clear hp hq hS htk hn hlt
    go_upto_region 4 with(at_builtin;refine E7 rfl (.tmp 22) (.tmp 27) 29 rfl w.heap.size 3 i0 _ 1 8 Tryz.underlying29 hi hz0 hz1 hz2 rfl (by decide) (.slice AI k cI) k _ rfl (hI.alloc _) (some ⟨wr.heap.size,0,none⟩) 1 1 [.int .i64 sq] rfl rfl (fun h=>by cases h) (Sl wr _ _) (by simp;rfl) (by unfold maxLen;omega) (by omega) (by have:=hb.size;simp;omega) ?_;intro v7 w7 hown7 hg7)
    try go_simp
    have b1:1≤N - k:=by omega
    have b2:decide ((N - k:Nat)<1)=false:=decide_eq_false (by omega)
    obtain⟨A7,c7,rfl⟩:=Bb hown7
    have hb7:Below w.heap.size w w7:=(hb.alloc hb.size _).grown hg7 (by have:=hb.size;simp;omega) (fun j hj=>(hI.lt j hj).1)
    have hown8:w7.ownsRow w.heap.size 3 1 (.slice A7 (k+1) c7) (k+1) (((l.take (k+1)).map (·.seq)).map (Value.int .i64)):=by
     rw [HT.out,List.map_append]
     exact hown7
    have hS2:Cr w w.heap.size (if c'=1 then some ⟨b,o,none⟩ else some ⟨b,o+2,none⟩) (l.drop (k+1)):=by
     by_cases h1:c'=1
     ·have:l.drop (k+1)=[]:=List.drop_eq_nil_of_le (by rw [←HN.out];omega)
      rw [this]
      exact fun h=>absurd rfl h
     ·rw [if_neg h1]
      have:=HS.out
      rw [List.drop_eq_getElem_cons hk'] at this
      exact this.tail
    have HF:=Lib.hid (And.intro hS2 (And.intro (show(if c'=1 then some (⟨b,o,none⟩:Addr) else some ⟨b,o+2,none⟩)=none→N - (k+1)=0∧c' - 1=0 from fun e=>by split at e<;>cases e) HQ.out))
    clear hS2 HS hg7 hown7 hI
    have hNk:N - (k+1)=N - k - 1:=by omega
    go_wp2
    go_roundw
    case rel=>exact⟨k+1,_,c' - 1,A7,c7,by rw [hNk],rfl,by omega,by omega,by omega,hb7,hown8,HF.out.imp id id |> Lib.hid⟩
    case measure=>simp [Wn];omega
   |false=>
    have hp0:Dx l most=k:=by rw [hp,hq,if_neg (by simp)];omega
    have b1:0<N - k:=by have:=hlt.1;omega
    clear hq htk hlt
    have HP:=Lib.hid hp0
    have hSl:(A8 (l.drop k)).length=(N - k)*2:=by rw [Gj,List.length_drop,←HN.out]
    have CL:=Lib.hid (fun W (hW:Cr W W.heap.size (some ⟨b,o,none⟩) (l.drop k))=>Gd (some ⟨b,o,none⟩) (N - k) c' (A8 (l.drop k)) W (by omega) hSl (Ea _) hW.cells (fun e=>(hn e).1))
    have hSr:=(hS.below hb).mono hb.size
    clear hp0 hp hS hn hSl
    go_wp2_with(go_at_call 64;(with_reducible refine(CL.out _ hSr).mono ?_);rintro e w5 ⟨v5,rfl,hown5,hb5⟩)
    go_ret2
    refine⟨hb.trans (hb5.mono hb.size),v5, .slice AI k cI,rfl,?_,?_⟩
    ·unfold Fz
     rw [HP.out,List.length_drop,←HN.out]
     exact Qc hown5 hb.size
    ·rw [HP.out]
     have hk2:∀ j,(Value.slice AI k cI).ownBlock=some j→j<wr.heap.size:=fun j hj=>(hI.lt j hj).2
     exact hI.keptBelow hb5 hk2
  ·by_cases hm:(k:Int)<most
   ·have hkN:k=N:=by omega
    have hp0:Dx l most=k:=by
     rw [hp,List.drop_eq_nil_of_le (by rw [←HN.out];omega)]
     rfl
    have e1:decide ((k:Int)<most)=true:=decide_eq_true hm
    have e2:decide (0<N - k)=false:=decide_eq_false (by omega)
    clear hlt hm hkN
    have HP:=Lib.hid hp0
    have hSl:(A8 (l.drop k)).length=(N - k)*2:=by rw [Gj,List.length_drop,←HN.out]
    have CL:=Lib.hid (fun W (hW:Cr W W.heap.size A' (l.drop k))=>Gd A' (N - k) c' (A8 (l.drop k)) W (by omega) hSl (Ea _) hW.cells (fun e=>(hn e).1))
    have hSr:=(hS.below hb).mono hb.size
    clear hp0 hp hS hn hSl
    go_wp2_with(go_at_call 64;(with_reducible refine(CL.out _ hSr).mono ?_);rintro e w5 ⟨v5,rfl,hown5,hb5⟩)
    go_ret2
    refine⟨hb.trans (hb5.mono hb.size),v5, .slice AI k cI,rfl,?_,?_⟩
    ·unfold Fz
     rw [HP.out,List.length_drop,←HN.out]
     exact Qc hown5 hb.size
    ·rw [HP.out]
     have hk2:∀ j,(Value.slice AI k cI).ownBlock=some j→j<wr.heap.size:=fun j hj=>(hI.lt j hj).2
     exact hI.keptBelow hb5 hk2
   ·have hp0:Dx l most=k:=by rw [hp,Agw _ (by omega)];omega
    have e1:decide ((k:Int)<most)=false:=decide_eq_false hm
    clear hlt hm
    have HP:=Lib.hid hp0
    have hSl:(A8 (l.drop k)).length=(N - k)*2:=by rw [Gj,List.length_drop,←HN.out]
    have CL:=Lib.hid (fun W (hW:Cr W W.heap.size A' (l.drop k))=>Gd A' (N - k) c' (A8 (l.drop k)) W (by omega) hSl (Ea _) hW.cells (fun e=>(hn e).1))
    have hSr:=(hS.below hb).mono hb.size
    clear hp0 hp hS hn hSl
    go_wp2_with(go_at_call 64;(with_reducible refine(CL.out _ hSr).mono ?_);rintro e w5 ⟨v5,rfl,hown5,hb5⟩)
    go_ret2
    refine⟨hb.trans (hb5.mono hb.size),v5, .slice AI k cI,rfl,?_,?_⟩
    ·unfold Fz
     rw [HP.out,List.length_drop,←HN.out]
     exact Qc hown5 hb.size
    ·rw [HP.out]
     have hk2:∀ j,(Value.slice AI k cI).ownBlock=some j→j<wr.heap.size:=fun j hj=>(hI.lt j hj).2
     exact hI.keptBelow hb5 hk2
def Ahf (w:World) (l:List Slt) (seq:Int) (e:Ending) (w':World):Prop:=
 Below w.heap.size w w'∧∃ v u,e = .returned (.tuple #[v,u])∧Fz w (Mx l seq) v w'∧w'.ownsRow w.heap.size 3 1 u (Lc l seq).length ((Lc l seq).map (Value.int .i64))
theorem Adr (l:List Slt) (seq:Int) {k:Nat} (hk:k<l.length):Mx (l.take (k+1)) seq=if (l[k]'hk).seq<seq then Mx (l.take k) seq++[l[k]'hk] else Mx (l.take k) seq:=by
 unfold Mx
 rw [List.take_succ_eq_append_getElem hk,List.filter_append]
 by_cases h:(l[k]'hk).seq<seq
 ·rw [if_pos h];simp [h]
 ·rw [if_neg h];simp [h]
theorem Ah1 (w:World) (sq:Int) (dn:Bool) (t:TypeId):∀ ad,some (⟨w.heap.size,0,none⟩:Addr)=some ad→∀ j v,(A8 [⟨sq,dn⟩])[j]? = some v→(w.alloc (.cells #[.int .i64 sq, .bool dn] t)).cell? (ad.add j)=some v:=by
 intro ad h j v hj
 cases h
 rw [Addr.add_lit,Nat.zero_add,World.cell?_alloc_new]
 have e:A8 [⟨sq,dn⟩]=[.int .i64 sq, .bool dn]:=rfl
 rw [e] at hj
 simpa using hj
theorem E4 {w:World} {b1 b2:Nat} {e1 e2:TypeId} {s1 s2:Nat} {v1 v2:Value} {n1 n2:Nat} {x1 x2:List Value} (h1:w.ownsRow b1 e1 s1 v1 n1 x1) (h2:w.ownsRow b2 e2 s2 v2 n2 x2) (he:e1≠e2):v1.ownBlock=none∨v1.ownBlock≠v2.ownBlock:=by
 rcases h1.2 with⟨rfl,_⟩ | ⟨g1,c1,cur1,rfl,_,hh1,_⟩
 ·exact Or.inl rfl
 ·rcases h2.2 with⟨rfl,_⟩ | ⟨g2,c2,cur2,rfl,_,hh2,_⟩
  ·right;intro h;cases h
  ·right
   intro h
   have hg:g1=g2:=by simpa [Value.ownBlock] using h
   subst hg
   rw [hh1] at hh2
   injection hh2 with hh2
   injection hh2 with _ hh2
   exact he hh2
theorem Pb:132≠3:=by decide
end Go.Proofs.YtapgojgcmlnbgacGreat
namespace Go.Proofs.YtapgojgcmlnbgacGreat
open Go.RowKit Go.Sort Go.Lib
theorem swapped {w wr:World} {n blk off:Nat} {dk:Array Int} {i j:Nat} (hi:i<dk.size) (hj:j<dk.size) (hwr:wr=putRow (Value.int .i64) (Sort.ahead w n) blk off dk)
  {x y:Value} (hx:x=Value.int .i64 dk[j]!) (hy:y=Value.int .i64 dk[i]!):((wr.setCell ⟨blk,off+i,none⟩ x).setCell ⟨blk,off+j,none⟩ y).drew=putRow (Value.int .i64) (Sort.ahead w (n+1)) blk off (swp dk i j):=by
 subst hwr;subst hx;subst hy
 rw [putRow_swp (Value.int .i64) _ blk off dk i j hi hj,←ahead_drew]
 rfl
theorem Zy (blk off cap:Nat) (d:Array Int) (w:World) (hH:Holds (Value.int .i64) w blk off d) (hsz:d.size≤9223372036854775807) :
  Calls Tryz.prog 103 #[.slice (some ⟨blk,off,none⟩) d.size cap] w fun e w'=>e = .returned (.tuple #[])∧∃ n,w'=putRow (Value.int .i64) (Sort.ahead w n) blk off d.reverse:=by
 go_enter Tryz.func103,Tryz.ntmps103
 go_wp2
 go_loopg [2,3] d.size (fun k s2 s3 wr=>∃ (i jn:Nat) (jz:Int) (dk:Array Int) (n:Nat),s2 = .int .i64 i∧s3 = .int .i64 jz∧((i:Int)<jz→jz=jn∧jn<d.size)∧(¬ (i:Int)<jz→¬ i<jn)∧jn - i≤k ∧
  dk.size=d.size∧wr=putRow (Value.int .i64) (Sort.ahead w n) blk off dk∧reverseLoop i jn dk=reverseLoop 0 (d.size - 1) d)
 case atStart=>exact⟨0,d.size - 1,(d.size:Int) - 1,d,0,rfl,rfl,fun h=>⟨by omega,by omega⟩,fun h=>by omega,by omega,rfl,(putRow_self (Value.int .i64) w blk off d hH).symm,rfl⟩
 case round=>
  obtain⟨i,jn,jz,dk,n,rfl,rfl,h1,h2,hk,hds,hwr,heq⟩:=hrel
  by_cases hlt:(i:Int)<jz
  ·obtain⟨rfl,hjn⟩:=h1 hlt
   have hij:i<jn:=by omega
   have hHk:Holds (Value.int .i64) wr blk off dk:=by rw [hwr];exact holds_putRow (Value.int .i64) _ blk off d dk (holds_ahead (Value.int .i64) w n blk off d hH) hds
   obtain⟨ci,fi⟩:=hHk i (by omega)
   obtain⟨cj,fj⟩:=hHk jn (by omega)
   have A:Aside (wr=putRow (Value.int .i64) (Sort.ahead w n) blk off dk):=hwr
   clear hwr hHk hH h1 h2
   go_wp2_with fail
   go_region
   go_wp2
   go_roundg (jn - 1 - (i+1))
   case measure=>omega
   case rel=>
    rw [reverseLoop,if_pos hij] at heq
    exact⟨i+1,jn - 1,(jn:Int) - 1,swp dk i jn,n+1,by simp,rfl,fun h=>⟨by omega,by omega⟩,fun h=>by omega,Nat.le_refl _,by rw [size_swp];exact hds,
     swapped (by omega) (by omega) A.out (by first | rfl | simp [getElem!_pos,show jn<dk.size by omega]) (by first | rfl | simp [getElem!_pos,show i<dk.size by omega]),heq⟩
  ·have hnot:=h2 hlt
   go_wp2
   go_end0
   refine⟨rfl,n,?_⟩
   rw [reverseLoop,if_neg hnot] at heq
   rw [←Lib.reverseLoop_reverse,←heq]
theorem Zx (blk off cap:Nat) (zs:List Int) (w:World) (hH:Holds (Value.int .i64) w blk off zs.toArray) (hsz:zs.length≤9223372036854775807) :
  Calls Tryz.prog 103 #[.slice (some ⟨blk,off,none⟩) zs.length cap] w fun e w'=>e = .returned (.tuple #[])∧∃ n,w'=putRow (Value.int .i64) (Sort.ahead w n) blk off zs.reverse.toArray:=by
 have h:=Zy blk off cap zs.toArray w hH (by simpa using hsz)
 simpa using h
theorem Xh (a:Option Addr) (cap:Nat) (w:World) :
  Calls Tryz.prog 103 #[.slice a 0 cap] w fun e w'=>e = .returned (.tuple #[])∧w'=w:=by
 go_enter Tryz.func103,Tryz.ntmps103
 go_wp2
 go_loopg [2,3] 0 (fun _ s2 s3 wr=>s2 = .int .i64 0∧s3 = .int .i64 (-1)∧wr=w)
 case atStart=>exact⟨rfl,rfl,rfl⟩
 case round=>
  obtain⟨rfl,rfl,rfl⟩:=hrel
  go_wp2
  go_end0
  exact⟨rfl,rfl⟩
end Go.Proofs.YtapgojgcmlnbgacGreat
namespace Go.Proofs.YtapgojgcmlnbgacGreat
open Go.RowKit
def Rs (l:List Slt) (seq:Int) (k:Nat):List Int:=((l.take k).filter fun s=>decide (seq≤s.seq)).map (·.seq)
theorem Aba (l:List Slt) (seq:Int) {k:Nat} (hk:k<l.length):Rs l seq (k+1)=if (l[k]'hk).seq<seq then Rs l seq k else Rs l seq k++[(l[k]'hk).seq]:=by
 unfold Rs
 rw [List.take_succ_eq_append_getElem hk,List.filter_append,List.map_append]
 by_cases h:(l[k]'hk).seq<seq
 ·rw [if_pos h];simp [h]
 ·rw [if_neg h];simp [show seq≤(l[k]'hk).seq by omega]
theorem Aee (l:List Slt) (seq:Int):(Rs l seq l.length).reverse=Lc l seq:=by
 unfold Rs Lc
 rw [List.take_length]
theorem Zz {w:World} {base:Nat} {v:Value} {n:Nat} {zs:List Int} (h:w.ownsRow base 3 1 v n (zs.map (Value.int .i64))) (hn:n≤9223372036854775807) :
  Calls Tryz.prog 103 #[v] w fun e w'=>e = .returned (.tuple #[])∧w'.ownsRow base 3 1 v n (zs.reverse.map (Value.int .i64))∧w.grownBy w' v.ownBlock:=by
 by_cases hv:v = .slice none 0 0
 ·subst hv
  have h0:n=0:=by
   rcases h.2 with⟨_,h0⟩ | ⟨g,c,cur,e,_⟩
   ·exact h0
   ·cases e
  subst h0
  have hz:zs=[]:=List.eq_nil_of_length_eq_zero (by simpa using h.1)
  subst hz
  refine(Xh none 0 w).mono ?_
  rintro e w' ⟨rfl,rfl⟩
  exact⟨rfl,World.ownsRow_nil _ _ _ _,⟨rfl,rfl,rfl,Nat.le_refl _,fun _ _ _=>rfl⟩⟩
 ·obtain⟨g,cap,rfl,hbg,_,_,_,hlen,hH⟩:=Lib.holds_of_ownsRow h hv
  have hrev:=Zx g 0 cap zs w hH (by omega)
  rw [hlen] at hrev
  refine hrev.mono ?_
  rintro e w' ⟨rfl,q,rfl⟩
  have hy:zs.reverse.length=n:=by simpa using hlen
  have h1:=Lib.ownsRow_putRow (q:=q) (ys:=zs.reverse) h hy (Nat.le_refl n)
  rw [List.take_of_length_le (Nat.le_of_eq hy)] at h1
  refine⟨rfl,h1,⟨rfl,rfl,rfl,by simp [Sort.putRow,Sort.mapBlock,Sort.ahead],fun k _ hk=>?_⟩⟩
  have hgk:g≠k:=fun e=>hk (by subst e;rfl)
  simp [Sort.putRow,Sort.mapBlock,Sort.ahead,Array.getElem?_modify,hgk]
theorem Acv (A:Option Addr) (cap:Nat) (l:List Slt) (seq:Int) (w:World) (hl:l.length*16≤140737488351232) (hA:Cr w w.heap.size A l) :
  Calls Tryz.prog 79 #[.slice A l.length cap, .int .i64 seq] w (Ahf w l seq):=by
 obtain⟨N,hN⟩:∃ N,N=l.length:=⟨_,rfl⟩
 have HN:=Lib.hid hN
 rw [←hN] at hl ⊢
 have HA:=Lib.hid hA
 clear hA hN
 obtain⟨i0,hi,hz0,hz1,hz2⟩:=info_parts Ty
 obtain⟨j0,hj,hy0,hy1,hy2⟩:=info_parts Gv
 go_enter Tryz.func79,Tryz.ntmps79
 go_upto_region 4 with(fail)
 go_loopw [6,7,12] (fun v6 v7 v8 wr=>∃ (k nl no:Nat) (xl xo:List Value) (AL:Option Addr) (cL:Nat) (AO:Option Addr) (cO:Nat),v6 = .slice AL nl cL∧v7 = .slice AO no cO∧v8 = .int .i64 k∧k≤N∧nl≤k∧no≤k∧Below w.heap.size w wr∧wr.ownsRow w.heap.size 132 2 (.slice AL nl cL) nl xl∧wr.ownsRow w.heap.size 3 1 (.slice AO no cO) no xo∧Hid (xl=A8 (Mx (l.take k) seq))∧Hid (xo=(Rs l seq k).map (Value.int .i64))) (fun _ _ v8 _=>N+1 - (intOf v8).toNat)
 case atStart=>exact⟨0,0,0,[],[],none,0,none,0,rfl,rfl,rfl,Nat.zero_le _,Nat.le_refl _,Nat.le_refl _,Below.refl _ _,World.ownsRow_nil _ _ _ _,World.ownsRow_nil _ _ _ _,Lib.hid rfl,Lib.hid rfl⟩
 case round=>
  obtain⟨k,nl,no,xl,xo,AL,cL,AO,cO,rfl,rfl,rfl,hk,hnl,hno,hb,hL,hO,Hxl,Hxo⟩:=hrel
  by_cases hlt:k<N
  ·have hk':k<l.length:=by rw [←HN.out];exact hlt
   obtain⟨b,o,hAe,hgB,c0,c1⟩:=(HA.out.below hb).at_ hk'
   have hcl:=Adr l seq hk'
   have hgk:=Aba l seq hk'
   generalize l[k]'hk'=s at *
   obtain⟨sq,dn⟩:=s
   dsimp only at c0 c1 hcl hgk
   subst hAe
   clear hk'
   go_upto_region 6 with(fail)
   try go_simp
   refine Au fun wa hq=>?_
   have hB:Blk wa wr.heap.size 132 #[.int .i64 sq, .bool dn]:=by rw [hq];exact Blk.new wr _ _
   have hbl:Below wr.heap.size wr wa:=by rw [hq];exact(Below.refl _ _).alloc (Nat.le_refl _) _
   clear hq c0 c1
   have hLa:=hL.keptBelow hbl (fun j hj=>(hL.lt j hj).2)
   have hOa:=hO.keptBelow hbl (fun j hj=>(hO.lt j hj).2)
   have hba:Below w.heap.size w wa:=hb.trans (hbl.mono hb.size)
   have c0:wa.cell? ⟨wr.heap.size,0,none⟩=some (.int .i64 sq):=hB.cell 0
   have c1:wa.cell? ⟨wr.heap.size,1,none⟩=some (.bool dn):=hB.cell 1
   clear hB hbl hL hO
   by_cases h1:sq<seq
   ·rw [if_pos h1] at hcl hgk
    have e1:decide (sq<seq)=true:=decide_eq_true h1
    have HL1:=Lib.hid hcl
    have HO1:=Lib.hid hgk
    clear hcl hgk h1
    go_wp2_with(at_builtin;refine E7 rfl (.tmp 20) (.tmp 22) 58 rfl w.heap.size 132 j0 _ 2 16 Tryz.underlying58 hj hy0 hy1 hy2 rfl (by decide) (.slice AL nl cL) nl xl rfl (hLa.alloc _) (some ⟨wa.heap.size,0,none⟩) 1 1 (A8 [⟨sq,dn⟩]) rfl rfl (fun h=>by cases h) (Ah1 wa sq dn _) (Ea _) (by unfold maxLen;omega) (by omega) (by have:=hba.size;simp;omega) ?_;intro v6' w6 hL6 hg6;obtain⟨AL6,cL6,rfl⟩:=Bb hL6)
    have hb6:Below w.heap.size w w6:=(hba.alloc hba.size _).grown hg6 (by have:=hba.size;simp;omega) (fun j hj=>(hLa.lt j hj).1)
    have hO6:=(hOa.alloc _).kept hg6 (E4 hOa hLa Pb.symm)
    go_roundw
    case rel=>exact⟨k+1,nl+1,no,xl++A8 [⟨sq,dn⟩],xo,AL6,cL6,AO,cO,rfl,rfl,by go_num,by omega,by omega,by omega,hb6,hL6,hO6,Lib.hid (by rw [HL1.out,Hxl.out,Ol]),Lib.hid (by rw [HO1.out,Hxo.out])⟩
    case measure=>simp [intOf];omega
   ·rw [if_neg h1] at hcl hgk
    have e1:decide (sq<seq)=false:=decide_eq_false h1
    have HL1:=Lib.hid hcl
    have HO1:=Lib.hid hgk
    clear hcl hgk h1
    go_wp2_with(at_builtin;refine E7 rfl (.tmp 24) (.tmp 27) 29 rfl w.heap.size 3 i0 _ 1 8 Tryz.underlying29 hi hz0 hz1 hz2 rfl (by decide) (.slice AO no cO) no xo rfl (hOa.alloc _) (some ⟨wa.heap.size,0,none⟩) 1 1 [.int .i64 sq] rfl rfl (fun h=>by cases h) (Sl wa _ _) (by simp;rfl) (by unfold maxLen;omega) (by omega) (by have:=hba.size;simp;omega) ?_;intro v7' w7 hO7 hg7;obtain⟨AO7,cO7,rfl⟩:=Bb hO7)
    have hb7:Below w.heap.size w w7:=(hba.alloc hba.size _).grown hg7 (by have:=hba.size;simp;omega) (fun j hj=>(hOa.lt j hj).1)
    have hL7:=(hLa.alloc _).kept hg7 (E4 hLa hOa Pb)
    go_roundw
    case rel=>exact⟨k+1,nl,no+1,xl,xo++[.int .i64 sq],AL,cL,AO7,cO7,rfl,rfl,by go_num,by omega,by omega,by omega,hb7,hL7,hO7,Lib.hid (by rw [HL1.out,Hxl.out]),Lib.hid (by rw [HO1.out,Hxo.out,List.map_append];rfl)⟩
    case measure=>simp [intOf];omega
  ·obtain rfl:k=N:=by omega
   have e1:¬ k<k:=by omega
   have Q1:Hid (xl=A8 (Mx l seq)):=Lib.hid (by rw [Hxl.out,HN.out,List.take_length])
   have hO2:wr.ownsRow w.heap.size 3 1 (.slice AO no cO) no ((Rs l seq k).map (Value.int .i64)):=by rw [←Hxo.out];exact hO
   have hrev:=Zz hO2 (by omega)
   clear Hxl Hxo
   go_wp2_with(with_reducible refine hrev.mono ?_;rintro e w2 ⟨rfl,hO9,hg9⟩;have hL9:=hL.kept hg9 (E4 hL hO Pb);have hb9:=hb.grown hg9 hb.size (fun j hj=>(hO.lt j hj).1);clear hg9)
   rw [HN.out,Aee] at hO9
   go_ret2
   refine⟨hb9, .slice AL nl cL, .slice AO no cO,rfl,?_,?_⟩
   ·unfold Fz
    have hn:nl=(Mx l seq).length:=by have:=hL9.1;rw [Q1.out,Gj] at this;omega
    rw [←hn,←Q1.out]
    exact hL9
   ·have hn:no=(Lc l seq).length:=by have:=hO9.1;rw [List.length_map] at this;omega
    rw [←hn]
    exact hO9
theorem Zl (a:Acc) (w:World):Calls Tryz.prog 116 #[.agg #[.int .i64 a.seq, .bool a.store, .bool a.known, .int .u32 a.at_, .int .i64 a.many, .int .u32 a.data, .bool a.done]] w fun e w'=>e = .returned (.int .u64 (Gy a.many))∧Below w.heap.size w w':=by
 have hb:=(Below.refl w.heap.size w).alloc (Nat.le_refl _) (.cells a.cells 101)
 by_cases h1:a.many<0
 ·have e:Gy a.many=0:=by unfold Gy;omega
  rw [e]
  go_enter Tryz.func116,Tryz.ntmps116
  go_wp2
  go_ret
  exact⟨by first | rfl | exact congrArg (fun z:Int=>Ending.returned (.int .u64 z)) (show min (max a.many 0) 4=0 by omega),hb⟩
 ·by_cases h2:4<a.many
  ·have e:Gy a.many=4:=by unfold Gy;omega
   rw [e]
   go_enter Tryz.func116,Tryz.ntmps116
   go_wp2
   go_ret
   exact⟨by first | rfl | exact congrArg (fun z:Int=>Ending.returned (.int .u64 z)) (show min (max a.many 0) 4=4 by omega),hb⟩
  ·have e:Gy a.many=a.many:=by unfold Gy;omega
   rw [e]
   go_enter Tryz.func116,Tryz.ntmps116
   go_wp2
   go_ret
   exact⟨by first | rfl | exact congrArg (fun z:Int=>Ending.returned (.int .u64 z)) (show min (max a.many 0) 4=a.many by omega),hb⟩
theorem Jp (a:Acc) (p:Int) (w:World) (h0:0≤a.at_) (h1:a.at_≤4294967295) (_h2:0≤p) (_h3:p≤18446744073709551615) :
  Calls Tryz.prog 108 #[.agg #[.int .i64 a.seq, .bool a.store, .bool a.known, .int .u32 a.at_, .int .i64 a.many, .int .u32 a.data, .bool a.done], .int .u64 p] w fun e w'=>e = .returned (.bool (hasB a p))∧Below w.heap.size w w':=by
 have l1:=Zk a.many
 have l2:=P9 a.many
 have hb:=(Below.refl w.heap.size w).alloc (Nat.le_refl _) (.cells a.cells 101)
 generalize hx:hasB a p=x
 have Hx:=Lib.hid hx
 clear hx
 go_enter Tryz.func108,Tryz.ntmps108
 go_wp2_with fail
 refine As (by kernel_rfl) (by kernel_rfl) ?_
 repeat'(first
  |refine Br rfl ?_
  |(refine' Bg _ (fun wq hwq K hK=>?_) ?_ ?_;rotate_left 1;(· obtain⟨hcq,hfq⟩:=Jc hwq;go_wp2_with(go_at_call 116;refine(Zl a _).mono ?_;rintro e w' ⟨rfl,hb⟩;exact hK _ (hwq.trans (hb.mono hwq.size)));all_goals exact hK _ hwq);rfl)
  |((first | refine Bi rfl rfl rfl ?_ ?_ | refine Bh rfl rfl rfl ?_ ?_)<;>intro hc<;>first | (cases hc;done) | ((try cases hc);simp only [Act.put,sA,sS,sZ]))
  |refine Bj rfl rfl rfl ?_)
 all_goals
  refine Ch ?_
  intro w1 hw1
  go_wp2
  go_ret
  refine⟨?_,hb.trans (hw1.mono (by simp))⟩
  rw [←Hx.out]
  simp [hasB, *]
theorem Qb (s a:Acc) (w:World) (hs:s.Wf) (ha:a.Wf) :
  Calls Tryz.prog 106 #[.agg #[.int .i64 s.seq, .bool s.store, .bool s.known, .int .u32 s.at_, .int .i64 s.many, .int .u32 s.data, .bool s.done], .agg #[.int .i64 a.seq, .bool a.store, .bool a.known, .int .u32 a.at_, .int .i64 a.many, .int .u32 a.data, .bool a.done]] w
   fun e w'=>e = .returned (.bool (Qa s a))∧Below w.heap.size w w':=by
 have l1:=Zk s.many
 have l2:=P9 s.many
 have sa0:=hs.at0
 have sa1:=hs.at1
 have aa0:=ha.at0
 have aa1:=ha.at1
 generalize hx:Qa s a=x
 have Hx:=Lib.hid hx
 clear hx
 go_enter Tryz.func106,Tryz.ntmps106
 go_wp2_with(go_at_call 116;refine(Zl s _).mono ?_;rintro e w1 ⟨rfl,hb⟩)
 have hbw:=((((Below.refl w.heap.size w).alloc (Nat.le_refl _) (.cells s.cells 101)).alloc (by simp) (.cells a.cells 101))).trans (hb.mono (by simp;omega))
 have hs1:∀ i,w1.cell? ⟨w.heap.size,i,none⟩=s.cells[i]? := fun i=>by
  rw [hb.cell (by simp;omega),World.cell?_alloc_lt _ _ _ (by simp)]
  exact World.cell?_alloc_new w _ _ i
 have ha1:∀ i,w1.cell? ⟨w.heap.size+1,i,none⟩=a.cells[i]? := fun i=>by
  rw [hb.cell (by simp)]
  have:=World.cell?_alloc_new (w.alloc (.cells s.cells 101)) a.cells 101 i
  rwa [World.size_alloc] at this
 have hz:=hb.size
 simp only [World.size_alloc] at hz
 clear hb
 go_loopw [9] (fun v wr=>∃ k:Nat,v = .int .u64 k∧(k:Int)≤Gy s.many∧Below (w.heap.size+2) w1 wr∧Hid (Fi s a (4 - k)=x)) (fun v _=>4 - (intOf v).toNat)
 case atStart=>exact⟨0,rfl,l1,Below.refl _ _,Hx⟩
 case round=>
  obtain⟨k,rfl,hk,hbr,HR⟩:=hrel
  obtain⟨hc,hf⟩:=Jc hbr
  have hzr:=hbr.size
  by_cases hlt:(k:Int)<Gy s.many
  ·have hst:=Vd s a k (by omega)
   have HS:=Lib.hid hst
   clear hst
   rcases h1:hasB s (s.at_+k) with _ | _
   ·go_wp2_with(go_at_call 108;refine(Jp s _ _ sa0 sa1 (by omega) (by omega)).mono ?_;rintro e w2 ⟨rfl,hb2⟩;rw [h1])
    go_roundw
    case rel=>exact⟨k+1,by go_num,by omega,hbr.trans (hb2.mono (by omega)),by rw [←HR.out,HS.out,h1];rfl⟩
    case measure=>simp [intOf];omega
   ·rcases h2:hasB a (s.at_+k) with _ | _
    ·go_wp2_with(first
      |(go_at_call 108;((with_reducible refine(Jp s _ _ sa0 sa1 (by omega) (by omega)).mono ?_);rintro e w2 ⟨rfl,hb2⟩;rw [h1];have ha2:∀ i,w2.cell? ⟨w.heap.size+1,i,none⟩=a.cells[i]? := fun i=>by rw [hb2.cell (by simp;omega),hc _ _ (by omega),ha1]))
      |(go_at_call 108;((with_reducible refine(Jp a _ _ aa0 aa1 (by omega) (by omega)).mono ?_);rintro e w3 ⟨rfl,hb3⟩;rw [h2])))
     go_roundw
     case rel=>exact⟨k+1,by go_num,by omega,(hbr.trans (hb2.mono (by omega))).trans (hb3.mono (by have:=hb2.size;omega)),by rw [←HR.out,HS.out,h1,h2];rfl⟩
     case measure=>simp [intOf];omega
    ·go_wp2_with(first
      |(go_at_call 108;((with_reducible refine(Jp s _ _ sa0 sa1 (by omega) (by omega)).mono ?_);rintro e w2 ⟨rfl,hb2⟩;rw [h1];have ha2:∀ i,w2.cell? ⟨w.heap.size+1,i,none⟩=a.cells[i]? := fun i=>by rw [hb2.cell (by simp;omega),hc _ _ (by omega),ha1]))
      |(go_at_call 108;((with_reducible refine(Jp a _ _ aa0 aa1 (by omega) (by omega)).mono ?_);rintro e w3 ⟨rfl,hb3⟩;rw [h2])))
     go_ret
     have e:x=true:=by rw [←HR.out,HS.out,h1,h2];rfl
     rw [e]
     exact⟨rfl,((hbw.trans (hbr.mono (by omega))).trans (hb2.mono (by omega))).trans (hb3.mono (by have:=hb2.size;omega))⟩
  ·go_wp2_with fail
   go_ret
   have e:x=false:=by rw [←HR.out,Xa s a k (by omega)]
   rw [e]
   exact⟨rfl,hbw.trans (hbr.mono (by omega))⟩
def Qt:Option Acc→Acc
 |some a=>a
 |none=>⟨0,false,false,0,0,0,false⟩
theorem Ov (A:Option Addr) (cap:Nat) (l:List Acc) (A':Option Addr) (cap':Nat) (m:List Int) (seq p:Int) (w:World) (hl:l.length≤9223372036854775807) (_hl':m.length≤9223372036854775807)
  (hwf:∀ a∈l,a.Wf) (hA:Eh w w.heap.size A l) (hA':Aq w w.heap.size .u8 A' m) (h0:0≤p) (h1:p≤4294967295) (hp:p<m.length) :
  Calls Tryz.prog 89 #[.slice A l.length cap, .slice A' m.length cap', .int .i64 seq, .int .u32 p] w
   fun e w'=>e = .returned (.int .u8 (Dj l m seq p))∧Below w.heap.size w w':=by
 obtain⟨bA,oA,rfl,hbA,hcA⟩:=hA'.at_ (n:=p.toNat) (by omega)
 have cP:=hcA p.toNat (by omega)
 clear hcA hA'
 generalize hx:Dj l m seq p=x
 have HB:Hid (byteOf m p (l.foldl (Cx seq p) none)=x):=Lib.hid hx
 clear hx
 go_enter Tryz.func89,Tryz.ntmps89
 go_wp2_with fail
 refine Au ?_
 intro W1 hW1
 have hbk:Blk W1 w.heap.size 101 (Acc.cells (Qt none)):=by rw [hW1];exact Blk.new _ _ _
 have hb1:Below w.heap.size w W1:=by rw [hW1];exact(Below.refl _ _).alloc (Nat.le_refl _) _
 clear hW1
 go_loopw [10,16] (fun v10 v16 wr=>∃ (k:Nat) (best:Option Acc),v10 = .bool best.isSome∧v16 = .int .i64 k∧k≤l.length∧Blk wr w.heap.size 101 (Acc.cells (Qt best))∧Below w.heap.size w wr∧Hid (byteOf m p ((l.drop k).foldl (Cx seq p) best)=x)∧(∀ c,best=some c→hasB c p=true∧c.Wf)) (fun _ v _=>l.length - (intOf v).toNat)
 case atStart=>exact⟨0,none,rfl,rfl,by omega,hbk,hb1,HB,fun c h=>by cases h⟩
 case round=>
  obtain⟨k,best,rfl,rfl,hk,hbk,hbr,HR,hbest⟩:=hrel
  have hgb:=hbk.lt
  have hcg:=hbk.cell
  have hfg:=hbk.frozen
  by_cases hlt:k<l.length
  ·obtain⟨b,o,a,rfl,hbB,ha,hd,hmem,hcs⟩:=(hA.below hbr).at_ hlt
   have hwa:=hwf a hmem
   have HR':Hid (byteOf m p ((l.drop (k+1)).foldl (Cx seq p) (Cx seq p best a))=x):=by
    have h:=HR.out
    rw [hd,List.foldl_cons] at h
    exact h
   clear hd ha HR
   obtain⟨d0,d1,d2,d3,d4,d5,d6⟩:=hcs
   by_cases hgo:(a.store&&a.known&&decide (a.seq<seq)&&hasB a p&&Lh a best)=true
   ·have HR2:Hid (byteOf m p ((l.drop (k+1)).foldl (Cx seq p) (some a))=x):=by
     have h:=HR'.out
     rw [show Cx seq p best a=some a by unfold Cx;rw [if_pos hgo]] at h
     exact h
    clear HR'
    simp only [Bool.and_eq_true] at hgo
    obtain⟨⟨⟨⟨g1,g2⟩,g3⟩,g4⟩,g5⟩:=hgo
    have w0:=hwa.at0
    have w1':=hwa.at1
    obtain⟨aq,ast,akn,aat,amn,adt,adn⟩:=a
    dsimp only at d0 d1 d2 d3 d4 d5 d6 g1 g2 g3 w0 w1'
    subst g1 g2
    rcases best with _ | c
    ·clear g5 hcg hfg
     go_wp2_with(go_at_call 108;((with_reducible refine(Jp ⟨aq,true,true,aat,amn,adt,adn⟩ p _ w0 w1' h0 (by omega)).mono ?_);rintro e w2 ⟨rfl,hb2⟩;rw [g4];have hn2:=((Blk.new wr _ _).ext hb2).cell;have hg2:=((hbk.alloc _).ext hb2).frozen;have hgc2:=((hbk.alloc _).ext hb2).cell;simp only [Acc.cells,Qt] at hgc2))
     go_roundw
     case rel=>exact⟨k+1,some ⟨aq,true,true,aat,amn,adt,adn⟩,rfl,by go_num,by omega,(((((((((hbk.alloc _).ext hb2).set 0 _).set 1 _).set 2 _).set 3 _).set 4 _).set 5 _).set 6 _),((((((((hbr.alloc hbr.size _).trans (hb2.mono (by simp;omega))).setCell (Nat.le_refl _) _).setCell (Nat.le_refl _) _).setCell (Nat.le_refl _) _).setCell (Nat.le_refl _) _).setCell (Nat.le_refl _) _).setCell (Nat.le_refl _) _).setCell (Nat.le_refl _) _,HR2,fun c hc=>by injection hc with hc;subst hc;exact⟨g4,hwa⟩⟩
     case measure=>simp [intOf];omega
    ·obtain⟨cq,cst,ckn,cat,cmn,cdt,cdn⟩:=c
     have g5':decide (cq≤aq)=true:=g5
     clear g5 hcg hfg
     go_wp2_with(go_at_call 108;((with_reducible refine(Jp ⟨aq,true,true,aat,amn,adt,adn⟩ p _ w0 w1' h0 (by omega)).mono ?_);rintro e w2 ⟨rfl,hb2⟩;rw [g4];have hn2:=((Blk.new wr _ _).ext hb2).cell;have hg2:=((hbk.alloc _).ext hb2).frozen;have hgc2:=((hbk.alloc _).ext hb2).cell;simp only [Acc.cells,Qt] at hgc2))
     go_roundw
     case rel=>exact⟨k+1,some ⟨aq,true,true,aat,amn,adt,adn⟩,rfl,by go_num,by omega,(((((((((hbk.alloc _).ext hb2).set 0 _).set 1 _).set 2 _).set 3 _).set 4 _).set 5 _).set 6 _),((((((((hbr.alloc hbr.size _).trans (hb2.mono (by simp;omega))).setCell (Nat.le_refl _) _).setCell (Nat.le_refl _) _).setCell (Nat.le_refl _) _).setCell (Nat.le_refl _) _).setCell (Nat.le_refl _) _).setCell (Nat.le_refl _) _).setCell (Nat.le_refl _) _,HR2,fun c hc=>by injection hc with hc;subst hc;exact⟨g4,hwa⟩⟩
     case measure=>simp [intOf];omega
   ·have HR2:Hid (byteOf m p ((l.drop (k+1)).foldl (Cx seq p) best)=x):=by
     have h:=HR'.out
     rw [show Cx seq p best a=best by unfold Cx;rw [if_neg hgo]] at h
     exact h
    clear HR'
    have w0:=hwa.at0
    have w1':=hwa.at1
    clear hwa hcg hfg
    obtain⟨aq,ast,akn,aat,amn,adt,adn⟩:=a
    dsimp only at d0 d1 d2 d3 d4 d5 d6 hgo w0 w1'
    rcases ast with _ | _
    ·clear hgo
     go_wp2_with fail
     go_roundw
     case rel=>exact⟨k+1,best,rfl,by go_num,by omega,hbk.alloc _,hbr.alloc hbr.size _,HR2,hbest⟩
     case measure=>simp [intOf];omega
    rcases akn with _ | _
    ·clear hgo
     go_wp2_with fail
     go_roundw
     case rel=>exact⟨k+1,best,rfl,by go_num,by omega,hbk.alloc _,hbr.alloc hbr.size _,HR2,hbest⟩
     case measure=>simp [intOf];omega
    rcases g3:decide (aq<seq) with _ | _
    ·clear hgo
     go_wp2_with fail
     go_roundw
     case rel=>exact⟨k+1,best,rfl,by go_num,by omega,hbk.alloc _,hbr.alloc hbr.size _,HR2,hbest⟩
     case measure=>simp [intOf];omega
    rcases g4:hasB ⟨aq,true,true,aat,amn,adt,adn⟩ p with _ | _
    ·clear hgo
     go_wp2_with(go_at_call 108;((with_reducible refine(Jp ⟨aq,true,true,aat,amn,adt,adn⟩ p _ w0 w1' h0 (by omega)).mono ?_);rintro e w2 ⟨rfl,hb2⟩;rw [g4]))
     go_roundw
     case rel=>exact⟨k+1,best,rfl,by go_num,by omega,(hbk.alloc _).ext hb2,(hbr.alloc hbr.size _).trans (hb2.mono (by simp;omega)),HR2,hbest⟩
     case measure=>simp [intOf];omega
    rcases best with _ | c
    ·simp [g3,g4,Lh] at hgo
    ·obtain⟨cq,cst,ckn,cat,cmn,cdt,cdn⟩:=c
     have g5':decide (cq≤aq)=false:=by
      simp only [g3,g4,Lh,Bool.and_true,Bool.true_and,Bool.not_eq_true] at hgo
      exact hgo
     clear hgo
     go_wp2_with(go_at_call 108;((with_reducible refine(Jp ⟨aq,true,true,aat,amn,adt,adn⟩ p _ w0 w1' h0 (by omega)).mono ?_);rintro e w2 ⟨rfl,hb2⟩;rw [g4];have hn2:=((Blk.new wr _ _).ext hb2).cell;have hg2:=((hbk.alloc _).ext hb2).frozen;have hgc2:=((hbk.alloc _).ext hb2).cell;simp only [Acc.cells,Qt] at hgc2))
     go_roundw
     case rel=>exact⟨k+1,some ⟨cq,cst,ckn,cat,cmn,cdt,cdn⟩,rfl,by go_num,by omega,(hbk.alloc _).ext hb2,(hbr.alloc hbr.size _).trans (hb2.mono (by simp;omega)),HR2,hbest⟩
     case measure=>simp [intOf];omega
  ·obtain rfl:k=l.length:=by omega
   have HR':Hid (byteOf m p best=x):=by
    have h:=HR.out
    rw [List.drop_length] at h
    exact h
   clear HR
   rcases best with _ | c
   ·have cP':=(hbr.cell (p:=⟨bA,oA+p.toNat,none⟩) hbA).trans cP
    clear cP
    have hy:=HR'.out
    rw [show byteOf m p none=m.getD p.toNat 0 from rfl] at hy
    rw [hy] at cP'
    clear hy HR'
    go_wp2_with fail
    go_ret
    exact⟨rfl,hbr⟩
   ·obtain⟨hc1,hc2⟩:=hbest c rfl
    have d0:=hc2.data0
    have d1:=hc2.data1
    have e0:=hc2.at0
    have e1:=hc2.at1
    have l2:=P9 c.many
    unfold hasB at hc1
    simp only [Bool.and_eq_true,decide_eq_true_eq] at hc1
    obtain⟨⟨hc3,hc4⟩,_⟩:=hc1
    obtain⟨cq,cst,ckn,cat,cmn,cdt,cdn⟩:=c
    simp only [Acc.cells,Qt] at hcg
    dsimp only at d0 d1 e0 e1 l2 hc3 hc4
    go_wp2_with fail
    go_ret
    refine⟨?_,hbr⟩
    rw [←HR'.out]
    refine Ca ?_
    show _=cdt / ((2 ^ (8*(p - cat).toNat):Nat):Int)%256
    rw [show(8*(p - cat)).toNat=8*(p - cat).toNat by omega,Int.natCast_pow]
    rfl
theorem Pd (seq:Int) (s:Bool) (a:Acc) (l:List Acc):(a::l).foldl (Fy seq) s=l.foldl (Fy seq) (s&&(!a.store || decide (seq≤a.seq) || a.known)):=rfl
theorem Sr (A:Option Addr) (cap:Nat) (l:List Acc) (A':Option Addr) (cap':Nat) (m:List Int) (seq p many:Int) (w:World) (hl:l.length≤9223372036854775807) (hl':m.length≤9223372036854775807)
  (hwf:∀ a∈l,a.Wf) (hm:Bytes m) (hA:Eh w w.heap.size A l) (hA':Aq w w.heap.size .u8 A' m) (h0:0≤p) (h1:p≤4294967295) :
  Calls Tryz.prog 50 #[.slice A l.length cap, .slice A' m.length cap', .int .i64 seq, .int .u32 p, .int .i64 many] w
   fun e w'=>e = .returned (.tuple #[.int .u32 (Ee l m seq p many).1, .bool (Ee l m seq p many).2.1, .bool (Ee l m seq p many).2.2])∧Below w.heap.size w w':=by
 have hbb:=Below.refl w.heap.size w
 rcases hok:Gu m p many with _ | _
 ·have e:Ee l m seq p many=(0,false,false):=by unfold Ee;rw [if_neg (by rw [hok];exact Bool.false_ne_true)]
  rw [e]
  clear e
  by_cases e1:many=1
  ·subst e1
   have hth:Bv m.length p 1=false:=by
    simpa [Gu] using hok
   clear hok
   go_enter Tryz.func50,Tryz.ntmps50
   go_wp2_with(go_at_call 75;refine(Du _ _ _ _ 1 _ (by omega) (by omega) (by omega) (by omega) (by omega)).mono ?_;rintro e w1 ⟨rfl,rfl⟩;rw [hth])
   go_ret3
   exact⟨rfl,hbb⟩
  by_cases e2:many=2
  ·subst e2
   have hth:Bv m.length p 2=false:=by
    simpa [Gu] using hok
   clear hok
   go_enter Tryz.func50,Tryz.ntmps50
   go_wp2_with(go_at_call 75;refine(Du _ _ _ _ 2 _ (by omega) (by omega) (by omega) (by omega) (by omega)).mono ?_;rintro e w1 ⟨rfl,rfl⟩;rw [hth])
   go_ret3
   exact⟨rfl,hbb⟩
  by_cases e4:many=4
  ·subst e4
   have hth:Bv m.length p 4=false:=by
    simpa [Gu] using hok
   clear hok
   go_enter Tryz.func50,Tryz.ntmps50
   go_wp2_with(go_at_call 75;refine(Du _ _ _ _ 4 _ (by omega) (by omega) (by omega) (by omega) (by omega)).mono ?_;rintro e w1 ⟨rfl,rfl⟩;rw [hth])
   go_ret3
   exact⟨rfl,hbb⟩
  ·clear hok
   go_enter Tryz.func50,Tryz.ntmps50
   go_wp2_with fail
   go_ret3
   exact⟨rfl,hbb⟩
 ·have hmany:many=1∨many=2∨many=4:=by
   have:=hok
   simp only [Gu,Bool.and_eq_true,Bool.or_eq_true,decide_eq_true_eq] at this
   omega
  obtain rfl | rfl | rfl:=hmany
  ·
   have hth:Bv m.length p 1=true:=by
    simp only [Gu,Bool.and_eq_true] at hok
    exact hok.2
   have hth2:=hth
   unfold Bv at hth2
   simp only [Bool.and_eq_true,decide_eq_true_eq] at hth2
   obtain⟨⟨_,t1⟩,t2⟩:=hth2
   have e:Ee l m seq p 1=(O7 l m seq p 1,true,Ur l seq):=by unfold Ee;rw [if_pos hok]
   rw [e]
   have hL:O7 l m seq p 1=Dj l m seq p:=by unfold O7;simp
   rw [hL]
   clear e hL hok
   (obtain⟨p0,q0⟩:=Fq hwf hm seq p;generalize hx0:Dj l m seq p=x0 at p0 q0 ⊢;have HX0:=Lib.hid hx0;clear hx0)
   generalize hS:Ur l seq=S
   have HS:Hid (l.foldl (Fy seq) true=S):=Lib.hid hS
   clear hS
   go_enter Tryz.func50,Tryz.ntmps50
   go_wp2_with(go_at_call 75;refine(Du _ _ _ _ 1 _ (by omega) (by omega) (by omega) (by omega) (by omega)).mono ?_;rintro e w1 ⟨rfl,rfl⟩;rw [hth])
   refine wp_loop_rounds 2 ?_
   repeat any_goals (rw [rounds_succ];go_wp2_with(go_at_call 89;refine(Ov A cap l A' cap' m seq _ _ hl hl' hwf ((hA.below hbb).mono hbb.size) ((hA'.below hbb).mono hbb.size) (by omega) (by omega) (by omega)).mono ?_;rintro e w2 ⟨rfl,hb2⟩;have hbb:=hbb.trans (hb2.mono hbb.size);rw [HX0.out]))
   go_loopw [15,57] (fun v15 v57 wr=>∃ (k:Nat) (s:Bool),v15 = .bool s∧v57 = .int .i64 k∧k≤l.length∧Below w.heap.size w wr∧Hid ((l.drop k).foldl (Fy seq) s=S)) (fun _ v _=>l.length - (intOf v).toNat)
   case atStart=>exact⟨0,true,rfl,rfl,by omega,hbb,HS⟩
   case round=>
    obtain⟨k,s,rfl,rfl,hk,hbr,HR⟩:=hrel
    by_cases hlt:k<l.length
    ·obtain⟨b,o,a,rfl,hbB,ha,hd,hmem,hcs⟩:=(hA.below hbr).at_ hlt
     have HR2:Hid ((l.drop (k+1)).foldl (Fy seq) (s&&(!a.store || decide (seq≤a.seq) || a.known))=S):=by
      have h:=HR.out
      rw [hd,Pd] at h
      exact h
     clear hd ha HR hmem
     obtain⟨d0,d1,d2,d3,d4,d5,d6⟩:=hcs
     obtain⟨aq,ast,akn,aat,amn,adt,adn⟩:=a
     dsimp only at d0 d1 d2 d3 d4 d5 d6 HR2
     rcases hq:decide (seq≤aq) with _ | _<;>rw [hq] at HR2<;>rcases s with _ | _<;>rcases ast with _ | _<;>rcases akn with _ | _
     all_goals
      go_wp2_with fail
      go_roundw
      case rel=>exact⟨k+1,_,rfl,by go_num,by omega,hbr.alloc hbr.size _,HR2⟩
      case measure=>simp [intOf];omega
    ·obtain rfl:k=l.length:=by omega
     have hs:s=S:=by
      have h:=HR.out
      rw [List.drop_length] at h
      exact h
     subst hs
     clear HR HS
     go_wp2_with fail
     go_ret3
     refine⟨?_,hbr⟩
     show Ending.returned (.tuple #[.int .u32 _, .bool true, .bool _])=_
     rw [or0 x0 p0 q0]
  ·
   have hth:Bv m.length p 2=true:=by
    simp only [Gu,Bool.and_eq_true] at hok
    exact hok.2
   have hth2:=hth
   unfold Bv at hth2
   simp only [Bool.and_eq_true,decide_eq_true_eq] at hth2
   obtain⟨⟨_,t1⟩,t2⟩:=hth2
   have e:Ee l m seq p 2=(O7 l m seq p 2,true,Ur l seq):=by unfold Ee;rw [if_pos hok]
   rw [e]
   have hL:O7 l m seq p 2=Dj l m seq p+256*Dj l m seq (p+1):=by unfold O7;simp
   rw [hL]
   clear e hL hok
   (obtain⟨p0,q0⟩:=Fq hwf hm seq p;generalize hx0:Dj l m seq p=x0 at p0 q0 ⊢;have HX0:=Lib.hid hx0;clear hx0;obtain⟨p1,q1⟩:=Fq hwf hm seq (p+1);generalize hx1:Dj l m seq (p+1)=x1 at p1 q1 ⊢;have HX1:=Lib.hid hx1;clear hx1)
   generalize hS:Ur l seq=S
   have HS:Hid (l.foldl (Fy seq) true=S):=Lib.hid hS
   clear hS
   go_enter Tryz.func50,Tryz.ntmps50
   go_wp2_with(go_at_call 75;refine(Du _ _ _ _ 2 _ (by omega) (by omega) (by omega) (by omega) (by omega)).mono ?_;rintro e w1 ⟨rfl,rfl⟩;rw [hth])
   refine wp_loop_rounds 3 ?_
   repeat any_goals (rw [rounds_succ];go_wp2_with(go_at_call 89;refine(Ov A cap l A' cap' m seq _ _ hl hl' hwf ((hA.below hbb).mono hbb.size) ((hA'.below hbb).mono hbb.size) (by omega) (by omega) (by omega)).mono ?_;rintro e w2 ⟨rfl,hb2⟩;have hbb:=hbb.trans (hb2.mono hbb.size);(first | rw [HX0.out] | rw [HX1.out])))
   go_loopw [15,57] (fun v15 v57 wr=>∃ (k:Nat) (s:Bool),v15 = .bool s∧v57 = .int .i64 k∧k≤l.length∧Below w.heap.size w wr∧Hid ((l.drop k).foldl (Fy seq) s=S)) (fun _ v _=>l.length - (intOf v).toNat)
   case atStart=>exact⟨0,true,rfl,rfl,by omega,hbb,HS⟩
   case round=>
    obtain⟨k,s,rfl,rfl,hk,hbr,HR⟩:=hrel
    by_cases hlt:k<l.length
    ·obtain⟨b,o,a,rfl,hbB,ha,hd,hmem,hcs⟩:=(hA.below hbr).at_ hlt
     have HR2:Hid ((l.drop (k+1)).foldl (Fy seq) (s&&(!a.store || decide (seq≤a.seq) || a.known))=S):=by
      have h:=HR.out
      rw [hd,Pd] at h
      exact h
     clear hd ha HR hmem
     obtain⟨d0,d1,d2,d3,d4,d5,d6⟩:=hcs
     obtain⟨aq,ast,akn,aat,amn,adt,adn⟩:=a
     dsimp only at d0 d1 d2 d3 d4 d5 d6 HR2
     rcases hq:decide (seq≤aq) with _ | _<;>rw [hq] at HR2<;>rcases s with _ | _<;>rcases ast with _ | _<;>rcases akn with _ | _
     all_goals
      go_wp2_with fail
      go_roundw
      case rel=>exact⟨k+1,_,rfl,by go_num,by omega,hbr.alloc hbr.size _,HR2⟩
      case measure=>simp [intOf];omega
    ·obtain rfl:k=l.length:=by omega
     have hs:s=S:=by
      have h:=HR.out
      rw [List.drop_length] at h
      exact h
     subst hs
     clear HR HS
     go_wp2_with fail
     go_ret3
     refine⟨?_,hbr⟩
     show Ending.returned (.tuple #[.int .u32 _, .bool true, .bool _])=_
     rw [or0 x0 p0 q0,or8 x0 x1 p0 (by omega) p1 q1]
  ·
   have hth:Bv m.length p 4=true:=by
    simp only [Gu,Bool.and_eq_true] at hok
    exact hok.2
   have hth2:=hth
   unfold Bv at hth2
   simp only [Bool.and_eq_true,decide_eq_true_eq] at hth2
   obtain⟨⟨_,t1⟩,t2⟩:=hth2
   have e:Ee l m seq p 4=(O7 l m seq p 4,true,Ur l seq):=by unfold Ee;rw [if_pos hok]
   rw [e]
   have hL:O7 l m seq p 4=Dj l m seq p+256*Dj l m seq (p+1)+65536*Dj l m seq (p+2)+16777216*Dj l m seq (p+3):=by unfold O7;simp
   rw [hL]
   clear e hL hok
   (obtain⟨p0,q0⟩:=Fq hwf hm seq p;generalize hx0:Dj l m seq p=x0 at p0 q0 ⊢;have HX0:=Lib.hid hx0;clear hx0;obtain⟨p1,q1⟩:=Fq hwf hm seq (p+1);generalize hx1:Dj l m seq (p+1)=x1 at p1 q1 ⊢;have HX1:=Lib.hid hx1;clear hx1;obtain⟨p2,q2⟩:=Fq hwf hm seq (p+2);generalize hx2:Dj l m seq (p+2)=x2 at p2 q2 ⊢;have HX2:=Lib.hid hx2;clear hx2;obtain⟨p3,q3⟩:=Fq hwf hm seq (p+3);generalize hx3:Dj l m seq (p+3)=x3 at p3 q3 ⊢;have HX3:=Lib.hid hx3;clear hx3)
   generalize hS:Ur l seq=S
   have HS:Hid (l.foldl (Fy seq) true=S):=Lib.hid hS
   clear hS
   go_enter Tryz.func50,Tryz.ntmps50
   go_wp2_with(go_at_call 75;refine(Du _ _ _ _ 4 _ (by omega) (by omega) (by omega) (by omega) (by omega)).mono ?_;rintro e w1 ⟨rfl,rfl⟩;rw [hth])
   refine wp_loop_rounds 5 ?_
   repeat any_goals (rw [rounds_succ];go_wp2_with(go_at_call 89;refine(Ov A cap l A' cap' m seq _ _ hl hl' hwf ((hA.below hbb).mono hbb.size) ((hA'.below hbb).mono hbb.size) (by omega) (by omega) (by omega)).mono ?_;rintro e w2 ⟨rfl,hb2⟩;have hbb:=hbb.trans (hb2.mono hbb.size);(first | rw [HX0.out] | rw [HX1.out] | rw [HX2.out] | rw [HX3.out])))
   go_loopw [15,57] (fun v15 v57 wr=>∃ (k:Nat) (s:Bool),v15 = .bool s∧v57 = .int .i64 k∧k≤l.length∧Below w.heap.size w wr∧Hid ((l.drop k).foldl (Fy seq) s=S)) (fun _ v _=>l.length - (intOf v).toNat)
   case atStart=>exact⟨0,true,rfl,rfl,by omega,hbb,HS⟩
   case round=>
    obtain⟨k,s,rfl,rfl,hk,hbr,HR⟩:=hrel
    by_cases hlt:k<l.length
    ·obtain⟨b,o,a,rfl,hbB,ha,hd,hmem,hcs⟩:=(hA.below hbr).at_ hlt
     have HR2:Hid ((l.drop (k+1)).foldl (Fy seq) (s&&(!a.store || decide (seq≤a.seq) || a.known))=S):=by
      have h:=HR.out
      rw [hd,Pd] at h
      exact h
     clear hd ha HR hmem
     obtain⟨d0,d1,d2,d3,d4,d5,d6⟩:=hcs
     obtain⟨aq,ast,akn,aat,amn,adt,adn⟩:=a
     dsimp only at d0 d1 d2 d3 d4 d5 d6 HR2
     rcases hq:decide (seq≤aq) with _ | _<;>rw [hq] at HR2<;>rcases s with _ | _<;>rcases ast with _ | _<;>rcases akn with _ | _
     all_goals
      go_wp2_with fail
      go_roundw
      case rel=>exact⟨k+1,_,rfl,by go_num,by omega,hbr.alloc hbr.size _,HR2⟩
      case measure=>simp [intOf];omega
    ·obtain rfl:k=l.length:=by omega
     have hs:s=S:=by
      have h:=HR.out
      rw [List.drop_length] at h
      exact h
     subst hs
     clear HR HS
     go_wp2_with fail
     go_ret3
     refine⟨?_,hbr⟩
     show Ending.returned (.tuple #[.int .u32 _, .bool true, .bool _])=_
     rw [or0 x0 p0 q0,or8 x0 x1 p0 (by omega) p1 q1,Akv _ x2 (by omega) (by omega) p2 q2,Akw _ x3 (by omega) (by omega) p3 q3]
def Dq (l:List Acc):List Value:=l.flatMap fun a=>a.cells.toList
theorem Jn (a:Acc):a.cells.toList.length=7:=rfl
theorem Jt:∀ l:List Acc,(Dq l).length=l.length*7
 |[]=>rfl
 |c::l=>by
  have ih:=Jt l
  unfold Dq at ih ⊢
  rw [List.flatMap_cons,List.length_append,ih,Jn,List.length_cons]
  omega
theorem Jo (l k:List Acc):Dq (l++k)=Dq l++Dq k:=by unfold Dq;rw [List.flatMap_append]
theorem E8 (a:Acc) (l:List Acc):Dq (a::l)=a.cells.toList++Dq l:=by unfold Dq;rw [List.flatMap_cons]
theorem Nn:∀ (l:List Acc) (k:Nat) (a:Acc) (i:Nat),l[k]? = some a→i<7→(Dq l)[k*7+i]? = a.cells[i]?
 |[],_,_,_,h,_=>by cases h
 |d::l,0,a,i,h,hi=>by
  cases h
  rw [E8,Nat.zero_mul,Nat.zero_add,List.getElem?_append_left (by rw [Jn];exact hi)]
  simp
 |d::l,k+1,a,i,h,hi=>by
  rw [E8,List.getElem?_append_right (by rw [Jn];omega),Jn,show(k+1)*7+i - 7=k*7+i by omega]
  exact Nn l k a i (by simpa using h) hi
theorem I6 (l:List Acc):∀ u∈Dq l,u.oneCell'=true:=by
 intro u hu
 unfold Dq at hu
 obtain⟨a,_,ha⟩:=List.mem_flatMap.1 hu
 simp at ha
 rcases ha with rfl | rfl | rfl | rfl | rfl | rfl | rfl<;>rfl
theorem Eh.own {w:World} {base:Nat} {A:Option Addr} {cap n:Nat} {l:List Acc} (h:w.ownsRow base 101 7 (.slice A n cap) n (Dq l)):Eh w w.heap.size A l:=fun hne=>by
 have hn:n=l.length:=by have:=h.1;rw [Jt] at this;omega
 have h0:0<l.length:=List.length_pos_iff.2 hne
 subst hn
 rcases h.2 with⟨_,h2⟩ | ⟨g,c,cur,hv,_,hh,hc,_,hs,ht⟩
 ·omega
 ·injection hv with hv1 hv2 hv3
  subst hv1
  have hB:Blk w g 101 cur:=hh
  refine⟨g,0,rfl,hB.lt,fun k a hk=>?_⟩
  have hkl:k<l.length:=(List.getElem?_eq_some_iff.1 hk).1
  have get:∀ i,i<7→w.cell? ⟨g,0+k*7+i,none⟩=a.cells[i]? := fun i hi=>by
   rw [hB.cell,←Nn l k a i hk hi,←ht,List.getElem?_take,if_pos (by omega),Nat.zero_add]
   simp
  exact⟨get 0 (by omega),get 1 (by omega),get 2 (by omega),get 3 (by omega),get 4 (by omega),get 5 (by omega),get 6 (by omega)⟩
theorem Pl:(Tryz.prog.info? 101).map (fun i=>(i.zero,i.size,i.bytes))=some (some (.agg #[.int .i64 0, .bool false, .bool false, .int .u32 0, .int .i64 0, .int .u32 0, .bool false]),7,32):=by kernel_rfl
theorem Bw {w:World} {base k:Nat} {e t:TypeId} {size:Nat} {v:Value} {n:Nat} {xs:List Value} {cs:Array Value} (h:w.ownsRow base e size v n xs) (hk:Blk w k t cs) (he:e≠t):v.ownBlock=none∨v.ownBlock≠some k:=by
 rcases h.2 with⟨rfl,_⟩ | ⟨g,c,cur,rfl,_,hh,_⟩
 ·exact Or.inl rfl
 ·right
  intro hg
  have hg:g=k:=by simpa [Value.ownBlock] using hg
  subst hg
  have hk:w.heap[g]? = some (.cells cs t (0,0)):=hk
  rw [hk] at hh
  injection hh with hh
  injection hh with _ hh
  exact he hh.symm
theorem Bo {w:World} {g k:Nat} {e t:TypeId} {cs cs':Array Value} (h:Blk w g e cs) (hk:Blk w k t cs') (he:e≠t):g≠k:=by
 rintro rfl
 have h:w.heap[g]? = some (.cells cs e (0,0)):=h
 have hk:w.heap[g]? = some (.cells cs' t (0,0)):=hk
 rw [hk] at h
 injection h with h
 injection h with _ h
 exact he h.symm
theorem Fb {w:World} {base g:Nat} {e t:TypeId} {size:Nat} {v:Value} {n:Nat} {xs:List Value} {cs:Array Value} (hg:Blk w g t cs) (h:w.ownsRow base e size v n xs) (he:t≠e):some g≠v.ownBlock:=by
 rcases Bw h hg (fun e'=>he e'.symm) with h1 | h1
 ·rw [h1];simp
 ·exact fun e=>h1 e.symm
def Cb (w:World) (B:Nat) (v:Value) (ps:List Nat):Prop:=
 (v = .slice none 0 0∧ps=[])∨∃ go oo cap cur,v = .slice (some ⟨go,oo,none⟩) ps.length cap∧B≤go∧Blk w go 71 cur∧ps.length≤cap∧cap≤9223372036854775807∧oo+cap≤cur.size∧∀ i p,ps[i]? = some p→cur[oo+i]? = some (.pointer (some ⟨p,0,none⟩))
structure Df (w:World) (B:Nat) (us:List Uop) (ps:List Nat):Prop where
 len:ps.length=us.length
 at_:∀ (i:Nat) u p,us[i]? = some u→ps[i]? = some p→Blk w p 75 u.cells∧B≤p
 nodup:ps.Nodup
theorem Cb.lt {w:World} {B:Nat} {v:Value} {ps:List Nat} (h:Cb w B v ps):∀ k,v.ownBlock=some k→B≤k∧k<w.heap.size:=by
 intro k hk
 rcases h with⟨rfl,_⟩ | ⟨go,oo,cap,cur,rfl,hb,hB,_⟩
 ·cases hk
 ·cases hk
  exact⟨hb,hB.lt⟩
theorem Cb.kept {w w':World} {B:Nat} {v:Value} {ps:List Nat} {row:Option Nat} (h:Cb w B v ps) (hg:w.grownBy w' row) (hne:v.ownBlock=none∨v.ownBlock≠row):Cb w' B v ps:=by
 rcases h with h | ⟨go,oo,cap,cur,rfl,hb,hB,h1,h2,h3,h4⟩
 ·exact Or.inl h
 ·exact Or.inr ⟨go,oo,cap,cur,rfl,hb,hB.grown hg (by simpa [Value.ownBlock] using hne),h1,h2,h3,h4⟩
theorem Cb.other {w:World} {B k:Nat} {v:Value} {ps:List Nat} {t:TypeId} {cs:Array Value} (h:Cb w B v ps) (hk:Blk w k t cs) (he:71≠t):v.ownBlock=none∨v.ownBlock≠some k:=by
 rcases h with⟨rfl,_⟩ | ⟨go,oo,cap,cur,rfl,_,hB,_⟩
 ·exact Or.inl rfl
 ·right
  intro hg
  have hg:go=k:=by simpa [Value.ownBlock] using hg
  exact Bo hB hk he hg
theorem Cb.apart {w:World} {B B':Nat} {v v2:Value} {ps:List Nat} {e:TypeId} {size n:Nat} {xs:List Value} (h:Cb w B v ps) (h2:w.ownsRow B' e size v2 n xs) (he:71≠e):v.ownBlock=none∨v.ownBlock≠v2.ownBlock:=by
 rcases h with⟨rfl,_⟩ | ⟨go,oo,cap,cur,rfl,_,hB,_⟩
 ·exact Or.inl rfl
 ·exact Or.inr (Fb hB h2 he)
theorem Df.kept {w w':World} {B:Nat} {us:List Uop} {ps:List Nat} {row:Option Nat} (h:Df w B us ps) (hg:w.grownBy w' row) (hne:∀ p∈ps,some p≠row):Df w' B us ps:=
 ⟨h.len,fun i u p hu hp=>⟨(h.at_ i u p hu hp).1.grown hg (hne p (List.mem_of_getElem? hp)),(h.at_ i u p hu hp).2⟩,h.nodup⟩
theorem Df.mem {w:World} {B:Nat} {us:List Uop} {ps:List Nat} (h:Df w B us ps) {p:Nat} (hp:p∈ps):∃ u:Uop,Blk w p 75 u.cells∧B≤p:=by
 obtain⟨i,hi,rfl⟩:=List.getElem_of_mem hp
 have hi2:i<us.length:=by rw [←h.len];exact hi
 exact⟨us[i],h.at_ i _ _ (List.getElem?_eq_getElem hi2) (List.getElem?_eq_getElem hi)⟩
theorem Df.lt {w:World} {B:Nat} {us:List Uop} {ps:List Nat} (h:Df w B us ps) {p:Nat} (hp:p∈ps):p<w.heap.size:=by
 obtain⟨u,hu,_⟩:=h.mem hp
 exact hu.lt
theorem Df.get {w:World} {B:Nat} {us:List Uop} {ps:List Nat} (h:Df w B us ps) {i:Nat} (hi:i<us.length):∃ p,ps[i]? = some p∧Blk w p 75 (us[i]'hi).cells∧B≤p:=by
 have hi2:i<ps.length:=by rw [h.len];exact hi
 exact⟨ps[i],List.getElem?_eq_getElem hi2,h.at_ i _ _ (List.getElem?_eq_getElem hi) (List.getElem?_eq_getElem hi2)⟩
theorem Df.set {w w':World} {B:Nat} {us:List Uop} {ps:List Nat} (h:Df w B us ps) {i p:Nat} (hp:ps[i]? = some p) (hg:w.grownBy w' (some p)) {u':Uop} (hB:Blk w' p 75 u'.cells):Df w' B (us.set i u') ps:=by
 refine⟨by rw [List.length_set];exact h.len,fun j u q hu hq=>?_,h.nodup⟩
 have hil:i<ps.length:=(List.getElem?_eq_some_iff.1 hp).1
 have hil2:i<us.length:=by rw [←h.len];exact hil
 have hbp:B≤p:=(h.at_ i us[i] p (List.getElem?_eq_getElem hil2) hp).2
 by_cases e:i=j
 ·subst e
  rw [List.getElem?_set_self hil2] at hu
  rw [hp] at hq
  cases hu
  cases hq
  exact⟨hB,hbp⟩
 ·rw [List.getElem?_set_ne e] at hu
  obtain⟨h1,h2⟩:=h.at_ j u q hu hq
  refine⟨h1.grown hg (fun hh=>?_),h2⟩
  injection hh with hh
  subst hh
  have hj:j<ps.length:=(List.getElem?_eq_some_iff.1 hq).1
  have hn:=List.pairwise_iff_getElem.1 h.nodup
  have hpi:=(List.getElem?_eq_some_iff.1 hp).2
  have hpj:=(List.getElem?_eq_some_iff.1 hq).2
  rcases Nat.lt_or_gt_of_ne e with hlt | hlt
  ·exact hn i j hil hj hlt (hpi.trans hpj.symm)
  ·exact hn j i hj hil hlt (hpj.trans hpi.symm)
end Go.Proofs.YtapgojgcmlnbgacGreat
namespace Go.Proofs.YtapgojgcmlnbgacGreat
open Go
def Ho (seq p:Int) (a:Acc):Bool:=a.store&&a.known&&decide (a.seq<seq)&&hasB a p
theorem Kk (seq p:Int):∀ (l:List Acc) (b:Option Acc),l.foldl (Cx seq p) b=(l.filter (Ho seq p)).foldl (Cx seq p) b
 |[],_=>rfl
 |a::l,b=>by
  rw [List.foldl_cons,Kk seq p l]
  rcases hr:Ho seq p a with _ | _
  ·rw [List.filter_cons_of_neg (by simp [hr])]
   have:Cx seq p b a=b:=by
    unfold Cx
    unfold Ho at hr
    rw [if_neg]
    rw [hr]
    simp
   rw [this]
  ·rw [List.filter_cons_of_pos hr]
   rfl
theorem Rl {l l':List Acc} {seq p:Int} (m:List Int) (h:l.filter (Ho seq p)=l'.filter (Ho seq p)):Dj l m seq p=Dj l' m seq p:=by
 unfold Dj
 rw [Kk seq p l,Kk seq p l',h]
theorem Vm (seq p:Int):∀ (l:List Acc) (b:Acc),(∀ a∈l,Ho seq p a=true)→(b::l).Pairwise (fun a c=>a.seq≤c.seq)→l.foldl (Cx seq p) (some b)=some ((b::l).getLast (by simp))
 |[],b,_,_=>rfl
 |a::l,b,h,hs=>by
  rw [List.foldl_cons]
  have hr:=h a (by simp)
  have hle:b.seq≤a.seq:=(List.pairwise_cons.1 hs).1 a (by simp)
  have:Cx seq p (some b) a=some a:=by
   unfold Cx
   unfold Ho at hr
   rw [if_pos]
   rw [hr]
   simp [Lh,hle]
  rw [this,Vm seq p l a (fun x hx=>h x (by simp [hx])) (List.pairwise_cons.1 hs).2]
  rfl
theorem Adi {l:List Acc} {seq p:Int} (hs:l.Pairwise (fun a c=>a.seq≤c.seq)):l.foldl (Cx seq p) none=(l.filter (Ho seq p)).getLast? := by
 rw [Kk]
 have hs':=hs.sublist (List.filter_sublist (p:=Ho seq p) (l:=l))
 have ha:∀ a∈l.filter (Ho seq p),Ho seq p a=true:=fun a ha=>(List.mem_filter.1 ha).2
 generalize l.filter (Ho seq p)=k at hs' ha
 cases k with
 |nil=>rfl
 |cons a k=>
  rw [List.foldl_cons]
  have hr:=ha a (by simp)
  have:Cx seq p none a=some a:=by
   unfold Cx
   unfold Ho at hr
   rw [if_pos]
   rw [hr]
   simp [Lh]
  rw [this,Vm seq p k a (fun x hx=>ha x (by simp [hx])) hs']
  rw [List.getLast?_eq_some_getLast (by simp)]
theorem S7 {l:List Acc} {seq p:Int} (m:List Int) (hs:l.Pairwise (fun a c=>a.seq≤c.seq)):Dj l m seq p=byteOf m p (l.filter (Ho seq p)).getLast? := by
 unfold Dj
 rw [Adi hs]
theorem Fh (m:List Int) (i j:Nat) (x:Int):(m.set i x).getD j 0=if i=j∧i<m.length then x else m.getD j 0:=by
 simp only [List.getD]
 by_cases h:i=j
 ·subst h
  by_cases h2:i<m.length
  ·rw [List.getElem?_set_self h2,if_pos ⟨rfl,h2⟩];rfl
  ·rw [if_neg (by omega),List.getElem?_eq_none (by simp;omega),List.getElem?_eq_none (by omega)]
 ·rw [List.getElem?_set_ne h,if_neg (by omega)]
theorem Aex (m:List Int) (many:Int) (n:Nat) (d:Int) (hm:many=0∨many=1∨many=2∨many=4) (hf:(n:Int)+many≤m.length) (j:Nat) :
  (Qi m many n d).getD j 0=if n≤j∧(j:Int)<n+many then d / ((2 ^ (8*(j - n)):Nat):Int)%256 else m.getD j 0:=by
 have e8:((2 ^ (8*1):Nat):Int)=256:=by decide
 have e16:((2 ^ (8*2):Nat):Int)=65536:=by decide
 have e24:((2 ^ (8*3):Nat):Int)=16777216:=by decide
 have e0:((2 ^ (8*0):Nat):Int)=1:=by decide
 rcases hm with rfl | rfl | rfl | rfl
 ·rw [if_neg (by omega)];rfl
 ·show(Nj m n d).getD j 0=_
  unfold Nj
  rw [Fh]
  by_cases h:n=j
  ·subst h
   rw [if_pos (by omega),if_pos (by omega),Nat.sub_self,e0,Int.ediv_one]
  ·rw [if_neg (by omega),if_neg (by omega)]
 ·show(Qh m n d).getD j 0=_
  unfold Qh Nj
  simp only [Fh,List.length_set]
  by_cases h:n=j
  ·subst h
   rw [if_neg (by omega),if_pos (by omega),if_pos (by omega),Nat.sub_self,e0,Int.ediv_one]
  ·by_cases h1:n+1=j
   ·subst h1
    rw [if_pos (by omega),if_pos (by omega),show n+1 - n=1 by omega,e8]
   ·rw [if_neg (by omega),if_neg (by omega),if_neg (by omega)]
 ·show(Xe m n d).getD j 0=_
  unfold Xe Qh Nj
  simp only [Fh,List.length_set]
  by_cases h:n=j
  ·subst h
   rw [if_neg (by omega),if_neg (by omega),if_neg (by omega),if_pos (by omega),if_pos (by omega),Nat.sub_self,e0,Int.ediv_one]
  ·by_cases h1:n+1=j
   ·subst h1
    rw [if_neg (by omega),if_neg (by omega),if_pos (by omega),if_pos (by omega),show n+1 - n=1 by omega,e8]
   ·by_cases h2:n+2=j
    ·subst h2
     rw [if_neg (by omega),if_pos (by omega),if_pos (by omega),show n+2 - n=2 by omega,e16]
    ·by_cases h3:n+3=j
     ·subst h3
      rw [if_pos (by omega),if_pos (by omega),show n+3 - n=3 by omega,e24]
     ·rw [if_neg (by omega),if_neg (by omega),if_neg (by omega),if_neg (by omega),if_neg (by omega)]
theorem Wu {a:Acc} {r:List Acc} {m:List Int} {seq p:Int} (hs:(a::r).Pairwise (fun a c=>a.seq≤c.seq)) (ha:a.store=true) (hk:a.known=true) (hseq:a.seq<seq)
  (hm:a.many=0∨a.many=1∨a.many=2∨a.many=4) (h0:0≤a.at_) (hf:a.at_+a.many≤m.length) (hl:m.length≤4096) (hp:0≤p) :
  Dj r (Qi m a.many a.at_.toNat a.data) seq p=Dj (a::r) m seq p:=by
 rw [S7 _ hs,S7 _ (List.pairwise_cons.1 hs).2]
 have hmi:Gy a.many=a.many:=by unfold Gy;omega
 have hg:=Aex m a.many a.at_.toNat a.data hm (by omega) p.toNat
 rcases hr:Ho seq p a with _ | _
 ·rw [List.filter_cons_of_neg (by simp [hr])]
  cases hL:(r.filter (Ho seq p)).getLast? with
  |some b=>rfl
  |none=>
   show(Qi m a.many a.at_.toNat a.data).getD p.toNat 0=m.getD p.toNat 0
   rw [hg,if_neg]
   intro hin
   unfold Ho hasB at hr
   rw [ha,hk,hmi,decide_eq_true hseq,decide_eq_true (show a.at_≤p by omega),decide_eq_true (show p<a.at_+a.many by omega),decide_eq_true (show p<4294967296 by omega)] at hr
   cases hr
 ·rw [List.filter_cons_of_pos hr]
  unfold Ho hasB at hr
  rw [hmi] at hr
  simp only [Bool.and_eq_true,decide_eq_true_eq] at hr
  cases hk':r.filter (Ho seq p) with
  |nil=>
   show(Qi m a.many a.at_.toNat a.data).getD p.toNat 0=Qy a p
   rw [hg,if_pos (by omega)]
   unfold Qy
   rw [show p.toNat - a.at_.toNat=(p - a.at_).toNat by omega]
  |cons b k=>
   rw [List.getLast?_cons_cons]
   rw [List.getLast?_eq_some_getLast (by simp)]
   rfl
theorem O6 {l l':List Acc} {m m':List Int} {seq p many:Int} (hm:m.length=m'.length) (h:∀ q,p≤q→q<p+4→(many=1→q<p+1)→(many=2→q<p+2)→Dj l m seq q=Dj l' m' seq q) :
  (Ee l m seq p many).1=(Ee l' m' seq p many).1∧(Ee l m seq p many).2.1=(Ee l' m' seq p many).2.1:=by
 have hok:Gu m p many=Gu m' p many:=by unfold Gu;rw [hm]
 unfold Ee
 rw [hok]
 split
 ·rename_i hs
  refine⟨?_,rfl⟩
  show O7 l m seq p many=O7 l' m' seq p many
  unfold O7
  by_cases h1:many=1
  ·rw [if_pos h1,if_pos h1,h p (by omega) (by omega) (by omega) (by omega)]
  rw [if_neg h1,if_neg h1]
  by_cases h2:many=2
  ·rw [if_pos h2,if_pos h2,h p (by omega) (by omega) (by omega) (by omega),h (p+1) (by omega) (by omega) (by omega) (by omega)]
  rw [if_neg h2,if_neg h2,h p (by omega) (by omega) (by omega) (by omega),h (p+1) (by omega) (by omega) (by omega) (by omega),h (p+2) (by omega) (by omega) (by omega) (by omega),h (p+3) (by omega) (by omega) (by omega) (by omega)]
 ·exact⟨rfl,rfl⟩
def Dm (N:A1) (u:Uop):A1:=if 0<u.dest then ⟨N.phys,N.regs.set u.ins.rd.toNat u.dest,N.free.tail⟩ else N
structure NOk (N:A1) (u:Uop):Prop where
 src:u.cause=0→u.a=N.regs.getD u.ins.rs1.toNat 0∧u.b=N.regs.getD u.ins.rs2.toNat 0
 dst:0<u.dest→(Bf u.ins=true∧u.cause=0)∧(1≤u.ins.rd∧u.ins.rd≤31)∧N.free=u.dest::N.free.tail∧u.old=N.regs.getD u.ins.rd.toNat 0
 nodst:u.dest≤0→u.dest=0∧¬ (Bf u.ins=true∧u.cause=0)
def Bt:A1→List Uop→A1→Prop
 |N,[],M=>N=M
 |N,u::us,M=>NOk N u∧Bt (Dm N u) us M
theorem Bt.append {M:A1}:∀ {L R:List Uop} {N:A1},Bt N (L++R) M↔∃ K,Bt N L K∧Bt K R M
 |[],R,N=>⟨fun h=>⟨N,rfl,h⟩,fun⟨K,h1,h2⟩=>by cases h1;exact h2⟩
 |u::L,R,N=>by
  show NOk N u∧Bt (Dm N u) (L++R) M↔_
  rw [Bt.append]
  constructor
  ·rintro⟨h,K,h1,h2⟩;exact⟨K,⟨h,h1⟩,h2⟩
  ·rintro⟨K,⟨h,h1⟩,h2⟩;exact⟨h,K,h1,h2⟩
structure Dp (N:A1):Prop where
 len:N.regs.length=32
 may:N.may=true
 zero:N.regs.getD 0 0=0
theorem Dp.nodup {N:A1} (h:Dp N):(∀ p∈N.all,0≤p∧p<N.phys)∧N.all.Nodup:=((J4 _ _).1 h.may).1
theorem Dp.phys {N:A1} (h:Dp N):33≤N.phys∧N.phys≤96:=((J4 _ _).1 h.may).2
theorem Dp.reg_mem {N:A1} (h:Dp N) {i:Nat} (hi:i<32):N.regs.getD i 0∈N.regs:=by
 have:i<N.regs.length:=by rw [h.len];exact hi
 simp [List.getD,List.getElem?_eq_getElem this]
theorem Dp.reg_range {N:A1} (h:Dp N) {i:Nat} (hi:i<32):0≤N.regs.getD i 0∧N.regs.getD i 0<96:=by
 have h1:=h.nodup.1 _ (List.mem_append_left _ (h.reg_mem hi))
 have h2:=h.phys
 omega
theorem Dp.free_pos {N:A1} (h:Dp N) {p:Int} (hp:p∈N.free):0<p∧p<96:=by
 have h1:=h.nodup.1 p (List.mem_append_right _ hp)
 have h2:=h.phys
 have h3:p≠0:=by
  intro e
  subst e
  have hz:=h.reg_mem (i:=0) (by omega)
  rw [h.zero] at hz
  have:=List.nodup_append.1 h.nodup.2
  exact this.2.2 0 hz 0 hp rfl
 omega
theorem Dp.disjoint {N:A1} (h:Dp N) {p:Int} (hr:p∈N.regs) (hf:p∈N.free):False:=
 (List.nodup_append.1 h.nodup.2).2.2 p hr p hf rfl
theorem Dp.next {N:A1} (h:Dp N) {u:Uop} (hu:NOk N u):Dp (Dm N u):=by
 unfold Dm
 split
 ·rename_i hd
  obtain⟨_,⟨r1,r2⟩,hf,_⟩:=hu.dst hd
  refine⟨by simp [h.len],?_,?_⟩
  ·have hm:=h.may
   unfold A1.may A1.all at hm ⊢
   rw [hf] at hm
   exact(T5 (by rw [h.len];omega) hm).1
  ·show(N.regs.set _ _).getD 0 0=0
   rw [Fh,if_neg (by omega)]
   exact h.zero
 ·exact h
theorem Afe {N:A1} (h:Dp N) {u:Uop} (hu:NOk N u) (hd:0<u.dest):Ms (Dm N u) u.ins.rd u.old=some N:=by
 obtain⟨_,⟨r1,r2⟩,hf,ho⟩:=hu.dst hd
 have hn:=h.next hu
 unfold Dm at hn ⊢
 rw [if_pos hd] at hn ⊢
 have hl:u.ins.rd.toNat<N.regs.length:=by rw [h.len];omega
 have hm:=h.may
 unfold A1.may A1.all at hm
 rw [hf] at hm
 obtain⟨m1,m2,m3⟩:=T5 hl hm
 have hot:Gw ⟨N.phys,N.regs.set u.ins.rd.toNat u.dest,N.free.tail⟩ u.old=true:=by
  unfold Gw
  rw [hn.may,ho]
  simp only [A1.all,Bool.true_and,Bool.and_eq_true,decide_eq_true_eq,Bool.not_eq_true']
  exact⟨m2,decide_eq_false m3⟩
 unfold Ms
 rw [if_pos ⟨hot,r1,r2⟩]
 congr 1
 obtain⟨phys,regs,free⟩:=N
 simp only at hf ho hl ⊢
 rw [Fh,if_pos ⟨rfl,hl⟩,←hf]
 congr 1
 rw [List.set_set,ho]
 have:regs.getD u.ins.rd.toNat 0=regs[u.ins.rd.toNat]:=by simp [List.getD,List.getElem?_eq_getElem hl]
 rw [this,List.set_getElem_self]
theorem Bt.good {M:A1}:∀ {L:List Uop} {N:A1},Bt N L M→Dp N→Dp M
 |[],_,h,hg=>by cases h;exact hg
 |_::_,_,⟨h,h1⟩,hg=>h1.good (hg.next h)
theorem Bt.phys {M:A1}:∀ {L:List Uop} {N:A1},Bt N L M→M.phys=N.phys
 |[],_,h=>by cases h;rfl
 |u::L,N,⟨_,h1⟩=>by
  rw [h1.phys]
  unfold Dm
  split<;>rfl
theorem Md {N:A1} (u:Uop):∀ p∈(Dm N u).free,p∈N.free:=by
 unfold Dm
 split
 ·exact fun p hp=>List.mem_of_mem_tail hp
 ·exact fun p hp=>hp
theorem Bt.free_sub {M:A1}:∀ {L:List Uop} {N:A1},Bt N L M→∀ p∈M.free,p∈N.free
 |[],_,h=>by cases h;exact fun p hp=>hp
 |u::L,N,⟨_,h1⟩=>fun p hp=>Md u p (h1.free_sub p hp)
theorem Bt.dest_free {M:A1}:∀ {L:List Uop} {N:A1},Bt N L M→∀ u∈L,0<u.dest→u.dest∈N.free
 |[],_,_,u,hu=>by cases hu
 |v::L,N,⟨h,h1⟩,u,hu=>fun hd=>by
  rcases List.mem_cons.1 hu with rfl | hu
  ·rw [(h.dst hd).2.2.1];simp
  ·exact Md v _ (h1.dest_free u hu hd)
structure Apart (u v:Uop):Prop where
 a:0<v.dest→u.a≠v.dest
 b:0<v.dest→u.b≠v.dest
 d:0<v.dest→u.dest≠v.dest
theorem NOk.src_mem {N:A1} (hg:Dp N) {u:Uop} (h:NOk N u) (hi:u.cause=0→(0≤u.ins.rs1∧u.ins.rs1≤31)∧0≤u.ins.rs2∧u.ins.rs2≤31) (hc:u.cause=0):u.a∈N.regs∧u.b∈N.regs:=by
 obtain⟨h1,h2⟩:=h.src hc
 obtain⟨i1,i2⟩:=hi hc
 rw [h1,h2]
 exact⟨hg.reg_mem (by omega),hg.reg_mem (by omega)⟩
theorem Bt.apart {M:A1}:∀ {L:List Uop} {N:A1},Bt N L M→Dp N→(∀ u∈L,u.cause=0→(0≤u.ins.rs1∧u.ins.rs1≤31)∧0≤u.ins.rs2∧u.ins.rs2≤31)→(∀ u∈L,u.cause≠0→u.a=0∧u.b=0)→L.Pairwise Apart
 |[],_,_,_,_,_=>List.Pairwise.nil
 |u::L,N,⟨h,h1⟩,hg,hi,hz=>by
  have hg1:=hg.next h
  refine List.pairwise_cons.2 ⟨fun v hv=>?_,h1.apart hg1 (fun u hu=>hi u (by simp [hu])) (fun u hu=>hz u (by simp [hu]))⟩
  have hvf:=h1.dest_free v hv
  have hr:u.a∈N.regs∧u.b∈N.regs:=by
   by_cases hc:u.cause=0
   ·exact h.src_mem hg (hi u (by simp)) hc
   ·obtain⟨e1,e2⟩:=hz u (by simp) hc
    have:=hg.reg_mem (i:=0) (by omega)
    rw [hg.zero] at this
    rw [e1,e2]
    exact⟨this,this⟩
  refine⟨fun hd e=>?_,fun hd e=>?_,fun hd e=>?_⟩
  ·exact hg.disjoint hr.1 (e▸Md u _ (hvf hd))
  ·exact hg.disjoint hr.2 (e▸Md u _ (hvf hd))
  ·have hud:0<u.dest:=by omega
   have hm:u.dest∈(Dm N u).regs:=by
    unfold Dm
    rw [if_pos hud]
    obtain⟨_,⟨r1,r2⟩,_⟩:=h.dst hud
    exact List.mem_set (by rw [hg.len];omega) _
   exact hg1.disjoint hm (e▸hvf hd)
theorem Bt.snoc {N M:A1} {L:List Uop} {u:Uop} (h:Bt N L M) (hu:NOk M u):Bt N (L++[u]) (Dm M u):=
 Bt.append.2 ⟨M,h,hu,rfl⟩
def addFree (N:A1) (p:Int):A1:=⟨N.phys,N.regs,N.free++[p]⟩
theorem NOk.addFree {N:A1} {u:Uop} (h:NOk N u) (p:Int):NOk (addFree N p) u:=by
 refine⟨h.src,fun hd=>?_,h.nodst⟩
 obtain⟨h1,h2,h3,h4⟩:=h.dst hd
 refine⟨h1,h2,?_,h4⟩
 show N.free++[p]=u.dest::(N.free++[p]).tail
 rw [h3]
 rfl
theorem Vf {N:A1} {u:Uop} (h:NOk N u) (p:Int):Dm (Go.Proofs.YtapgojgcmlnbgacGreat.addFree N p) u=Go.Proofs.YtapgojgcmlnbgacGreat.addFree (Dm N u) p:=by
 unfold Dm
 split
 ·rename_i hd
  obtain⟨_,_,h3,_⟩:=h.dst hd
  unfold Go.Proofs.YtapgojgcmlnbgacGreat.addFree
  simp only
  congr 1
  rw [h3]
  rfl
 ·rfl
theorem Bt.addFree {M:A1} (p:Int):∀ {L:List Uop} {N:A1},Bt N L M→Bt (Go.Proofs.YtapgojgcmlnbgacGreat.addFree N p) L (Go.Proofs.YtapgojgcmlnbgacGreat.addFree M p)
 |[],_,h=>by cases h;rfl
 |u::L,N,⟨h,h1⟩=>⟨h.addFree p,by rw [Vf h];exact h1.addFree p⟩
def B6 (u:Uop):Slt:=⟨u.seq,decide (u.state=2)⟩
def Bm (u:Uop):Bool:=Bs u.ins || Ba u.ins
def Bc (u:Uop):Bool:=Ba u.ins&&decide (u.state=2)&&decide (u.commit.state=0)
def G7 (u:Uop):Acc:=⟨u.seq,true,true,u.commit.at_,u.commit.many,u.commit.data,false⟩
def known (L:List Uop):List Acc:=(L.filter Bc).map G7
def Us (words:List Int) (p:Int):Int:=words.getD p.toNat 0
def Bn (words:List Int) (u:Uop):Acc:=
 if Bc u=true then G7 u
 else if Bs u.ins=true∧u.state=2∧u.commit.state=0 then ⟨u.seq,false,true,u32 (Us words u.a+u.ins.imm),loadBytes u.ins.op,0,true⟩
 else ⟨u.seq,Ba u.ins,false,0,0,0,false⟩
def Ds (K:List Acc) (m:List Int) (seq pc:Int):Ins×Int:=
 if (Ee K m seq pc 4).2.1=true then Da (bytesOf (Ee K m seq pc 4).1) 0 else (Fs,1)
def Ko (K:List Acc) (m:List Int) (u:Uop) (wa:Int):Com:=
 let s:=Ee K m u.seq (u32 (wa+u.ins.imm)) (loadBytes u.ins.op)
 if s.2.1=true then Cl { u.ins with imm:=0 } ⟨List.replicate 32 0,u.pc,0,0⟩ (bytesOf s.1) else Aw u.pc 3
def Ad (C:Core) (L:List Uop) (u:Uop):Com:=
 if Bs u.ins=true then Ko (known L) C.mem u (C.word u.a) else Cl u.ins (Eg C u) C.mem
def Cz (u:Uop):Bool:=decide (u.cause≠0) || (decide (u.state=2)&&decide (u.commit.state≠0))
def Eu (u:Uop):Bool:=Be u.ins || Cz u
def Ei:Int→List Uop→Int→Prop
 |p,[],q=>p=q
 |p,u::us,q=>u.pc=p∧(if Cz u=true then us=[] else Ei u.next us q)
structure Su (C:Core) (L:List Uop) (v:Uop) (R:List Uop):Prop where
 seq:0≤v.seq∧v.seq<C.seq
 st:v.state=0∨v.state=1∨v.state=2
 fault:v.cause≠0→v.state=2∧v.commit=Aw v.pc v.cause∧v.a=0∧v.b=0∧v.dest=0
 cause:v.cause=0∨v.cause=1∨v.cause=2
 fetch:(v.ins,v.cause)=Ds (known L) C.mem v.seq v.pc
 pc:0≤v.pc∧v.pc≤4294967295
 next:0≤v.next∧v.next≤4294967295
 nextS:v.cause=0→(Ba v.ins || Be v.ins)=true→v.next=u32 (v.pc+4)
 src:v.cause=0→v.state≠0→C.has v.a=true∧C.has v.b=true
 gs:v.guessed=true→v.state≠0∧0<v.dest∧Bs v.ins=true
 d1:0<v.dest→v.state≠2→C.has v.dest=true→v.guessed=true
 d2:0<v.dest→v.state=2→C.has v.dest=true∧C.word v.dest=v.commit.value
 com:v.cause=0→v.state=2→v.commit=Ad C L v
 nx:v.state=2→Cz v=false→v.next=v.commit.next
 lone:Be v.ins=true→v.state≠0→L=[]
 last:Eu v=true→R=[]∧C.still=true
structure Inv (C:Core):Prop where
 cfg:(1≤C.window∧C.window≤32)∧1≤C.wide∧C.wide≤4
 hart:C.hart.Wf
 may:Ir C.hart=true
 runs:C.hart.state=0
 bytes:Bytes C.mem
 room:C.mem.length≤4096
 tab:Fe C.table
 words:C.words.length=96∧∀ x∈C.words,0≤x∧x≤4294967295
 there:C.there.length=96
 slots:C.slots=C.ops.map B6
 seqs:C.ops.Pairwise (fun u v=>u.seq<v.seq)
 access:C.access=(C.ops.filter Bm).map (Bn C.words)
 names:∃ N,Dp N∧N.all.length=N.phys.toNat∧Bt N C.ops C.names∧∀ r,r<32→C.has (N.regs.getD r 0)=true∧C.word (N.regs.getD r 0)=C.hart.regs.getD r 0
 pcs:Ei C.hart.pc C.ops C.pc
 len:C.ops.length≤C.window
 seq0:0≤C.seq
 pc:0≤C.pc∧C.pc≤4294967295
 ops:∀ L v R,C.ops=L++v::R→Su C L v R
theorem Inv.insOk {C:Core} {L R:List Uop} {v:Uop} (h:Su C L v R) (hc:v.cause=0):IsP v.ins=true:=by
 have hf:=h.fetch
 unfold Ds at hf
 split at hf
 ·have:=Q3 (m:=bytesOf (Ee (known L) C.mem v.seq v.pc 4).1) (pc:=0) (by rw [←hf];exact hc)
  rw [←hf] at this
  exact this.1
 ·injection hf with h1 h2
  omega
theorem Up {L R L' R':List Uop} {u v:Uop} (h:L++u::R=L'++v::R'):(L'=L∧v=u∧R'=R)∨(∃ X,L=L'++v::X∧R'=X++u::R)∨(∃ X,L'=L++u::X∧R=X++v::R'):=by
 rcases List.append_eq_append_iff.1 h with⟨X,h1,h2⟩ | ⟨X,h1,h2⟩
 ·cases X with
  |nil=>
   simp at h1 h2
   left
   exact⟨h1,h2.1.symm,h2.2.symm⟩
  |cons y X=>
   rw [List.cons_append] at h2
   injection h2 with h2 h3
   right;right
   exact⟨X,by rw [h1,h2],h3⟩
 ·cases X with
  |nil=>
   simp at h1 h2
   left
   exact⟨h1.symm,h2.1,h2.2⟩
  |cons y X=>
   rw [List.cons_append] at h2
   injection h2 with h2 h3
   right;left
   exact⟨X,by rw [h1,h2],h3⟩
theorem Ma (A B:List Uop):known (A++B)=known A++known B:=by unfold known;simp
theorem Wc {L X:List Uop} {u u':Uop} (h:Bc u=false) (h':Bc u'=false):known (L++u'::X)=known (L++u::X):=by
 unfold known
 rw [List.filter_append,List.filter_append,List.filter_cons_of_neg (by simp [h']),List.filter_cons_of_neg (by simp [h])]
theorem Su.congr {C C':Core} {L L' R R':List Uop} {v:Uop} (h:Su C L v R) (hq:v.seq<C'.seq)
  (hL:L=[]→L'=[]) (hR:R=[]→R'=[]) (hst:Eu v=true→C.still=true→C'.still=true)
  (hf:Ds (known L') C'.mem v.seq v.pc=Ds (known L) C.mem v.seq v.pc)
  (hs:v.cause=0→v.state≠0→(C.has v.a=true→C'.has v.a=true)∧(C.has v.b=true→C'.has v.b=true))
  (hd:0<v.dest→C'.has v.dest=C.has v.dest∧C'.word v.dest=C.word v.dest)
  (hx:v.cause=0→v.state=2→Ad C' L' v=Ad C L v):Su C' L' v R':=
 ⟨⟨h.seq.1,hq⟩,h.st,h.fault,h.cause,by rw [hf];exact h.fetch,h.pc,h.next,h.nextS,
  fun hc hn=>⟨(hs hc hn).1 (h.src hc hn).1,(hs hc hn).2 (h.src hc hn).2⟩,h.gs,
  fun h1 h2 h3=>h.d1 h1 h2 (by rw [←(hd h1).1];exact h3),fun h1 h2=>by rw [(hd h1).1,(hd h1).2];exact h.d2 h1 h2,
  fun h1 h2=>by rw [hx h1 h2];exact h.com h1 h2,h.nx,fun h1 h2=>hL (h.lone h1 h2),fun h1=>⟨hR (h.last h1).1,hst h1 (h.last h1).2⟩⟩
theorem Core.op_at {C:Core} {L R:List Uop} {u:Uop} (h:C.ops=L++u::R):C.op L.length=u:=by
 unfold Core.op
 rw [h]
 simp [List.getD]
theorem Gi {L R:List Uop} {u u':Uop}:(L++u::R).set L.length u'=L++u'::R:=by simp
theorem Jd {C C':Core} {L L':List Uop} {v:Uop} (hm:C'.mem=C.mem) (hh:C'.hart.regs=C.hart.regs) (hk:known L'=known L) (ha:C'.word v.a=C.word v.a) (hb:C'.word v.b=C.word v.b):Ad C' L' v=Ad C L v:=by
 unfold Ad Eg
 rw [hm,hh,hk,ha,hb]
theorem Aag {words:List Int} {d p:Int} (w:Int) (hd:0≤d) (hp:0≤p) (h:p≠d):(words.set d.toNat w).getD p.toNat 0=words.getD p.toNat 0:=by
 rw [Fh,if_neg (by omega)]
theorem W5 {there:List Bool} {d p:Int} (w:Bool) (hd:0≤d) (hp:0≤p) (h:p≠d):(there.set d.toNat w).getD p.toNat false=there.getD p.toNat false:=by
 simp only [List.getD]
 rw [List.getElem?_set_ne (by omega)]
theorem Afj {words:List Int} {d:Int} (w:Int) (hd:0≤d) (h:d<words.length):(words.set d.toNat w).getD d.toNat 0=w:=by
 rw [Fh,if_pos (by omega)]
theorem Tw {there:List Bool} {d:Int} (w:Bool) (hd:0≤d) (h:d<there.length):(there.set d.toNat w).getD d.toNat false=w:=by
 simp only [List.getD]
 rw [List.getElem?_set_self (by omega)]
 rfl
theorem Gc {N M:A1}:∀ {ops:List Uop},Bt N ops M→Dp N→∀ {L R:List Uop} {u:Uop},ops=L++u::R→∃ K K',Dp K∧NOk K u∧Bt N L K∧K'=Dm K u∧Bt K' R M:=by
 intro ops h hg L R u ho
 subst ho
 obtain⟨K,h1,h2,h3⟩:=Bt.append.1 h
 exact⟨K,_,h1.good hg,h2,h1,rfl,h3⟩
theorem Kc {N M:A1} {C:Core} {L R:List Uop} {u:Uop} (hc:Bt N (L++u::R) M) (hg:Dp N) (hu:Su C L u R):(0≤u.a∧u.a<96)∧(0≤u.b∧u.b<96)∧0≤u.dest∧u.dest<96:=by
 obtain⟨K,_,hK,hN,_⟩:=Gc hc hg rfl
 have hd:0≤u.dest∧u.dest<96:=by
  by_cases h:0<u.dest
  ·have hf:=(hN.dst h).2.2.1
   have:=hK.free_pos (p:=u.dest) (by rw [hf];simp)
   omega
  ·have:=(hN.nodst (by omega)).1
   omega
 by_cases hc:u.cause=0
 ·obtain⟨e1,e2⟩:=hN.src hc
  have hi:=Iu (Inv.insOk hu hc)
  rw [e1,e2]
  exact⟨hK.reg_range (by omega),hK.reg_range (by omega),hd⟩
 ·obtain⟨_,_,e1,e2,_⟩:=hu.fault hc
  rw [e1,e2]
  exact⟨by omega,by omega,hd⟩
theorem Inv.apart {C:Core} (h:Inv C):C.ops.Pairwise Apart:=by
 obtain⟨N,hg,_,hc,_⟩:=h.names
 refine hc.apart hg (fun u hu=>fun hcz=>?_) (fun u hu=>fun hcn=>?_)
 ·obtain⟨L,R,e⟩:=List.append_of_mem hu
  have:=Iu (Inv.insOk (h.ops L u R e) hcz)
  omega
 ·obtain⟨L,R,e⟩:=List.append_of_mem hu
  obtain⟨_,_,e1,e2,_⟩:=(h.ops L u R e).fault hcn
  exact⟨e1,e2⟩
theorem Inv.head {C:Core} (h:Inv C) {L R:List Uop} {u:Uop} (ho:C.ops=L++u::R) (hs:u.seq=(C.op 0).seq):L=[]:=by
 cases L with
 |nil=>rfl
 |cons x L=>
  exfalso
  have hx:C.op 0=x:=by unfold Core.op;rw [ho];rfl
  have hp:=h.seqs
  rw [ho,List.cons_append] at hp
  have:=(List.pairwise_cons.1 hp).1 u (by simp)
  rw [hx] at hs
  omega
theorem Inv.begun {C:Core} (h:Inv C) {L R:List Uop} {u u':Uop} (ho:C.ops=L++u::R) (s:List Int) (words:List Int) (there:List Bool)
  (hu:u'={ u with state:=1,ready:=u'.ready,guessed:=u'.guessed }) (h0:u.state=0) (ha:C.has u.a=true) (hb:C.has u.b=true) (hal:Be u.ins=true→L=[])
  (hw:words.length=96∧∀ x∈words,0≤x∧x≤4294967295) (ht:there.length=96)
  (hsame:∀ p:Int,0≤p→(0<u.dest→p≠u.dest)→words.getD p.toNat 0=C.word p∧there.getD p.toNat false=C.has p) (hmono:∀ p:Int,C.has p=true→there.getD p.toNat false=true)
  (hg:u'.guessed=true→0<u.dest∧Bs u.ins=true) (hg2:0<u.dest→there.getD u.dest.toNat false=true→u'.guessed=true) :
  Inv { C with ops:=L++u'::R,script:=s,words:=words,there:=there }:=by
 obtain⟨N,hgN,hlN,hcN,hvN⟩:=h.names
 have hap:=h.apart
 have hreg:∀ L' v R',C.ops=L'++v::R'→(0≤v.a∧v.a<96)∧(0≤v.b∧v.b<96)∧0≤v.dest∧v.dest<96:=fun L' v R' e=>Kc (by rw [←e];exact hcN) hgN (h.ops L' v R' e)
 have hops:=h.ops
 rw [ho] at hap hcN hops hreg
 obtain⟨hap1,hap2,hap3⟩:=List.pairwise_append.1 hap
 have huR:=(List.pairwise_cons.1 hap2).1
 have hOu:=hops L u R rfl
 have hstop:Cz u'=Cz u:=by rw [hu];unfold Cz;simp [h0]
 have hkn:Bc u=false:=by unfold Bc;rw [h0];simp
 have hkn':Bc u'=false:=by rw [hu];unfold Bc;simp
 have hmem:Bm u'=Bm u:=by rw [hu];rfl
 have hother:∀ L' v R',L++u::R=L'++v::R'→v≠u∨L'≠L→(v.state≠0→v.cause=0→(0<u.dest→v.a≠u.dest∧v.b≠u.dest))∧(0<u.dest→0<v.dest→v.dest≠u.dest):=by
  intro L' v R' e hne
  rcases Up e with⟨e1,e2,_⟩ | ⟨X,e1,e2⟩ | ⟨X,e1,e2⟩
  ·exact absurd e1 (by rcases hne with hh | hh;exact absurd e2 hh;exact hh)
  ·have:=hap3 v (by rw [e1];simp) u (by simp)
   exact⟨fun _ _ hd=>⟨this.a hd,this.b hd⟩,fun hd _=>this.d hd⟩
  ·have hv:=huR v (by rw [e2];simp)
   have hOv:=hops L' v R' e
   refine⟨fun hs hc hd=>?_,fun hd hd'=>fun e=>hv.d hd' e.symm⟩
   have hnot:C.has u.dest=true→False:=fun hh=>by
    have:=hOu.gs (hOu.d1 hd (by omega) hh)
    exact this.1 h0
   obtain⟨s1,s2⟩:=hOv.src hc hs
   exact⟨fun e=>hnot (e▸s1),fun e=>hnot (e▸s2)⟩
 have hacc:∀ L' v R',L++u::R=L'++v::R'→v≠u∨L'≠L→Bn words v=Bn C.words v:=by
  intro L' v R' e hne
  unfold Bn
  split
  ·rfl
  ·split
   ·rename_i hl
    have hOv:=hops L' v R' e
    have hc:v.cause=0:=by
     rcases Decidable.em (v.cause=0) with hc | hc
     ·exact hc
     ·obtain⟨_,e1,_⟩:=hOv.fault hc
      have:=hl.2.2
      rw [e1] at this
      cases this
    have h1:=(hother L' v R' e hne).1 (by omega) hc
    have h2:=(hsame v.a (hreg L' v R' e).1.1 (fun hd=>(h1 hd).1)).1
    unfold Us
    rw [h2]
    rfl
   ·rfl
 refine⟨h.cfg,h.hart,h.may,h.runs,h.bytes,h.room,h.tab,hw,ht,?_,?_,?_,⟨N,hgN,hlN,?_,fun r hr=>?_⟩,?_,?_,h.seq0,h.pc,?_⟩
 ·show C.slots=(L++u'::R).map B6
  rw [h.slots,ho]
  simp only [List.map_append,List.map_cons]
  congr 2
  rw [hu];unfold B6;simp [h0]
 ·show(L++u'::R).Pairwise _
  have:=h.seqs
  rw [ho] at this
  rw [List.pairwise_append,List.pairwise_cons] at this ⊢
  obtain⟨p1,⟨p2,p3⟩,p4⟩:=this
  have hseq:u'.seq=u.seq:=by rw [hu]
  refine⟨p1,⟨fun v hv=>by rw [hseq];exact p2 v hv,p3⟩,fun a ha b hb=>?_⟩
  rcases List.mem_cons.1 hb with rfl | hb
  ·rw [hseq];exact p4 a ha u (by simp)
  ·exact p4 a ha b (by simp [hb])
 ·show C.access=((L++u'::R).filter Bm).map (Bn words)
  rw [h.access,ho]
  have hL:(L.filter Bm).map (Bn words)=(L.filter Bm).map (Bn C.words):=List.map_congr_left fun v hv=>by
   obtain⟨X,Y,e⟩:=List.append_of_mem (List.mem_filter.1 hv).1
   exact hacc X v (Y++u::R) (by rw [e];simp) (Or.inr (by rw [e];intro hh;have:=congrArg List.length hh;simp at this))
  have hR:(R.filter Bm).map (Bn words)=(R.filter Bm).map (Bn C.words):=List.map_congr_left fun v hv=>by
   obtain⟨X,Y,e⟩:=List.append_of_mem (List.mem_filter.1 hv).1
   exact hacc (L++u::X) v Y (by simp [e]) (Or.inr (fun hh=>by have:=congrArg List.length hh;simp at this))
  have hU:Bn words u'=Bn C.words u:=by
   unfold Bn
   rw [hkn,hkn',hu]
   simp [h0]
  rw [List.filter_append,List.filter_append,List.map_append,List.map_append,hL]
  congr 1
  rcases hm:Bm u with _ | _
  ·rw [List.filter_cons_of_neg (by simp [hm]),List.filter_cons_of_neg (by rw [hmem];simp [hm]),hR]
  ·rw [List.filter_cons_of_pos hm,List.filter_cons_of_pos (by rw [hmem];exact hm),List.map_cons,List.map_cons,hR,hU]
 ·show Bt N (L++u'::R) C.names
  rw [Bt.append] at hcN ⊢
  obtain⟨K,h1,h2,h3⟩:=hcN
  refine⟨K,h1,?_,?_⟩
  ·rw [hu];exact⟨h2.src,h2.dst,h2.nodst⟩
  ·have:Dm K u'=Dm K u:=by rw [hu];rfl
   rw [this]
   exact h3
 ·have hr0:=hgN.reg_range (i:=r) hr
  have hne:0<u.dest→N.regs.getD r 0≠u.dest:=fun hd e=>hgN.disjoint (hgN.reg_mem hr) (e▸hcN.dest_free u (by simp) hd)
  obtain⟨e1,e2⟩:=hsame _ hr0.1 hne
  exact⟨e2.trans (hvN r hr).1,e1.trans (hvN r hr).2⟩
 ·show Ei C.hart.pc (L++u'::R) C.pc
  have:=h.pcs
  rw [ho] at this
  revert this
  generalize C.hart.pc=p
  clear h ho h0 ha hb hal hw ht hsame hmono hg hg2 hcN hvN hap hap1 hap2 hap3 huR hreg hops hOu hkn hkn' hmem hother hacc
  induction L generalizing p with
  |nil=>
   rintro⟨h1,h2⟩
   refine⟨by rw [hu];exact h1,?_⟩
   rw [hstop]
   have:u'.next=u.next:=by rw [hu]
   rw [this]
   exact h2
  |cons x L ih=>
   rintro⟨h1,h2⟩
   refine⟨h1,?_⟩
   by_cases hs:Cz x=true
   ·rw [if_pos hs] at h2 ⊢
    simp at h2
   ·rw [if_neg hs] at h2 ⊢
    exact ih _ h2
 ·show(L++u'::R).length≤C.window
  have:=h.len
  rw [ho] at this
  simpa using this
 ·intro L' v R' e
  have e:L++u'::R=L'++v::R':=e
  rcases Up e with⟨rfl,rfl,rfl⟩ | ⟨X,e1,e2⟩ | ⟨X,e1,e2⟩
  ·
   have e':∀ {α:Type} (f:Uop→α),f v=f { u with state:=1,ready:=v.ready,guessed:=v.guessed }:=fun f=>congrArg f hu
   have i1:v.ins=u.ins:=e' Uop.ins
   have i2:v.cause=u.cause:=e' Uop.cause
   have i3:v.a=u.a:=e' Uop.a
   have i4:v.b=u.b:=e' Uop.b
   have i5:v.dest=u.dest:=e' Uop.dest
   have i6:v.seq=u.seq:=e' Uop.seq
   have i7:v.pc=u.pc:=e' Uop.pc
   have i8:v.next=u.next:=e' Uop.next
   have i9:v.state=1:=e' Uop.state
   have hcz:u.cause=0:=by
    rcases Decidable.em (u.cause=0) with hc | hc
    ·exact hc
    ·have:=(hOu.fault hc).1;omega
   refine⟨by rw [i6];exact hOu.seq,Or.inr (Or.inl i9),fun hc=>absurd hcz (by rw [←i2];exact hc),by rw [i2];exact hOu.cause,by rw [i1,i2,i6,i7];exact hOu.fetch,by rw [i7];exact hOu.pc,by rw [i8];exact hOu.next,
    by rw [i1,i2,i7,i8];exact hOu.nextS,fun _ _=>⟨?_,?_⟩,fun hgg=>⟨by omega,by rw [i5];exact(hg hgg).1,by rw [i1];exact(hg hgg).2⟩,fun hd _ hh=>?_,fun _ hs=>by omega,fun _ hs=>by omega,fun hs=>by omega,fun hl _=>by rw [i1] at hl;exact hal hl,fun hl=>?_⟩
   ·show there.getD v.a.toNat false=true
    rw [i3];exact hmono _ ha
   ·show there.getD v.b.toNat false=true
    rw [i4];exact hmono _ hb
   ·rw [i5] at hd
    exact hg2 hd (by rw [←i5];exact hh)
   ·have:Eu u=true:=by unfold Eu at hl ⊢;rw [←hstop,←i1];exact hl
    exact hOu.last this
  ·
   subst e1 e2
   have hO:=hops L' v (X++u::R) (by simp)
   have hne:L'≠L'++v::X:=fun hh=>by have:=congrArg List.length hh;simp at this
   obtain⟨o1,o2⟩:=hother L' v (X++u::R) (by simp) (Or.inr hne)
   obtain⟨q1,q2,q3,_⟩:=hreg L' v (X++u::R) (by simp)
   refine hO.congr hO.seq.2 id (fun hh=>by simp at hh) (fun _ hh=>hh) rfl (fun hc hs=>⟨hmono _,hmono _⟩) (fun hd=>?_) (fun hc hs=>?_)
   ·obtain⟨e1,e2⟩:=hsame v.dest q3 (fun hd'=>o2 hd' hd)
    exact⟨e2,e1⟩
   ·have:=o1 (by omega) hc
    exact Jd rfl rfl rfl (hsame v.a q1.1 fun hd=>(this hd).1).1 (hsame v.b q2.1 fun hd=>(this hd).2).1
  ·
   subst e1 e2
   have hO:=hops (L++u::X) v R' (by simp)
   have hne:L++u::X≠L:=fun hh=>by have:=congrArg List.length hh;simp at this
   obtain⟨o1,o2⟩:=hother (L++u::X) v R' (by simp) (Or.inr hne)
   obtain⟨q1,q2,q3,_⟩:=hreg (L++u::X) v R' (by simp)
   have hk:known (L++u'::X)=known (L++u::X):=Wc hkn hkn'
   refine hO.congr hO.seq.2 (fun hh=>by simp at hh) id (fun _ hh=>hh) (by rw [hk]) (fun hc hs=>⟨hmono _,hmono _⟩) (fun hd=>?_) (fun hc hs=>?_)
   ·obtain⟨e1,e2⟩:=hsame v.dest q3 (fun hd'=>o2 hd' hd)
    exact⟨e2,e1⟩
   ·have:=o1 (by omega) hc
    exact Jd rfl rfl hk (hsame v.a q1.1 fun hd=>(this hd).1).1 (hsame v.b q2.1 fun hd=>(this hd).2).1
theorem Adg {C:Core} (h:Inv C) {L R:List Uop} {u:Uop} (ho:C.ops=L++u::R) (now:Int):Inv (Cf C L.length now (C.op 0).seq).2:=by
 have hu:C.op L.length=u:=Core.op_at ho
 unfold Cf
 rw [hu]
 simp only [ho,Gi]
 split
 ·exact h
 rename_i hn
 have h0:u.state=0:=by rcases Decidable.em (u.state=0) with e | e;exact e;exact absurd (Or.inl e) hn
 have ha:C.has u.a=true:=by rcases e:C.has u.a with _ | _;exact absurd (Or.inr (Or.inl e)) hn;rfl
 have hb:C.has u.b=true:=by rcases e:C.has u.b with _ | _;exact absurd (Or.inr (Or.inr (Or.inl e))) hn;rfl
 have hal:Be u.ins=true→L=[]:=fun hl=>by
  rcases Decidable.em (u.seq=(C.op 0).seq) with e | e
  ·exact h.head ho e
  ·exact absurd (Or.inr (Or.inr (Or.inr ⟨hl,e⟩))) hn
 clear hn
 obtain⟨N,hgN,_,hcN,_⟩:=h.names
 have hO:=h.ops L u R ho
 obtain⟨_,_,hd0,hd1⟩:=Kc (by rw [←ho];exact hcN) hgN hO
 have hgz:u.guessed=false:=by
  rcases e:u.guessed with _ | _
  ·rfl
  ·exact absurd h0 (hO.gs e).1
 have plain:∀ (s:List Int) (r:Int),Inv { C with ops:=L++{ u with state:=1,ready:=r }::R,script:=s }:=fun s r=>
  h.begun ho s C.words C.there rfl h0 ha hb hal h.words h.there (fun p _ _=>⟨rfl,rfl⟩) (fun p hp=>hp) (fun hg=>by have hg:u.guessed=true:=hg;rw [hgz] at hg;cases hg)
   (fun hd hh=>by
    have:=hO.d1 hd (by omega) hh
    rw [hgz] at this;cases this)
 split
 ·exact plain C.script _
 split
 ·rename_i hl
  split
  ·rename_i hg
   show Inv { Dk _ u.dest _ with ops:=_ }
   unfold Dk
   rw [if_pos hg.1]
   refine h.begun ho _ _ _ rfl h0 ha hb hal ⟨by simp [h.words.1],fun x hx=>?_⟩ (by simp [h.there]) (fun p hp hne=>⟨Aag _ hd0 hp (hne hg.1),W5 _ hd0 hp (hne hg.1)⟩) (fun p hp=>?_) (fun _=>⟨hg.1,hl⟩) (fun _ _=>rfl)
   ·rcases List.mem_or_eq_of_mem_set hx with hx | rfl
    ·exact h.words.2 x hx
    ·exact Dc _
   ·by_cases e:p.toNat=u.dest.toNat
    ·have:=Tw (there:=C.there) true hd0 (by rw [h.there];exact hd1)
     rw [e];exact this
    ·simp only [List.getD]
     rw [List.getElem?_set_ne (fun x=>e x.symm)]
     exact hp
  ·exact plain C.script.tail _
 ·exact plain C.script _
theorem W6 {α:Type} (p:α→Bool):∀ (P:List α) (b:α) (Q:List α) (k:Int),(∀ x∈P,p x=false)→p b=true→Db p (P++b::Q) k=k+P.length
 |[],b,Q,k,_,h=>by
  show(if p b=true then k else _)=_
  rw [if_pos h]
  simp
 |x::P,b,Q,k,h,hb=>by
  show(if p x=true then k else Db p (P++b::Q) (k+1))=_
  rw [if_neg (by rw [h x (by simp)];simp),W6 p P b Q (k+1) (fun y hy=>h y (by simp [hy])) hb]
  simp
  omega
theorem Dz {P Q:List Uop} {b:Uop} (h:(P++b::Q).Pairwise (fun u v=>u.seq<v.seq)):(∀ x∈P,x.seq<b.seq)∧∀ x∈Q,b.seq<x.seq:=by
 rw [List.pairwise_append,List.pairwise_cons] at h
 exact⟨fun x hx=>h.2.2 x hx b (by simp),h.2.1.1⟩
theorem Ahv {P Q:List Uop} {b:Uop} (h:(P++b::Q).Pairwise (fun u v=>u.seq<v.seq)):Je (P++b::Q) b.seq=P.length:=by
 unfold Je
 rw [W6 (fun u:Uop=>decide (u.seq=b.seq)) P b Q 0 (fun x hx=>decide_eq_false (by have:=(Dz h).1 x hx;omega)) (decide_eq_true rfl)]
 omega
theorem Agc {P Q:List Uop} {b:Uop} (h:(P++b::Q).Pairwise (fun u v=>u.seq<v.seq)):(P++b::Q).getD (Je (P++b::Q) b.seq).toNat B3=b:=by
 rw [Ahv h]
 simp [List.getD]
theorem Qm {M:A1}:∀ {B A:List Uop} {K:A1},Bt K B M→Dp K→(A++B).Pairwise (fun u v=>u.seq<v.seq)→((B.map (·.seq)).reverse).foldl (El (A++B)) M=K
 |[],_,_,h,_,_=>by cases h;rfl
 |b::B,A,K,⟨h,h1⟩,hg,hp=>by
  rw [List.map_cons,List.reverse_cons,List.foldl_append]
  have e:A++b::B=(A++[b])++B:=by simp
  rw [e,Qm h1 (hg.next h) (by rw [←e];exact hp),←e]
  show El (A++b::B) (Dm K b) b.seq=K
  unfold El
  rw [Agc hp]
  simp only
  split
  ·rename_i hd
   rw [Afe hg h hd]
   rfl
  ·rename_i hd
   unfold Dm
   rw [if_neg hd]
theorem filter_lt {A B:List Uop} {s:Int} (hA:∀ u∈A,u.seq<s) (hB:∀ u∈B,s≤u.seq):(A++B).filter (fun u=>!decide (s≤u.seq))=A:=by
 rw [List.filter_append,List.filter_eq_self.2 (fun u hu=>by have:=hA u hu;simp;omega),List.filter_eq_nil_iff.2 (fun u hu=>by have:=hB u hu;simp;omega),List.append_nil]
theorem Acs {c:Core} {A B:List Uop} {K:A1} {g:Uop→Acc} {s:Int} (pc:Int) (ho:c.ops=A++B) (hs:c.slots=(A++B).map B6) (hp:(A++B).Pairwise (fun u v=>u.seq<v.seq))
  (hA:∀ u∈A,u.seq<s) (hB:∀ u∈B,s≤u.seq) (hg:∀ u,(g u).seq=u.seq) (hacc:c.access=((A++B).filter Bm).map g) (hN:Bt K B c.names) (hK:Dp K) :
  F8 c s pc={ c with backs:=c.backs+1,names:=K,slots:=A.map B6,ops:=A,access:=(A.filter Bm).map g,pc:=pc,still:=false }:=by
 have hcutO:Lc c.slots s=(B.map (·.seq)).reverse:=by
  unfold Lc
  rw [hs,List.map_append,List.filter_append,List.filter_eq_nil_iff.2 (fun x hx=>?_),List.filter_eq_self.2 (fun x hx=>?_)]
  ·simp [B6,Function.comp_def]
  ·obtain⟨u,hu,rfl⟩:=List.mem_map.1 hx
   have:=hB u hu
   exact decide_eq_true (p:=s≤u.seq) this
  ·obtain⟨u,hu,rfl⟩:=List.mem_map.1 hx
   have:=hA u hu
   exact fun h=>by have:=of_decide_eq_true (p:=s≤u.seq) h;omega
 have hcutL:Mx c.slots s=A.map B6:=by
  unfold Mx
  rw [hs,List.map_append,List.filter_append,List.filter_eq_self.2 (fun x hx=>?_),List.filter_eq_nil_iff.2 (fun x hx=>?_),List.append_nil]
  ·obtain⟨u,hu,rfl⟩:=List.mem_map.1 hx
   have:=hB u hu
   exact fun h=>by have:=of_decide_eq_true (p:=u.seq<s) h;omega
  ·obtain⟨u,hu,rfl⟩:=List.mem_map.1 hx
   have:=hA u hu
   exact decide_eq_true (p:=u.seq<s) this
 unfold F8
 rw [hcutO,hcutL,ho,Qm hN hK hp,filter_lt hA hB]
 have hac:c.access.filter (fun a=>!decide (s≤a.seq))=(A.filter Bm).map g:=by
  rw [hacc,List.filter_map,List.filter_filter]
  congr 1
  rw [List.filter_append,List.filter_eq_nil_iff (l:=B).2 (fun u hu=>by have:=hB u hu;simp [hg];omega),List.append_nil]
  refine List.filter_congr fun u hu=>?_
  have:=hA u hu
  simp [hg]
  omega
 rw [hac]
theorem Ez (words:List Int) (u:Uop):(Bn words u).seq=u.seq:=by
 unfold Bn G7
 (repeat' split)<;>rfl
theorem Abv (words:List Int) (seq p:Int) (u:Uop):Ho seq p (Bn words u)=(Bc u&&Ho seq p (G7 u)):=by
 unfold Bn
 rcases hk:Bc u with _ | _
 ·rw [if_neg (by simp)]
  split
  ·unfold Ho;simp
  ·unfold Ho;simp
 ·rw [if_pos rfl];simp
theorem Z8 {u:Uop} (h:Bc u=true):Bm u=true:=by
 unfold Bc at h
 unfold Bm
 simp only [Bool.and_eq_true] at h
 rw [h.1.1]
 simp
theorem Sw (words:List Int) (seq p:Int):∀ ops:List Uop,((ops.filter Bm).map (Bn words)).filter (Ho seq p)=(known ops).filter (Ho seq p)
 |[]=>rfl
 |u::ops=>by
  have ih:=Sw words seq p ops
  unfold known at ih ⊢
  rcases hk:Bc u with _ | _
  ·rw [List.filter_cons_of_neg (p:=Bc) (by simp [hk])]
   rcases hm:Bm u with _ | _
   ·rw [List.filter_cons_of_neg (p:=Bm) (by simp [hm])]
    exact ih
   ·rw [List.filter_cons_of_pos (p:=Bm) hm,List.map_cons,List.filter_cons_of_neg (by rw [Abv,hk];simp)]
    exact ih
  ·have ha:Bn words u=G7 u:=by unfold Bn;rw [if_pos hk]
   rw [List.filter_cons_of_pos (p:=Bc) hk,List.filter_cons_of_pos (p:=Bm) (Z8 hk),List.map_cons,List.map_cons,ha]
   rcases hr:Ho seq p (G7 u) with _ | _
   ·rw [List.filter_cons_of_neg (by simp [hr]),List.filter_cons_of_neg (by simp [hr])]
    exact ih
   ·rw [List.filter_cons_of_pos hr,List.filter_cons_of_pos hr,ih]
theorem Aen {A B:List Uop} {seq:Int} (p:Int) (h:∀ v∈B,seq≤v.seq):(known (A++B)).filter (Ho seq p)=(known A).filter (Ho seq p):=by
 rw [Ma,List.filter_append]
 have:(known B).filter (Ho seq p)=[]:=by
  rw [List.filter_eq_nil_iff]
  intro a ha
  obtain⟨v,hv,rfl⟩:=List.mem_map.1 ha
  have:=h v (List.mem_filter.1 hv).1
  unfold Ho G7
  simp
  omega
 rw [this,List.append_nil]
theorem Uk {words:List Int} {A B:List Uop} {seq:Int} (m:List Int) (p many:Int) (h:∀ v∈B,seq≤v.seq) :
  (Ee (((A++B).filter Bm).map (Bn words)) m seq p many).1=(Ee (known A) m seq p many).1∧(Ee (((A++B).filter Bm).map (Bn words)) m seq p many).2.1=(Ee (known A) m seq p many).2.1:=
 O6 rfl fun q _ _ _ _=>Rl m (by rw [Sw,Aen q h])
theorem Abg {A:List Uop} (h:A.Pairwise (fun u v=>u.seq<v.seq)):(known A).Pairwise (fun a c=>a.seq≤c.seq):=by
 unfold known
 rw [List.pairwise_map]
 exact(h.sublist List.filter_sublist).imp fun h=>Int.le_of_lt h
end Go.Proofs.YtapgojgcmlnbgacGreat
