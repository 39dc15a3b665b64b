/- Parts of a proof. -/
import Derived.Test.YtapgojgcmlnbgacGreatK00
import Derived.Test.YtapgojgcmlnbgacGreatK03
import Derived.Test.YtapgojgcmlnbgacGreatK01
import Derived.WalkKit
import Derived.Test.YtapgojgcmlnbgacGreatProg
import Derived.WalkLawsBesides
import Derived.WalkSpells
import Derived.Lib.Hide
import Derived.Outline
import Derived.Deep.Cut
import Derived.Deep.RegionWith
import Derived.Deep.RegionLaw
set_option linter.unusedSimpArgs false
set_option linter.unusedVariables false
set_option maxRecDepth 100000
set_option maxHeartbeats 16000000
namespace Go.Proofs.YtapgojgcmlnbgacGreat
open Go.RowKit
def Nm (m:A1) (rd old:Int):A1:=(Ms m rd old).getD A1.zero
theorem Ahc {w:World} {m:A1} {v:Value} (h:Qr w m v) (rd p:Int) (hr0 : -9223372036854775808≤rd) (hr1:rd≤9223372036854775807) (hp0 : -9223372036854775808≤p) (hp1:p≤9223372036854775807) (hfew:m.free.length<17592186044000) :
  Calls Tryz.prog 81 #[v, .int .i64 rd, .int .i64 p] w fun e w'=>∃ v',e = .returned (.tuple #[v', .bool (Ms m rd p).isSome])∧Below w.heap.size w w'∧Mu w' w.heap.size (Nm m rd p) v':=by
 have hv:=h
 have hu:=fun W (hb:Below w.heap.size w W)=>Wg (h.ext hb) p hp0 hp1
 obtain⟨A,cap,rfl,h⟩:=h
 have hs:=D7 (phys:=m.phys) (A:=A) (n:=m.free.length) (cap:=cap) h.len
 have hf:=D4 m.phys m.regs A m.free.length cap h.len
 have hrg:=fun i=>Ek m.phys m.regs A m.free.length cap (i:=i)
 by_cases hok:Gw m p=true∧1≤rd∧rd≤31
 ·obtain⟨k,rfl⟩:=Int.eq_ofNat_of_zero_le (show 0≤rd by omega)
  have hg:Ms m (k:Int) p=some ⟨m.phys,m.regs.set k p,m.regs.getD k 0::m.free⟩:=by unfold Ms;rw [if_pos hok];rfl
  have hgd:Nm m (k:Int) p=⟨m.phys,m.regs.set k p,m.regs.getD k 0::m.free⟩:=by unfold Nm;rw [hg];rfl
  rw [hg,hgd]
  rw [hok.1] at hu
  obtain⟨hot,hr1,hr2⟩:=hok
  simp only [Option.isSome_some]
  have hrk:=hrg k (by rw [h.len];omega)
  obtain⟨cs,hcs⟩:∃ cs,cs=Ag m.phys m.regs A m.free.length cap:=⟨_,rfl⟩
  rw [←hcs] at hs hf hu hrk ⊢
  have hroom:=h.room
  have hlen:=h.len
  have Hcs:=Lib.hid hcs
  have Hu:=Lib.hid hu
  have H1:=Lib.hid h
  obtain⟨n,hn⟩:∃ n,n=m.free.length:=⟨_,rfl⟩
  rw [←hn] at hfew hroom hf
  have Hn:=Lib.hid hn
  have hrw:m.regs.getD k 0∈m.regs:=by
   have:k<m.regs.length:=by omega
   simp [List.getD,List.getElem?_eq_getElem this]
  have hoo:=h.wf _ (List.mem_append_left _ hrw)
  clear hu hg hgd hot hv hcs h hn hrg hrw
  generalize m.regs.getD k 0=old at *
  go_enter Tryz.func81,Tryz.ntmps81
  go_upto_region 1 with(fail)
  go_simp
  refine Au fun wa hq=>?_
  have hb2:Below w.heap.size w wa:=by rw [hq];exact((Below.refl w.heap.size w).alloc (Nat.le_refl _) _).alloc (by simp) _
  have hB:Blk wa w.heap.size 55 cs:=by rw [hq];exact(Blk.new w 55 cs).alloc _
  have hR:Blk wa (w.heap.size+1) 55 (Ag 0 (List.replicate 32 0) none 0 0):=by rw [hq];exact Blk.newAt (w.alloc (.cells cs 55)) 55 _ (by simp)
  clear hq
  go_upto_region 3 with(first
   |(refine Ac rfl 55 _ rfl w.heap.size rfl 55 cs _ hB Tryz.underlying55 rfl hs ?_)
   |(go_at_call 65;(with_reducible refine(Hu.out _ hb2).mono ?_);rintro e w2 ⟨rfl,hb3⟩))
  go_simp
  have hb4:=hb2.trans (hb3.mono hb2.size)
  replace hB:=hB.ext hb3
  replace hR:=hR.ext hb3
  have hA2:Aq w2 w2.heap.size .i64 A m.free:=(H1.out.free.below hb4).mono hb4.size
  have HA2:=Lib.hid hA2
  clear hb2 hb3 hA2
  obtain⟨i0,hi,hz0,hz1,hz2⟩:=info_parts Nx
  refine Ae 11423 288 11711 [0,1,2,3,4,5,7,8,10,11,6,9,12,13,14] (by kernel_rfl) (by kernel_rfl) (by kernel_rfl) rfl ?_
  repeat'(first
   |refine rZ ?_
   |(refine' oR _ (by decide) (by decide) (by decide) (fun wq hwq K hK=>?_) ?_ ?_;rotate_left 1;(· have c33:=(hB.ext hwq).cell 33;rw [hf] at c33;have ck:=(hB.ext hwq).cell (1+k);rw [hrk] at ck;go_wp2_with(fail);all_goals exact hK);rfl)
   |fail)
  refine oB (fun w1 hw1 K1 hK1=>?_)
  have hbw:Below w2.heap.size w2 w1:=by rw [hw1];exact(Below.refl _ _).drew
  replace hb4:=hb4.trans (hbw.mono hb4.size)
  replace hB:=hB.ext hbw
  replace hR:=hR.ext hbw
  replace HA2:Hid (Aq w1 w1.heap.size .i64 A m.free):=Lib.hid ((HA2.out.below hbw).mono hbw.size)
  clear hw1
  have hown1:=World.ownsRow_lit (base:=w1.heap.size) (e:=3) (size:=1) w1 #[.int .i64 old] 1 (Nat.le_refl _) (by unfold maxLen;omega) rfl
  have hz1':=hbw.size
  go_wp2_with(fail)
  refine hK1 _ _ (hbw.alloc hbw.size _) ?_
  simp only [Act.put,sA,sS,sZ]
  clear hK1 K1
  refine oQ rfl rfl ?_
  refine oS (fun wx hwx K1 hK1=>?_)
  subst hwx
  have hnews:=((HA2.out.below ((Below.refl _ w1).alloc (Nat.le_refl _) (.cells #[.int .i64 old] 3))).cells:∀ ad,A=some ad→∀ j u,(m.free.map (Value.int .i64))[j]? = some u→(w1.alloc (.cells #[.int .i64 old] 3)).cell? (ad.add j)=some u)
  refine G3 (.tmp 27) (.tmp 29) 29 rfl w1.heap.size 3 i0 _ 1 8 Tryz.underlying29 hi hz0 hz1 hz2 rfl (by decide) (.slice (some ⟨w1.heap.size,0,none⟩) 1 1) 1 _ rfl hown1 A n cap (m.free.map (.int .i64)) rfl (by simp [Hn.out]) (fun e=>by have:=H1.out.nil e;rw [Hn.out,this.1];exact⟨rfl,this.2⟩) hnews (F0 _) (by unfold maxLen;omega) (by omega) (by simp) ?_
  intro v7 w7 hown7 hg7
  have hB1:=hB.lt
  have hR1:=hR.lt
  replace hB:=(hB.alloc (.cells #[.int .i64 old] 3)).grown hg7 (by simp [Value.ownBlock];omega)
  replace hR:=(hR.alloc (.cells #[.int .i64 old] 3)).grown hg7 (by simp [Value.ownBlock];omega)
  replace hb4:=(hb4.alloc hb4.size (.cells #[.int .i64 old] 3)).grown hg7 (by have:=hb4.size;simp;omega) (fun k hk=>by cases hk;exact hb4.size)
  obtain⟨A7,cap7,rfl,hl7,hn7,hA7,hc7,hg7'⟩:=Fw (l:=old::m.free) (show w7.ownsRow w1.heap.size 3 1 v7 (1+n) ((old::m.free).map (.int .i64)) from hown7)
  have Hg7:=Lib.hid (show ∀ ad,A7=some ad→w.heap.size+1<ad.block from fun ad h=>Nat.lt_of_lt_of_le hR1 (hg7' ad h))
  have Hl7:=Lib.hid hl7
  refine hK1 _ _ (fun _=>True) trivial ?_
  simp only [Act.put,sA,sS,sZ]
  clear hK1 K1 hg7' hg7 hown7 hl7 hnews hown1 hB1 hR1 hbw hz1'
  refine oQ rfl rfl ?_
  refine oS (fun wx hwx K1 hK1=>?_)
  subst hwx
  have ck:=hB.cell (1+k)
  rw [hrk] at ck
  have fk:=hB.frozen (1+k)
  go_wp2_with(fail)
  refine hK1 undef _ (fun _=>True) trivial ?_
  simp only [Act.put,sA,sS,sZ]
  clear hK1 K1 ck fk
  replace hB:=hB.set (1+k) (.int .i64 p)
  replace hb4:=hb4.setCell (p:=⟨w.heap.size,1+k,none⟩) (Nat.le_refl _) (.int .i64 p)
  replace hA7:=hA7.setCell (p:=⟨w.heap.size,1+k,none⟩) (.int .i64 p) (fun ad h=>by have:=Hg7.out ad h;show ad.block≠w.heap.size;omega)
  replace hR:=hR.far (p:=⟨w.heap.size,1+k,none⟩) (Nat.succ_ne_self _) (.int .i64 p)
  refine rO ?_
  refine oS (fun wx hwx K1 hK1=>?_)
  subst hwx
  have ck:=hB.cell 33
  have e33:(cs.setIfInBounds (1+k) (.int .i64 p))[33]? = cs[33]? := Array.getElem?_setIfInBounds_ne (by omega)
  rw [e33,hf] at ck
  have fk:=hB.frozen 33
  go_wp2_with(fail)
  refine hK1 undef _ (fun _=>True) trivial ?_
  simp only [Act.put,sA,sS,sZ]
  clear hK1 K1 ck fk e33
  replace hB:=hB.set 33 (.slice A7 (1+n) cap7)
  replace hb4:=hb4.setCell (p:=⟨w.heap.size,33,none⟩) (Nat.le_refl _) (.slice A7 (1+n) cap7)
  replace hA7:=hA7.setCell (p:=⟨w.heap.size,33,none⟩) (.slice A7 (1+n) cap7) (fun ad h=>by have:=Hg7.out ad h;show ad.block≠w.heap.size;omega)
  replace hR:=hR.far (p:=⟨w.heap.size,33,none⟩) (Nat.succ_ne_self _) (.slice A7 (1+n) cap7)
  have hend:(cs.setIfInBounds (1+k) (.int .i64 p)).setIfInBounds 33 (.slice A7 (1+n) cap7)=Ag m.phys (m.regs.set k p) A7 (1+n) cap7:=by rw [Hcs.out];exact Gm m.phys m.regs _ A7 _ _ _ cap7 k p hlen (by omega)
  rw [hend] at hB
  have hset:(m.regs.set k p).length=32:=by simp [hlen]
  refine Aj ?_
  rintro w9 hw9
  have hz9:wx.heap.size=w9.heap.size:=by rw [hw9];simp
  rw [←hw9] at hB hb4 hA7 hR
  rw [hz9] at hA7
  clear hw9 hend hz9
  have hs9:=D7 (phys:=m.phys) (A:=A7) (n:=1+n) (cap:=cap7) hset
  have h19:=E6 m.phys (m.regs.set k p) A7 (1+n) cap7
  obtain⟨cs9,h9⟩:∃ cs9,cs9=Ag m.phys (m.regs.set k p) A7 (1+n) cap7:=⟨_,rfl⟩
  have Hv9:=Lib.hid h9
  have hsz9:(Ag m.phys (m.regs.set k p) A7 (1+n) cap7).size=(Ag 0 (List.replicate 32 0) none 0 0).size:=by rw [B5 _ _ _ _ _ hset];rfl
  rw [←h9] at hsz9 hs9 h19 hB
  clear h9
  go_wp2_with(first
   |(refine Ac rfl 55 _ rfl w.heap.size rfl 55 cs9 _ hB Tryz.underlying55 rfl hs9 ?_)
   |(refine Ab rfl 55 _ _ rfl (w.heap.size+1) cs9 rfl rfl 55 _ hR hs9 hsz9 h19 ?_;intro wx hBx hgx;have hld:=Fv hBx hs9))
  refine bodyPost_ret (Ed Tryz.results81 rfl rfl hld) rfl ?_
  have hm1:=H1.out
  have hlx:(old::m.free).length=1+n:=by simp [Hn.out];omega
  refine⟨_,rfl,below_grown hb4 hgx hb4.size (Nat.le_succ _),A7,cap7,by rw [Hv9.out];show _=Value.agg (Ag m.phys (m.regs.set k p) A7 (old::m.free).length cap7);rw [hlx],?_,fun ad h=>by have:=Hg7.out ad h;omega⟩
  have hA10:=(hA7.grown (Nat.le_refl _) hgx (fun ad h=>by have:=Hg7.out ad h;omega)).mono hgx.size
  refine⟨hm1.p0,hm1.p1,hset,by show(old::m.free).length≤_;omega,by show(old::m.free).length≤_;omega,hA10,hn7,fun x hx=>?_⟩
  rcases List.mem_append.1 hx with hx | hx
  ·rcases List.mem_or_eq_of_mem_set hx with hx | rfl
   ·exact hm1.wf x (List.mem_append_left _ hx)
   ·exact⟨hp0,hp1⟩
  ·rcases List.mem_cons.1 hx with rfl | hx
   ·exact hoo
   ·exact hm1.wf x (List.mem_append_right _ hx)
 ·have hg:Ms m rd p=none:=by unfold Ms;rw [if_neg hok]
  have Htk:=Lib.hid (show Nm m rd p=A1.zero by unfold Nm;rw [hg];rfl)
  rw [hg]
  have hok':Gw m p=false∨(Gw m p=true∧rd<1)∨(Gw m p=true∧1≤rd∧31<rd):=by
   rcases ho:Gw m p with _ | _
   ·exact Or.inl rfl
   ·by_cases h1:rd<1
    ·exact Or.inr (Or.inl ⟨rfl,h1⟩)
    ·by_cases h2:31<rd
     ·exact Or.inr (Or.inr ⟨rfl,by omega,h2⟩)
     ·exact absurd ⟨ho,by omega,by omega⟩ hok
  generalize Ag m.phys m.regs A m.free.length cap=cs at *
  generalize Gw m p=X at *
  have Hu:=Lib.hid hu
  clear hu hg hok hv h hf hrg
  rcases hok' with rfl | ⟨rfl,h1⟩ | ⟨rfl,h1,h2⟩
  ·
   go_enter Tryz.func81,Tryz.ntmps81
   go_upto_region 1 with(fail)
   go_simp
   refine Au fun wa hq=>?_
   have hb2:Below w.heap.size w wa:=by rw [hq];exact((Below.refl w.heap.size w).alloc (Nat.le_refl _) _).alloc (by simp) _
   have hB:Blk wa w.heap.size 55 cs:=by rw [hq];exact(Blk.new w 55 cs).alloc _
   have hR:Blk wa (w.heap.size+1) 55 (Ag 0 (List.replicate 32 0) none 0 0):=by rw [hq];exact Blk.newAt (w.alloc (.cells cs 55)) 55 _ (by simp)
   clear hq
   go_wp2_with(first
    |(refine Ac rfl 55 _ rfl w.heap.size rfl 55 cs _ hB Tryz.underlying55 rfl hs ?_)
    |(go_at_call 65;(with_reducible refine(Hu.out _ hb2).mono ?_);rintro e w2 ⟨rfl,hb3⟩;have hR2:=hR.ext hb3)
    |(refine Ao rfl 55 _ rfl [] rfl _ G8 ?_)
    |(refine Ab rfl 55 _ _ rfl (w.heap.size+1) (Ag 0 (List.replicate 32 0) none 0 0) rfl rfl 55 _ hR2 Ec rfl (E6 _ _ _ _ _) ?_;intro w5 hB5 hg5;have hld:=Fv hB5 Ec))
   refine bodyPost_ret (Ed Tryz.results81 rfl rfl hld) rfl ?_
   rw [Htk.out]
   exact⟨_,rfl,below_grown (hb2.trans (hb3.mono hb2.size)) hg5 (Nat.le_trans hb2.size hb3.size) (Nat.le_succ _),Mu.zero _ _⟩
  ·
   go_enter Tryz.func81,Tryz.ntmps81
   go_upto_region 1 with(fail)
   go_simp
   refine Au fun wa hq=>?_
   have hb2:Below w.heap.size w wa:=by rw [hq];exact((Below.refl w.heap.size w).alloc (Nat.le_refl _) _).alloc (by simp) _
   have hB:Blk wa w.heap.size 55 cs:=by rw [hq];exact(Blk.new w 55 cs).alloc _
   have hR:Blk wa (w.heap.size+1) 55 (Ag 0 (List.replicate 32 0) none 0 0):=by rw [hq];exact Blk.newAt (w.alloc (.cells cs 55)) 55 _ (by simp)
   clear hq
   go_wp2_with(first
    |(refine Ac rfl 55 _ rfl w.heap.size rfl 55 cs _ hB Tryz.underlying55 rfl hs ?_)
    |(go_at_call 65;(with_reducible refine(Hu.out _ hb2).mono ?_);rintro e w2 ⟨rfl,hb3⟩;have hR2:=hR.ext hb3)
    |(refine Ao rfl 55 _ rfl [] rfl _ G8 ?_)
    |(refine Ab rfl 55 _ _ rfl (w.heap.size+1) (Ag 0 (List.replicate 32 0) none 0 0) rfl rfl 55 _ hR2 Ec rfl (E6 _ _ _ _ _) ?_;intro w5 hB5 hg5;have hld:=Fv hB5 Ec))
   refine bodyPost_ret (Ed Tryz.results81 rfl rfl hld) rfl ?_
   rw [Htk.out]
   exact⟨_,rfl,below_grown (hb2.trans (hb3.mono hb2.size)) hg5 (Nat.le_trans hb2.size hb3.size) (Nat.le_succ _),Mu.zero _ _⟩
  ·
   go_enter Tryz.func81,Tryz.ntmps81
   go_upto_region 1 with(fail)
   go_simp
   refine Au fun wa hq=>?_
   have hb2:Below w.heap.size w wa:=by rw [hq];exact((Below.refl w.heap.size w).alloc (Nat.le_refl _) _).alloc (by simp) _
   have hB:Blk wa w.heap.size 55 cs:=by rw [hq];exact(Blk.new w 55 cs).alloc _
   have hR:Blk wa (w.heap.size+1) 55 (Ag 0 (List.replicate 32 0) none 0 0):=by rw [hq];exact Blk.newAt (w.alloc (.cells cs 55)) 55 _ (by simp)
   clear hq
   go_wp2_with(first
    |(refine Ac rfl 55 _ rfl w.heap.size rfl 55 cs _ hB Tryz.underlying55 rfl hs ?_)
    |(go_at_call 65;(with_reducible refine(Hu.out _ hb2).mono ?_);rintro e w2 ⟨rfl,hb3⟩;have hR2:=hR.ext hb3)
    |(refine Ao rfl 55 _ rfl [] rfl _ G8 ?_)
    |(refine Ab rfl 55 _ _ rfl (w.heap.size+1) (Ag 0 (List.replicate 32 0) none 0 0) rfl rfl 55 _ hR2 Ec rfl (E6 _ _ _ _ _) ?_;intro w5 hB5 hg5;have hld:=Fv hB5 Ec))
   refine bodyPost_ret (Ed Tryz.results81 rfl rfl hld) rfl ?_
   rw [Htk.out]
   exact⟨_,rfl,below_grown (hb2.trans (hb3.mono hb2.size)) hg5 (Nat.le_trans hb2.size hb3.size) (Nat.le_succ _),Mu.zero _ _⟩
end Go.Proofs.YtapgojgcmlnbgacGreat
namespace Go.Proofs.YtapgojgcmlnbgacGreat
open Go
def Dr:Nat→Al→List Int→List Com×Al×List Int
 |0,h,m=>([],h,m)
 |n+1,h,m=>if h.state=0 then (Kt h m::(Dr n (goH h m) (goM h m)).1,(Dr n (goH h m) (goM h m)).2) else ([],h,m)
theorem Ll {h:Al} (hs:h.state≠0) (m:List Int):∀ n,Dr n h m=([],h,m)
 |0=>rfl
 |n+1=>by unfold Dr;rw [if_neg hs]
theorem Gq {h:Al} (hs:h.state=0) (m:List Int) (n:Nat):Dr (n+1) h m=(Kt h m::(Dr n (goH h m) (goM h m)).1,(Dr n (goH h m) (goM h m)).2):=by
 conv=>lhs;unfold Dr
 rw [if_pos hs]
theorem Z1 (a b:Nat):∀ (h:Al) (m:List Int),Dr (a+b) h m=((Dr a h m).1++(Dr b (Dr a h m).2.1 (Dr a h m).2.2).1,(Dr b (Dr a h m).2.1 (Dr a h m).2.2).2):=by
 induction a with
 |zero=>intro h m;simp [Dr]
 |succ a ih=>
  intro h m
  rw [show a+1+b=(a+b)+1 by omega]
  by_cases hs:h.state=0
  ·rw [Gq hs,Gq hs,ih]
   rfl
  ·rw [Ll hs,Ll hs,Ll hs]
   rfl
structure Ri (h:Al) (m:List Int):Prop where
 hart:h.Wf
 may:Ir h=true
 bytes:Bytes m
theorem Ri.next {h:Al} {m:List Int} (k:Ri h m):Ri (goH h m) (goM h m):=
 ⟨No (Sj k.hart k.bytes) k.hart,Sz (Sj k.hart k.bytes) k.may,Pn k.bytes⟩
theorem Aa9 (h:Al) (m:List Int):(goM h m).length=m.length:=I7 _ _
theorem Xi:∀ (n:Nat) {h:Al} {m:List Int},Ri h m→Ri (Dr n h m).2.1 (Dr n h m).2.2∧(Dr n h m).2.2.length=m.length∧(∀ c∈(Dr n h m).1,c.Wf∧c.Fits m.length)∧(Dr n h m).1.length≤n∧((Dr n h m).1.length=n∨(Dr n h m).2.1.state≠0)
 |0,_,_,k=>⟨k,rfl,fun c hc=>(by cases hc),Nat.le_refl _,Or.inl rfl⟩
 |n+1,h,m,k=>by
  by_cases hs:h.state=0
  ·rw [Gq hs]
   obtain⟨h1,h2,h3,h4,h5⟩:=Xi n k.next
   rw [Aa9] at h2 h3
   refine⟨h1,h2,fun c hc=>?_,by simpa using h4,by simpa using h5⟩
   rcases List.mem_cons.1 hc with rfl | hc
   ·exact⟨Sj k.hart k.bytes,Vo _ _⟩
   ·exact h3 c hc
  ·rw [Ll hs]
   exact⟨k,rfl,fun c hc=>(by cases hc),Nat.zero_le _,Or.inr hs⟩
structure Slt where
 seq:Int
 done:Bool
 deriving DecidableEq
instance:Inhabited Slt:=⟨⟨0,false⟩⟩
def Db {α:Type} (p:α→Bool):List α→Int→Int
 |[],_ => -1
 |x::l,k=>if p x=true then k else Db p l (k+1)
theorem E9 {α:Type} (p:α→Bool):∀ (l:List α) (k:Nat),(Db p l k = -1∧∀ x∈l,p x=false)∨(∃ j x,Db p l k=((k+j:Nat):Int)∧l[j]? = some x∧p x=true∧∀ i y,i<j→l[i]? = some y→p y=false)
 |[],k=>Or.inl ⟨rfl,fun x hx=>by cases hx⟩
 |x::l,k=>by
  unfold Db
  rcases hp:p x with _ | _
  ·rw [if_neg (by simp)]
   rcases E9 p l (k+1) with⟨h1,h2⟩ | ⟨j,y,h1,h2,h3,h4⟩
   ·left
    refine⟨by simpa using h1,fun y hy=>?_⟩
    rcases List.mem_cons.1 hy with rfl | hy
    ·exact hp
    ·exact h2 y hy
   ·right
    refine⟨j+1,y,?_,h2,h3,fun i z hi hz=>?_⟩
    ·rw [show((k:Int)+1)=((k+1:Nat):Int) by omega,h1];congr 1;omega
    ·cases i with
     |zero=>simp at hz;subst hz;exact hp
     |succ i=>exact h4 i z (by omega) (by simpa using hz)
  ·rw [if_pos rfl]
   exact Or.inr ⟨0,x,by simp,rfl,hp,fun i y hi=>by omega⟩
def Jg (l:List Slt) (room seq:Int):Option (List Slt):=if room≤l.length∨(l.any fun s=>decide (seq≤s.seq))=true then none else some (l++[⟨seq,false⟩])
def It:List Slt→Int→Option (List Slt)
 |[],_=>none
 |s::l,seq=>if s=⟨seq,false⟩ then some (⟨seq,true⟩::l) else (It l seq).map (s::·)
def Dx:List Slt→Int→Nat
 |[],_=>0
 |s::l,most=>if 0<most∧s.done=true then 1+Dx l (most - 1) else 0
def Mx (l:List Slt) (seq:Int):List Slt:=l.filter fun s=>decide (s.seq<seq)
def Lc (l:List Slt) (seq:Int):List Int:=((l.filter fun s=>decide (seq≤s.seq)).map (·.seq)).reverse
theorem Ad3 (l:List Slt) (seq:Int):It l seq=(if Db (fun s=>decide (s=⟨seq,false⟩)) l 0<0 then none else some (l.set (Db (fun s=>decide (s=⟨seq,false⟩)) l 0).toNat ⟨seq,true⟩)):=by
 have key:∀ (l:List Slt),(∀ x∈l,decide (x=(⟨seq,false⟩:Slt))=false)→It l seq=none:=by
  intro l
  induction l with
  |nil=>intro _;rfl
  |cons x l ih=>
   intro h
   unfold It
   have hx:=of_decide_eq_false (h x (by simp))
   rw [if_neg hx,ih fun y hy=>h y (by simp [hy])]
   rfl
 have key2:∀ (l:List Slt) (j:Nat) (x:Slt),l[j]? = some x→x=⟨seq,false⟩→(∀ i y,i<j→l[i]? = some y→y≠⟨seq,false⟩)→It l seq=some (l.set j ⟨seq,true⟩):=by
  intro l
  induction l with
  |nil=>intro j x h;cases h
  |cons y l ih=>
   intro j x h1 h2 h3
   unfold It
   cases j with
   |zero=>
    simp at h1
    subst h1
    rw [if_pos h2]
    rfl
   |succ j=>
    rw [if_neg (h3 0 y (by omega) rfl),ih j x (by simpa using h1) h2 fun i z hi hz=>h3 (i+1) z (by omega) (by simpa using hz)]
    rfl
 rcases E9 (fun s=>decide (s=(⟨seq,false⟩:Slt))) l 0 with⟨h1,h2⟩ | ⟨j,x,h1,h2,h3,h4⟩
 ·have h1':Db (fun s=>decide (s=(⟨seq,false⟩:Slt))) l 0 = -1:=h1
  rw [h1',if_pos (by omega),key l h2]
 ·have h1':Db (fun s=>decide (s=(⟨seq,false⟩:Slt))) l 0=j:=by simpa using h1
  rw [h1',if_neg (by omega)]
  exact key2 l j x h2 (of_decide_eq_true h3) fun i y hi hy=>of_decide_eq_false (h4 i y hi hy)
theorem Ac0:∀ (l:List Slt) (most:Int),Dx l most≤l.length
 |[],_=>Nat.le_refl _
 |s::l,most=>by
  unfold Dx
  split
  ·have:=Ac0 l (most - 1)
   simp;omega
  ·exact Nat.zero_le _
theorem N1:∀ (l:List Slt) (most:Int),0≤most→(Dx l most:Int)≤most
 |[],_,h=>h
 |s::l,most,h=>by
  unfold Dx
  split
  ·have:=N1 l (most - 1) (by omega)
   omega
  ·exact h
theorem Agw (l:List Slt) {most:Int} (h:most≤0):Dx l most=0:=by
 cases l with
 |nil=>rfl
 |cons s l=>unfold Dx;rw [if_neg (by omega)]
theorem Aay (l:List Slt) (seq:Int):(Mx l seq).length+(Lc l seq).length=l.length:=by
 unfold Mx Lc
 induction l with
 |nil=>rfl
 |cons s l ih=>
  simp only [List.length_reverse,List.length_map] at ih ⊢
  by_cases h:s.seq<seq
  ·rw [List.filter_cons_of_pos (by simpa using h),List.filter_cons_of_neg (by simp;omega)]
   simp;omega
  ·rw [List.filter_cons_of_neg (by simpa using h),List.filter_cons_of_pos (by simp;omega)]
   simp;omega
structure Rh (l:List Slt) (last next:Int):Prop where
 rise:(l.map (·.seq)).Pairwise (· < ·)
 lo:∀ s∈l,last<s.seq
 hi:∀ s∈l,s.seq<next
theorem Rh.pushOk {l:List Slt} {last next:Int} (h:Rh l last next) (room:Int):Jg l room next=if room≤l.length then none else some (l++[⟨next,false⟩]):=by
 have ha:(l.any fun s=>decide (next≤s.seq))=false:=by
  rw [List.any_eq_false]
  intro s hs
  have:=h.hi s hs
  simp;omega
 unfold Jg
 rw [ha]
 simp
theorem Rh.seqs {l l':List Slt} {last next:Int} (h:Rh l last next) (hm:l'.map (·.seq)=l.map (·.seq)):Rh l' last next:=by
 have key:∀ s∈l',∃ t∈l,t.seq=s.seq:=fun s hs=>by
  have:s.seq∈l.map (·.seq):=by rw [←hm];exact List.mem_map_of_mem hs
  exact List.mem_map.1 this
 refine⟨by rw [hm];exact h.rise,fun s hs=>?_,fun s hs=>?_⟩
 ·obtain⟨t,ht,he⟩:=key s hs
  rw [←he];exact h.lo t ht
 ·obtain⟨t,ht,he⟩:=key s hs
  rw [←he];exact h.hi t ht
theorem Rh.sub {l l':List Slt} {last next:Int} (h:Rh l last next) (hs:l'.Sublist l):Rh l' last next:=
 ⟨h.rise.sublist (hs.map _),fun s m=>h.lo s (hs.subset m),fun s m=>h.hi s (hs.subset m)⟩
end Go.Proofs.YtapgojgcmlnbgacGreat
namespace Go.Proofs.YtapgojgcmlnbgacGreat
def Gy (m:Int):Int:=min (max m 0) 4
theorem Zk (m:Int):0≤Gy m:=by unfold Gy;omega
theorem P9 (m:Int):Gy m≤4:=by unfold Gy;omega
def hasB (a:Acc) (p:Int):Bool:=decide (a.at_≤p)&&decide (p<a.at_+Gy a.many)&&decide (p<4294967296)
def Fi (s a:Acc):Nat→Bool
 |0=>false
 |n+1=>(hasB s (s.at_+(4 - (n+1:Nat)))&&hasB a (s.at_+(4 - (n+1:Nat)))) || Fi s a n
def Qa (s a:Acc):Bool:=Fi s a 4
theorem Vd (s a:Acc) (k:Nat) (hk:k<4):Fi s a (4 - k)=((hasB s (s.at_+k)&&hasB a (s.at_+k)) || Fi s a (4 - (k+1))):=by
 obtain⟨n,hn⟩:∃ n,4 - k=n+1:=⟨3 - k,by omega⟩
 have e:((4:Int) - ((n+1:Nat):Int))=(k:Int):=by omega
 rw [hn,show 4 - (k+1)=n from by omega,Fi,e]
theorem Xa (s a:Acc) (k:Nat) (hk:Gy s.many≤k):Fi s a (4 - k)=false:=by
 obtain⟨n,hn⟩:∃ n,n=4 - k:=⟨_,rfl⟩
 have hn':4≤n+k:=by omega
 clear hn
 rw [show 4 - k=4 - k from rfl]
 generalize hm:4 - k=m
 have hm4:m≤4 - k:=by omega
 clear hm
 induction m with
 |zero=>rfl
 |succ m ih=>
  rw [Fi,ih (by omega)]
  have:hasB s (s.at_+(4 - ((m+1:Nat):Int)))=false:=by
   unfold hasB
   rw [decide_eq_false (p:=s.at_+(4 - ((m+1:Nat):Int))<s.at_+Gy s.many) (by omega),Bool.and_false,Bool.false_and]
  rw [this]
  rfl
def Fo (s:Acc) (x:Int×Bool) (a:Acc):Int×Bool:=
 if !a.store&&a.known&&a.done&&decide (s.seq<a.seq)&&Qa s a&&(!x.2 || decide (a.seq<x.1)) then (a.seq,true) else x
def Ja (seq:Int) (s:Acc):Bool:=s.store&&s.known&&decide (s.seq=seq)
def Iq (l:List Acc) (seq:Int):List Acc→Int×Bool
 |[]=>(0,false)
 |s::r=>if Ja seq s then l.foldl (Fo s) (0,false) else Iq l seq r
def I3 (l:List Acc) (seq:Int):Int×Bool:=Iq l seq l
def Lh (a:Acc):Option Acc→Bool
 |none=>true
 |some c=>decide (c.seq≤a.seq)
def Cx (seq p:Int) (b:Option Acc) (a:Acc):Option Acc:=
 if a.store&&a.known&&decide (a.seq<seq)&&hasB a p&&Lh a b then some a else b
def Qy (a:Acc) (p:Int):Int:=a.data / ((2 ^ (8*(p - a.at_).toNat):Nat):Int)%256
def byteOf (m:List Int) (p:Int):Option Acc→Int
 |some a=>Qy a p
 |none=>m.getD p.toNat 0
def Dj (l:List Acc) (m:List Int) (seq p:Int):Int:=byteOf m p (l.foldl (Cx seq p) none)
def Fy (seq:Int) (s:Bool) (a:Acc):Bool:=s&&(!a.store || decide (seq≤a.seq) || a.known)
def Ur (l:List Acc) (seq:Int):Bool:=l.foldl (Fy seq) true
def O7 (l:List Acc) (m:List Int) (seq p many:Int):Int:=
 if many=1 then Dj l m seq p
 else if many=2 then Dj l m seq p+256*Dj l m seq (p+1)
 else Dj l m seq p+256*Dj l m seq (p+1)+65536*Dj l m seq (p+2)+16777216*Dj l m seq (p+3)
def Gu (m:List Int) (p many:Int):Bool:=(decide (many=1) || decide (many=2) || decide (many=4))&&Bv m.length p many
def Ee (l:List Acc) (m:List Int) (seq p many:Int):Int×Bool×Bool:=
 if Gu m p many then (O7 l m seq p many,true,Ur l seq) else (0,false,false)
theorem U4 (a:Acc) (p:Int) (h0:0≤a.data):0≤Qy a p∧Qy a p≤255:=by
 unfold Qy
 have:0≤a.data / ((2 ^ (8*(p - a.at_).toNat):Nat):Int):=Int.ediv_nonneg h0 (Int.natCast_nonneg _)
 omega
theorem Afu {l:List Acc} {seq p:Int}:∀ {b:Option Acc} {c:Acc},l.foldl (Cx seq p) b=some c→c∈l∨b=some c:=by
 induction l with
 |nil=>intro b c h;exact .inr h
 |cons a l ih=>
  intro b c h
  rw [List.foldl_cons] at h
  rcases ih h with h1 | h1
  ·exact .inl (List.mem_cons_of_mem _ h1)
  ·unfold Cx at h1
   split at h1
   ·injection h1 with h1
    subst h1
    exact .inl List.mem_cons_self
   ·exact .inr h1
theorem Fq {l:List Acc} {m:List Int} (hw:∀ a∈l,a.Wf) (hb:Bytes m) (seq p:Int):0≤Dj l m seq p∧Dj l m seq p≤255:=by
 unfold Dj
 cases h:l.foldl (Cx seq p) none with
 |none=>exact hb.getD _
 |some a=>
  rcases Afu h with h1 | h1
  ·exact U4 a p (hw a h1).data0
  ·cases h1
end Go.Proofs.YtapgojgcmlnbgacGreat
namespace Go.Proofs.YtapgojgcmlnbgacGreat
open Go Go.RowKit
def Ct (n:Int):Int:=if n<0 then 0 else if 3<n then 3 else n
theorem Kd (n:Int):0≤Ct n∧Ct n≤3:=by unfold Ct;(repeat' split)<;>omega
def Aab (a b:Int):Int:=(a+b)%4294967296
def Ab8 (a b:Int):Int:=(a - b)%4294967296
structure Cnt where
 lv:Int
 tg:Int
structure Vl where
 pc:Int
 last:Int
 stride:Int
 sure:Int
structure Cnt.Wf (c:Cnt):Prop where
 l0 : -9223372036854775808≤c.lv
 l1:c.lv≤9223372036854775807
 t0:0≤c.tg
 t1:c.tg≤4294967295
structure Vl.Wf (c:Vl):Prop where
 p0:0≤c.pc
 p1:c.pc≤4294967295
 l0:0≤c.last
 l1:c.last≤4294967295
 s0:0≤c.stride
 s1:c.stride≤4294967295
 u0 : -9223372036854775808≤c.sure
 u1:c.sure≤9223372036854775807
structure Xv (cs:Array Value) (k:Nat) (c:Cnt):Prop where
 c0:cs[k*2]? = some (.int .i64 c.lv)
 c1:cs[k*2+1]? = some (.int .u32 c.tg)
structure Wp (cs:Array Value) (k:Nat) (v:Vl):Prop where
 c0:cs[32+k*4]? = some (.int .u32 v.pc)
 c1:cs[32+k*4+1]? = some (.int .u32 v.last)
 c2:cs[32+k*4+2]? = some (.int .u32 v.stride)
 c3:cs[32+k*4+3]? = some (.int .i64 v.sure)
structure Fe (cs:Array Value):Prop where
 size:cs.size=64
 cnt:∀ k,k<16→∃ c:Cnt,c.Wf∧Xv cs k c
 vl:∀ k,k<8→∃ v:Vl,v.Wf∧Wp cs k v
def setCnt (cs:Array Value) (k:Nat) (c:Cnt):Array Value:=(cs.setIfInBounds (k*2) (.int .i64 c.lv)).setIfInBounds (k*2+1) (.int .u32 c.tg)
def setVl (cs:Array Value) (k:Nat) (v:Vl):Array Value:=
 (((cs.setIfInBounds (32+k*4) (.int .u32 v.pc)).setIfInBounds (32+k*4+1) (.int .u32 v.last)).setIfInBounds (32+k*4+2) (.int .u32 v.stride)).setIfInBounds (32+k*4+3) (.int .i64 v.sure)
def T0 (c:Cnt) (taken:Bool) (target:Int):Cnt:=if taken=true then ⟨Ct (Ct c.lv+1),target⟩ else ⟨Ct (Ct c.lv - 1),c.tg⟩
def Mb (v:Vl) (pc n:Int):Vl:=
 if v.pc≠pc then ⟨pc,n,0,0⟩
 else if n=Aab v.last v.stride then ⟨v.pc,n,v.stride,Ct (Ct v.sure+1)⟩
 else ⟨v.pc,n,Ab8 n v.last,0⟩
def Pq (pc:Int):Nat:=(pc / 4%16).toNat
def vlK (pc:Int):Nat:=(pc / 4%8).toNat
theorem Im (cs:Array Value) (i j:Nat) (v:Value):(cs.setIfInBounds i v)[j]? = if i=j∧i<cs.size then some v else cs[j]? := by
 rw [Array.getElem?_setIfInBounds]
 by_cases h:i=j
 ·subst h
  by_cases h2:i<cs.size
  ·simp [h2]
  ·simp [h2]
 ·simp [h]
theorem Mh (cs:Array Value) (k:Nat) (c:Cnt) (hs:cs.size=64) (hk:k<16) (j:Nat) :
  (setCnt cs k c)[j]? = if j=k*2 then some (.int .i64 c.lv) else if j=k*2+1 then some (.int .u32 c.tg) else cs[j]? := by
 unfold setCnt
 simp only [Im,Array.size_setIfInBounds,hs]
 (repeat' split)<;>first | rfl | omega
theorem Lm (cs:Array Value) (k:Nat) (v:Vl) (hs:cs.size=64) (hk:k<8) (j:Nat) :
  (setVl cs k v)[j]? = if j=32+k*4 then some (.int .u32 v.pc) else if j=32+k*4+1 then some (.int .u32 v.last) else if j=32+k*4+2 then some (.int .u32 v.stride) else if j=32+k*4+3 then some (.int .i64 v.sure) else cs[j]? := by
 unfold setVl
 simp only [Im,Array.size_setIfInBounds,hs]
 (repeat' split)<;>first | rfl | omega
theorem Z3 (cs:Array Value) (k:Nat) (c:Cnt):(setCnt cs k c).size=cs.size:=by simp [setCnt]
theorem Ab1 (cs:Array Value) (k:Nat) (v:Vl):(setVl cs k v).size=cs.size:=by simp [setVl]
theorem Ae6 (cs:Array Value) (k:Nat) (c:Cnt) (hs:cs.size=64) (hk:k<16):Xv (setCnt cs k c) k c:=by
 constructor<;>rw [Mh cs k c hs hk]<;>simp
theorem Z4 (cs:Array Value) (k:Nat) (v:Vl) (hs:cs.size=64) (hk:k<8):Wp (setVl cs k v) k v:=by
 constructor<;>rw [Lm cs k v hs hk]<;>simp
theorem Fe.setCnt {cs:Array Value} (h:Fe cs) {k:Nat} (hk:k<16) {c:Cnt} (hc:c.Wf):Fe (setCnt cs k c):=by
 refine⟨by rw [Z3,h.size],fun j hj=>?_,fun j hj=>?_⟩
 ·by_cases e:j=k
  ·subst e
   exact⟨c,hc,Ae6 cs j c h.size hk⟩
  ·obtain⟨d,hd,h0,h1⟩:=h.cnt j hj
   refine⟨d,hd,?_,?_⟩<;>rw [Mh cs k c h.size hk,if_neg (by omega),if_neg (by omega)]<;>assumption
 ·obtain⟨d,hd,h0,h1,h2,h3⟩:=h.vl j hj
  refine⟨d,hd,?_,?_,?_,?_⟩<;>rw [Mh cs k c h.size hk,if_neg (by omega),if_neg (by omega)]<;>assumption
theorem Fe.setVl {cs:Array Value} (h:Fe cs) {k:Nat} (hk:k<8) {v:Vl} (hv:v.Wf):Fe (setVl cs k v):=by
 refine⟨by rw [Ab1,h.size],fun j hj=>?_,fun j hj=>?_⟩
 ·obtain⟨d,hd,h0,h1⟩:=h.cnt j hj
  refine⟨d,hd,?_,?_⟩<;>rw [Lm cs k v h.size hk,if_neg (by omega),if_neg (by omega),if_neg (by omega),if_neg (by omega)]<;>assumption
 ·by_cases e:j=k
  ·subst e
   exact⟨v,hv,Z4 cs j v h.size hk⟩
  ·obtain⟨d,hd,h0,h1,h2,h3⟩:=h.vl j hj
   refine⟨d,hd,?_,?_,?_,?_⟩<;>rw [Lm cs k v h.size hk,if_neg (by omega),if_neg (by omega),if_neg (by omega),if_neg (by omega)]<;>assumption
theorem Wd {c:Cnt} (h:c.Wf) (taken:Bool) {target:Int} (t0:0≤target) (t1:target≤4294967295):(T0 c taken target).Wf:=by
 have a:=Kd (Ct c.lv+1)
 have b:=Kd (Ct c.lv - 1)
 unfold T0
 split
 ·exact⟨by show _≤Ct _;omega,by show Ct _≤_;omega,t0,t1⟩
 ·exact⟨by show _≤Ct _;omega,by show Ct _≤_;omega,h.t0,h.t1⟩
theorem Nz {v:Vl} (h:v.Wf) {pc n:Int} (p0:0≤pc) (p1:pc≤4294967295) (n0:0≤n) (n1:n≤4294967295):(Mb v pc n).Wf:=by
 have a:=Kd (Ct v.sure+1)
 have b0:0≤Ab8 n v.last:=by unfold Ab8;omega
 have b1:Ab8 n v.last≤4294967295:=by unfold Ab8;omega
 unfold Mb
 split
 ·exact⟨p0,p1,n0,n1,by show(0:Int)≤0;omega,by show(0:Int)≤_;omega,by show _≤(0:Int);omega,by show(0:Int)≤_;omega⟩
 split
 ·exact⟨h.p0,h.p1,n0,n1,h.s0,h.s1,by show _≤Ct _;omega,by show Ct _≤_;omega⟩
 ·exact⟨h.p0,h.p1,n0,n1,b0,b1,by show _≤(0:Int);omega,by show(0:Int)≤_;omega⟩
def Gl (cs:Array Value) (c:Cnt) (pc:Int) (taken:Bool) (target:Int):Array Value:=setCnt cs (Pq pc) (T0 c taken target)
def Em (cs:Array Value) (v:Vl) (pc n:Int):Array Value:=setVl cs (vlK pc) (Mb v pc n)
def K4 (v:Vl) (pc:Int):Int×Bool:=if v.pc=pc∧2≤v.sure then (Aab v.last v.stride,true) else (0,false)
theorem Pr (pc:Int):Pq pc<16:=by unfold Pq;omega
theorem Ml (pc:Int):vlK pc<8:=by unfold vlK;omega
theorem Ahj (pc:Int):((Pq pc:Nat):Int)=pc / 4%16:=by unfold Pq;omega
theorem Ajn (pc:Int):((vlK pc:Nat):Int)=pc / 4%8:=by unfold vlK;omega
theorem Afi (cs:Array Value) (k:Nat) (v:Vl) (hs:cs.size=64) (hk:k<8):splice cs (32+k*4) [.int .u32 v.pc, .int .u32 v.last, .int .u32 v.stride, .int .i64 v.sure]=setVl cs k v:=by
 apply Array.ext_getElem?
 intro j
 rw [Lm cs k v hs hk,Fa _ _ _ (by simp;omega)]
 simp only [List.length_cons,List.length_nil]
 by_cases h0:j<32+k*4
 ·rw [if_pos h0,if_neg (by omega),if_neg (by omega),if_neg (by omega),if_neg (by omega)]
 rw [if_neg h0]
 by_cases h1:j<32+k*4+(0+1+1+1+1)
 ·rw [if_pos h1]
  rcases(by omega:j=32+k*4∨j=32+k*4+1∨j=32+k*4+2∨j=32+k*4+3) with e | e | e | e
  ·rw [if_pos e,show j - (32+k*4)=0 by omega];rfl
  ·rw [if_neg (by omega),if_pos e,show j - (32+k*4)=1 by omega];rfl
  ·rw [if_neg (by omega),if_neg (by omega),if_pos e,show j - (32+k*4)=2 by omega];rfl
  ·rw [if_neg (by omega),if_neg (by omega),if_neg (by omega),if_pos e,show j - (32+k*4)=3 by omega];rfl
 ·rw [if_neg h1,if_neg (by omega),if_neg (by omega),if_neg (by omega),if_neg (by omega)]
theorem Ahd (cs D:Array Value) (k:Nat) (v:Vl) (hs:cs.size=64) (hk:k<8) (hD:∀ j,j≠32+k*4→j≠32+k*4+1→j≠32+k*4+2→j≠32+k*4+3→D[j]? = cs[j]?) (hv:Wp D k v):D=setVl cs k v:=by
 apply Array.ext_getElem?
 intro j
 rw [Lm cs k v hs hk]
 by_cases e0:j=32+k*4
 ·rw [if_pos e0,e0];exact hv.c0
 rw [if_neg e0]
 by_cases e1:j=32+k*4+1
 ·rw [if_pos e1,e1];exact hv.c1
 rw [if_neg e1]
 by_cases e2:j=32+k*4+2
 ·rw [if_pos e2,e2];exact hv.c2
 rw [if_neg e2]
 by_cases e3:j=32+k*4+3
 ·rw [if_pos e3,e3];exact hv.c3
 rw [if_neg e3]
 exact hD j e0 e1 e2 e3
def G2:List (Option IntKind):=(List.replicate 16 [some .i64,some .u32]).flatten++(List.replicate 8 [some .u32,some .u32,some .u32,some .i64]).flatten
theorem wf_i64 {n:Int} (h0 : -9223372036854775808≤n) (h1:n≤9223372036854775807):(Lit.int .i64 n).wf=true:=by simp only [Lit.wf,Bool.and_eq_true,decide_eq_true_eq];exact⟨h0,h1⟩
theorem wf_u32 {n:Int} (h0:0≤n) (h1:n≤4294967295):(Lit.int .u32 n).wf=true:=by simp only [Lit.wf,Bool.and_eq_true,decide_eq_true_eq];exact⟨h0,h1⟩
theorem Xm:∀ k:Nat,k<16→G2[k*2]? = some (some .i64)∧G2[k*2+1]? = some (some .u32):=by decide
theorem Aac:∀ k:Nat,k<8→G2[32+k*4]? = some (some .u32)∧G2[32+k*4+1]? = some (some .u32)∧G2[32+k*4+2]? = some (some .u32)∧G2[32+k*4+3]? = some (some .i64):=by decide
theorem Fe.fits {cs:Array Value} (h:Fe cs):Fits G2 cs.toList:=by
 refine Fits.mk (by simp [h.size];rfl) fun i k v hk hv=>?_
 rw [Array.getElem?_toList] at hv
 have hi:i<64:=by rw [←h.size];exact(Array.getElem?_eq_some_iff.1 hv).1
 by_cases h32:i<32
 ·obtain⟨c,wc,c0,c1⟩:=h.cnt (i / 2) (by omega)
  obtain⟨t0,t1⟩:=Xm (i / 2) (by omega)
  rcases(by omega:i=i / 2*2∨i=i / 2*2+1) with e | e
  ·rw [←e] at c0 t0
   rw [c0] at hv;rw [t0] at hk;cases hv;cases hk
   exact⟨_,rfl,wf_i64 wc.l0 wc.l1⟩
  ·rw [←e] at c1 t1
   rw [c1] at hv;rw [t1] at hk;cases hv;cases hk
   exact⟨_,rfl,wf_u32 wc.t0 wc.t1⟩
 ·obtain⟨c,wc,c0,c1,c2,c3⟩:=h.vl ((i - 32) / 4) (by omega)
  obtain⟨t0,t1,t2,t3⟩:=Aac ((i - 32) / 4) (by omega)
  rcases(by omega:i=32+(i - 32) / 4*4∨i=32+(i - 32) / 4*4+1∨i=32+(i - 32) / 4*4+2∨i=32+(i - 32) / 4*4+3) with e | e | e | e
  ·rw [←e] at c0 t0
   rw [c0] at hv;rw [t0] at hk;cases hv;cases hk
   exact⟨_,rfl,wf_u32 wc.p0 wc.p1⟩
  ·rw [←e] at c1 t1
   rw [c1] at hv;rw [t1] at hk;cases hv;cases hk
   exact⟨_,rfl,wf_u32 wc.l0 wc.l1⟩
  ·rw [←e] at c2 t2
   rw [c2] at hv;rw [t2] at hk;cases hv;cases hk
   exact⟨_,rfl,wf_u32 wc.s0 wc.s1⟩
  ·rw [←e] at c3 t3
   rw [c3] at hv;rw [t3] at hk;cases hv;cases hk
   exact⟨_,rfl,wf_i64 wc.u0 wc.u1⟩
theorem Fe.one {cs:Array Value} (h:Fe cs):cs.all (·.oneCell')=true:=by
 rw [Array.all_eq_true_iff_forall_mem]
 intro v hv
 obtain⟨i,hi,rfl⟩:=Array.getElem_of_mem hv
 have hl:i<G2.length:=by have:=h.fits.length;simp at this;omega
 have:=h.fits.get i G2[i] cs[i] (List.getElem?_eq_getElem hl) (by simp)
 revert this
 cases G2[i] with
 |none=>rintro⟨b,hb⟩;rw [hb];rfl
 |some q=>rintro⟨n,hn,_⟩;rw [hn];rfl
end Go.Proofs.YtapgojgcmlnbgacGreat
namespace Go.Proofs.YtapgojgcmlnbgacGreat
open Go
structure Uop where
 seq:Int
 state:Int
 ready:Int
 pc:Int
 next:Int
 ins:Ins
 cause:Int
 a:Int
 b:Int
 dest:Int
 old:Int
 guessed:Bool
 commit:Com
 deriving DecidableEq
def Ak0:Com:=⟨0,0,0,0,0,0,0,0,0,false,0⟩
def B3:Uop:=⟨0,0,0,0,0,Fs,0,0,0,0,0,false,Ak0⟩
instance:Inhabited Uop:=⟨B3⟩
structure Core where
 window:Int
 phys:Int
 wide:Int
 commits:List Com
 hart:Al
 mem:List Int
 cycles:Int
 taken:Int
 backs:Int
 script:List Int
 table:Array Value
 names:A1
 words:List Int
 there:List Bool
 slots:List Slt
 ops:List Uop
 access:List Acc
 seq:Int
 pc:Int
 still:Bool
def Core.op (c:Core) (k:Nat):Uop:=c.ops.getD k B3
def Core.word (c:Core) (p:Int):Int:=c.words.getD p.toNat 0
def Core.has (c:Core) (p:Int):Bool:=c.there.getD p.toNat false
def H3:List Int→Int
 |[]=>0
 |n::_=>max n 0
def Je (l:List Uop) (seq:Int):Int:=Db (fun u=>decide (u.seq=seq)) l 0
def Jm (l:List Acc) (seq:Int):Int:=Db (fun a=>decide (a.seq=seq)) l 0
def Bs (i:Ins):Bool:=decide (11≤i.op)&&decide (i.op≤15)
def Ba (i:Ins):Bool:=decide (16≤i.op)&&decide (i.op≤18)
def Be (i:Ins):Bool:=decide (i.op=47) || decide (i.op=48)
def loadBytes (op:Int):Int:=[1,2,4,1,2].getD (op - 11).toNat 0
def Rv (cs:Array Value) (i:Nat):Int:=match cs[i]? with | some (.int _ n)=>n | _=>0
def M2 (cs:Array Value) (pc:Int):Cnt:=⟨Rv cs (Pq pc*2),Rv cs (Pq pc*2+1)⟩
def Pf (cs:Array Value) (pc:Int):Vl:=⟨Rv cs (32+vlK pc*4),Rv cs (32+vlK pc*4+1),Rv cs (32+vlK pc*4+2),Rv cs (32+vlK pc*4+3)⟩
def El (ops:List Uop) (names:A1) (s:Int):A1:=
 let u:=ops.getD (Je ops s).toNat B3
 if 0<u.dest then (Ms names u.ins.rd u.old).getD A1.zero else names
def F8 (c:Core) (seq pc:Int):Core:=
 { c with backs:=c.backs+1,names:=(Lc c.slots seq).foldl (El c.ops) c.names,slots:=Mx c.slots seq,ops:=c.ops.filter (fun u=>!decide (seq≤u.seq)),access:=c.access.filter (fun a=>!decide (seq≤a.seq)),pc:=pc,still:=false }
def Di (c:Core) (i:Ins) (pc:Int):Int×List Int:=
 let n:=H3 c.script
 let t:=M2 c.table pc
 if i.op=3 then (u32 (pc+i.imm),c.script)
 else if i.op=4 then (if n%4=1 then u32 (pc+4) else t.tg,c.script.tail)
 else if 5≤i.op∧i.op≤10 then (if (decide (2≤t.lv) != decide (n%3=1))=true then u32 (pc+i.imm) else u32 (pc+4),c.script.tail)
 else (u32 (pc+4),c.script)
def bytesOf (w:Int):List Int:=[w%256,w / 256%256,w / 65536%256,w / 16777216%256]
def Jk (c:Core):Ins×Int:=
 if (Ee c.access c.mem c.seq c.pc 4).2.1=true then Da (bytesOf (Ee c.access c.mem c.seq c.pc 4).1) 0 else (Fs,1)
def Et (c:Core) (k:Nat):Core:=
 { c with ops:=c.ops.set k { c.op k with state:=2 },slots:=(It c.slots (c.op k).seq).getD [] }
def Bz (c:Core):Bool×Core:=
 if c.still=true∨c.names.free=[] then (false,c)
 else match Jg c.slots c.window c.seq with
 |none=>(false,c)
 |some slots=>
  let f:=Jk c
  let c1:={ c with slots:=slots,seq:=c.seq+1,taken:=c.taken+1 }
  if f.2≠0 then
   (false,Et { c1 with ops:=c.ops++[{ B3 with seq:=c.seq,pc:=c.pc,cause:=f.2,ins:=f.1,commit:=Aw c.pc f.2 }],still:=true } c.ops.length)
  else
   let i:=f.1
   let t:=if Bf i=true then (Mr c.names i.rd).getD (A1.zero,0,0) else (c.names,0,0)
   let u:={ B3 with seq:=c.seq,pc:=c.pc,ins:=i,a:=c.names.regs.getD i.rs1.toNat 0,b:=c.names.regs.getD i.rs2.toNat 0,dest:=t.2.1,old:=t.2.2 }
   let c2:={ c1 with
    names:=t.1
    there:=if Bf i=true then c.there.set t.2.1.toNat false else c.there
    access:=if (Bs i || Ba i)=true then c.access++[(⟨c.seq,Ba i,false,0,0,0,false⟩:Acc)] else c.access }
   let fo:=Di c i c.pc
   (!Be i,{ c2 with ops:=c.ops++[{ u with next:=fo.1 }],script:=fo.2,pc:=fo.1,still:=Be i })
def Dk (c:Core) (dest w:Int):Core:=
 if 0<dest then { c with words:=c.words.set dest.toNat w,there:=c.there.set dest.toNat true } else c
def Cf (c:Core) (k:Nat) (cycle head:Int):Bool×Core:=
 let u:=c.op k
 if u.state≠0∨c.has u.a=false∨c.has u.b=false∨(Be u.ins=true∧u.seq≠head) then (false,c)
 else if 38≤u.ins.op∧u.ins.op≤45 then (true,{ c with ops:=c.ops.set k { u with state:=1,ready:=cycle+3 } })
 else if Bs u.ins=true then
  let n:=H3 c.script
  let v:=K4 (Pf c.table u.pc) u.pc
  let u1:={ u with state:=1,ready:=cycle+1+n%9 }
  let c1:={ c with script:=c.script.tail }
  if 0<u.dest∧(v.2=true∨n / 16%3=1) then
   (true,{ Dk c1 u.dest (u32 (v.1+n / 64)) with ops:=c.ops.set k { u1 with guessed:=true } })
  else (true,{ c1 with ops:=c.ops.set k u1 })
 else (true,{ c with ops:=c.ops.set k { u with state:=1,ready:=cycle+1 } })
def Eg (c:Core) (u:Uop):Al:=⟨(c.hart.regs.set u.ins.rs1.toNat (c.word u.a)).set u.ins.rs2.toNat (c.word u.b),u.pc,0,0⟩
def Mq (c:Core) (u:Uop):Com×List Acc:=
 let at_:=u32 ((Eg c u).reg u.ins.rs1+u.ins.imm)
 let many:=loadBytes u.ins.op
 let s:=Ee c.access c.mem u.seq at_ many
 if s.2.1=true then
  (Cl { u.ins with imm:=0 } ⟨List.replicate 32 0,u.pc,0,0⟩ (bytesOf s.1),
   let j:=(Jm c.access u.seq).toNat
   c.access.set j { c.access.getD j default with known:=true,at_:=at_,many:=many,done:=true })
 else (Aw u.pc 3,c.access)
def Ua (pc at_ many:Int):Bool:=decide (pc<at_+many)&&decide (at_<pc+4)
def Dl (seq at_ many:Int) (x:Int×Bool) (v:Uop):Int×Bool:=
 if (decide (seq<v.seq)&&Ua v.pc at_ many&&(!x.2 || decide (v.seq<x.1)))=true then (v.seq,true) else x
def Fc (c:Core) (k:Nat):Core:=
 let u:=c.op k
 let j:=(Jm c.access u.seq).toNat
 let acc:=c.access.set j { c.access.getD j default with known:=true,at_:=u.commit.at_,many:=u.commit.many,data:=u.commit.data }
 let c1:={ c with access:=acc }
 let f:=c.ops.foldl (Dl u.seq u.commit.at_ u.commit.many) (I3 acc u.seq)
 if f.2=true then F8 c1 f.1 (c.ops.getD (Je c.ops f.1).toNat B3).pc else c1
def B9 (c:Core) (k:Nat):Core:=
 let u:=c.op k
 let l:=if Bs u.ins=true then Mq c u else (Cl u.ins (Eg c u) c.mem,c.access)
 let wrong:=u.guessed&&decide (c.word u.dest≠l.1.value)
 let c1:=Dk { c with access:=l.2 } u.dest l.1.value
 let c2:=Et { c1 with ops:=c.ops.set k { u with commit:=l.1 } } k
 if l.1.state≠0 then { F8 c2 (u.seq+1) u.pc with still:=true }
 else
  let c3:=if (wrong || decide (l.1.next≠u.next))=true then F8 { c2 with ops:=c2.ops.set k { c2.op k with next:=l.1.next } } (u.seq+1) l.1.next else c2
  if Ba u.ins=true then Fc c3 k else c3
def Kx (c:Core) (u:Uop):Core:=
 if u.ins.op=4∨(5≤u.ins.op∧u.ins.op≤10) then { c with table:=Gl c.table (M2 c.table u.pc) u.pc (decide (u.commit.next≠u32 (u.pc+4))) u.commit.next }
 else if Bs u.ins=true then { c with table:=Em c.table (Pf c.table u.pc) u.pc u.commit.value }
 else c
def Bq (c:Core):Core:=
 let u:=c.op 0
 let c1:={ c with ops:=c.ops.tail,hart:=Cq u.commit c.hart,mem:=Cs u.commit c.mem,commits:=c.commits++[u.commit],names:=if 0<u.dest then (Le c.names u.old).getD A1.zero else c.names }
 let c2:=Kx c1 u
 { c2 with access:=c2.access.filter (fun a=>!decide (a.seq=u.seq)),still:=if Be u.ins=true then false else c2.still }
def goneP:Nat→Core→Core
 |0,c=>c
 |n+1,c=>if (Bq c).hart.state≠0 then Bq c else goneP n (Bq c)
def B0 (c:Core):Core:=goneP (Dx c.slots c.wide) { c with slots:=c.slots.drop (Dx c.slots c.wide) }
def finishAll:Nat→Nat→Int→Core→Core
 |0,_,_,c=>c
 |n+1,k,now,c=>
  if k<c.ops.length then
   finishAll n (k+1) now (if (c.op k).state=1∧(c.op k).ready≤now then B9 c k else c)
  else c
def beginAll:Nat→Nat→Int→Int→Core→Core
 |0,_,_,_,c=>c
 |n+1,k,some_,now,c=>
  if k<c.ops.length∧some_<c.wide then
   let b:=Cf c k now (c.op 0).seq
   beginAll n (k+1) (if b.1=true then some_+1 else some_) now b.2
  else c
def fetchAll:Nat→Core→Core
 |0,c=>c
 |n+1,c=>if (Bz c).1=true then fetchAll n (Bz c).2 else (Bz c).2
def Ci (c:Core):Core:=
 let now:=c.cycles
 let c1:=B0 { c with cycles:=c.cycles+1 }
 if c1.hart.state≠0 then c1
 else
  let c2:=finishAll c1.ops.length 0 now c1
  let c3:=beginAll c2.ops.length 0 0 now c2
  fetchAll c3.wide.toNat c3
def Dh:Nat→Core→Core
 |0,c=>c
 |n+1,c=>if c.hart.state=0 then Dh n (Ci c) else c
def Vh:Array Value:=((List.replicate 16 [Value.int .i64 0, .int .u32 0]).flatten++(List.replicate 8 [Value.int .u32 0, .int .u32 0, .int .u32 0, .int .i64 0]).flatten).toArray
def Kl (window phys wide:Int) (h:Al) (m:List Int) (script:List Int):Core:=
 ⟨window,phys,wide,[],h,m,0,0,0,script,Vh,(Ve phys).getD A1.zero,h.regs++List.replicate 64 0,List.replicate 32 true++List.replicate 64 false,[],[],[],0,h.pc,false⟩
def Qj (window phys wide:Int) (h:Al) (m:List Int) (script:List Int) (cycles:Nat):Core:=Dh cycles (Kl window phys wide h m script)
end Go.Proofs.YtapgojgcmlnbgacGreat
namespace Go.Proofs.YtapgojgcmlnbgacGreat
open Go.RowKit
structure Lay where
 commits:Value
 mem:Value
 script:Value
 slots:Value
 ops:Value
 access:Value
 freeA:Option Addr
 freeCap:Nat
structure Ak (cs:Array Value) (C:Core) (L:Lay):Prop where
 size:cs.size=340
 window:cs[0]? = some (.int .i64 C.window)
 phys:cs[1]? = some (.int .i64 C.phys)
 wide:cs[2]? = some (.int .i64 C.wide)
 commits:cs[3]? = some (L.commits)
 mem:cs[39]? = some (L.mem)
 cycles:cs[40]? = some (.int .i64 C.cycles)
 taken:cs[41]? = some (.int .i64 C.taken)
 backs:cs[42]? = some (.int .i64 C.backs)
 script:cs[43]? = some (L.script)
 slots:cs[334]? = some (L.slots)
 ops:cs[335]? = some (L.ops)
 access:cs[336]? = some (L.access)
 seq:cs[337]? = some (.int .i64 C.seq)
 pc:cs[338]? = some (.int .u32 C.pc)
 still:cs[339]? = some (.bool C.still)
 hart:∀ i,i<35→cs[4+i]? = C.hart.cells[i]?
 tab:∀ i,i<64→cs[44+i]? = C.table[i]?
 names:∀ i,i<34→cs[108+i]? = (Ag C.names.phys C.names.regs L.freeA C.names.free.length L.freeCap)[i]?
 words:∀ i,i<96→cs[142+i]? = some (.int .u32 (C.words.getD i 0))
 there:∀ i,i<96→cs[238+i]? = some (.bool (C.there.getD i false))
theorem Aa {cs:Array Value} (hs:cs.size=340) (k j:Nat) (v:Value):(cs.setIfInBounds k v)[j]? = if k=j∧k<340 then some v else cs[j]? := by
 rw [Array.getElem?_setIfInBounds]
 by_cases h:k=j
 ·subst h
  rw [if_pos rfl]
  by_cases h2:k<340
  ·rw [if_pos (by omega),if_pos ⟨rfl,h2⟩]
  ·rw [if_neg (by omega),if_neg (fun h=>h2 h.2),Array.getElem?_eq_none (by omega)]
 ·rw [if_neg h,if_neg (fun h2=>h h2.1)]
theorem Adq (m:List Int) (i j:Nat) (x:Int):(m.set i x).getD j 0=if i=j∧i<m.length then x else m.getD j 0:=V2 m i j x
theorem Adp (m:List Bool) (i j:Nat) (x:Bool):(m.set i x).getD j false=if i=j∧i<m.length then x else m.getD j false:=by
 simp only [List.getD]
 by_cases h:i=j
 ·subst h
  by_cases h2:i<m.length
  ·rw [List.getElem?_set_self h2,if_pos ⟨rfl,h2⟩];rfl
  ·rw [if_neg (by omega),List.getElem?_eq_none (by simp;omega),List.getElem?_eq_none (by omega)]
 ·rw [List.getElem?_set_ne h,if_neg (by omega)]
theorem Ak.set_commits {cs:Array Value} {C:Core} {L:Lay} (h:Ak cs C L) (v:Value) (l:List Com):Ak (cs.setIfInBounds 3 (v)) { C with commits:=l } { L with commits:=v }:=
 ⟨(by simp [h.size]),(by rw [Aa h.size,if_neg (by omega)];exact h.window),(by rw [Aa h.size,if_neg (by omega)];exact h.phys),(by rw [Aa h.size,if_neg (by omega)];exact h.wide),(by rw [Aa h.size,if_pos ⟨rfl,by omega⟩]),(by rw [Aa h.size,if_neg (by omega)];exact h.mem),(by rw [Aa h.size,if_neg (by omega)];exact h.cycles),(by rw [Aa h.size,if_neg (by omega)];exact h.taken),(by rw [Aa h.size,if_neg (by omega)];exact h.backs),(by rw [Aa h.size,if_neg (by omega)];exact h.script),(by rw [Aa h.size,if_neg (by omega)];exact h.slots),(by rw [Aa h.size,if_neg (by omega)];exact h.ops),(by rw [Aa h.size,if_neg (by omega)];exact h.access),(by rw [Aa h.size,if_neg (by omega)];exact h.seq),(by rw [Aa h.size,if_neg (by omega)];exact h.pc),(by rw [Aa h.size,if_neg (by omega)];exact h.still),(fun i hi=>by rw [Aa h.size,if_neg (by omega)];exact h.hart i hi),(fun i hi=>by rw [Aa h.size,if_neg (by omega)];exact h.tab i hi),(fun i hi=>by rw [Aa h.size,if_neg (by omega)];exact h.names i hi),(fun i hi=>by rw [Aa h.size,if_neg (by omega)];exact h.words i hi),(fun i hi=>by rw [Aa h.size,if_neg (by omega)];exact h.there i hi)⟩
theorem Ak.set_cycles {cs:Array Value} {C:Core} {L:Lay} (h:Ak cs C L) (n:Int):Ak (cs.setIfInBounds 40 (.int .i64 n)) { C with cycles:=n } L:=
 ⟨(by simp [h.size]),(by rw [Aa h.size,if_neg (by omega)];exact h.window),(by rw [Aa h.size,if_neg (by omega)];exact h.phys),(by rw [Aa h.size,if_neg (by omega)];exact h.wide),(by rw [Aa h.size,if_neg (by omega)];exact h.commits),(by rw [Aa h.size,if_neg (by omega)];exact h.mem),(by rw [Aa h.size,if_pos ⟨rfl,by omega⟩]),(by rw [Aa h.size,if_neg (by omega)];exact h.taken),(by rw [Aa h.size,if_neg (by omega)];exact h.backs),(by rw [Aa h.size,if_neg (by omega)];exact h.script),(by rw [Aa h.size,if_neg (by omega)];exact h.slots),(by rw [Aa h.size,if_neg (by omega)];exact h.ops),(by rw [Aa h.size,if_neg (by omega)];exact h.access),(by rw [Aa h.size,if_neg (by omega)];exact h.seq),(by rw [Aa h.size,if_neg (by omega)];exact h.pc),(by rw [Aa h.size,if_neg (by omega)];exact h.still),(fun i hi=>by rw [Aa h.size,if_neg (by omega)];exact h.hart i hi),(fun i hi=>by rw [Aa h.size,if_neg (by omega)];exact h.tab i hi),(fun i hi=>by rw [Aa h.size,if_neg (by omega)];exact h.names i hi),(fun i hi=>by rw [Aa h.size,if_neg (by omega)];exact h.words i hi),(fun i hi=>by rw [Aa h.size,if_neg (by omega)];exact h.there i hi)⟩
theorem Ak.set_taken {cs:Array Value} {C:Core} {L:Lay} (h:Ak cs C L) (n:Int):Ak (cs.setIfInBounds 41 (.int .i64 n)) { C with taken:=n } L:=
 ⟨(by simp [h.size]),(by rw [Aa h.size,if_neg (by omega)];exact h.window),(by rw [Aa h.size,if_neg (by omega)];exact h.phys),(by rw [Aa h.size,if_neg (by omega)];exact h.wide),(by rw [Aa h.size,if_neg (by omega)];exact h.commits),(by rw [Aa h.size,if_neg (by omega)];exact h.mem),(by rw [Aa h.size,if_neg (by omega)];exact h.cycles),(by rw [Aa h.size,if_pos ⟨rfl,by omega⟩]),(by rw [Aa h.size,if_neg (by omega)];exact h.backs),(by rw [Aa h.size,if_neg (by omega)];exact h.script),(by rw [Aa h.size,if_neg (by omega)];exact h.slots),(by rw [Aa h.size,if_neg (by omega)];exact h.ops),(by rw [Aa h.size,if_neg (by omega)];exact h.access),(by rw [Aa h.size,if_neg (by omega)];exact h.seq),(by rw [Aa h.size,if_neg (by omega)];exact h.pc),(by rw [Aa h.size,if_neg (by omega)];exact h.still),(fun i hi=>by rw [Aa h.size,if_neg (by omega)];exact h.hart i hi),(fun i hi=>by rw [Aa h.size,if_neg (by omega)];exact h.tab i hi),(fun i hi=>by rw [Aa h.size,if_neg (by omega)];exact h.names i hi),(fun i hi=>by rw [Aa h.size,if_neg (by omega)];exact h.words i hi),(fun i hi=>by rw [Aa h.size,if_neg (by omega)];exact h.there i hi)⟩
theorem Ak.set_backs {cs:Array Value} {C:Core} {L:Lay} (h:Ak cs C L) (n:Int):Ak (cs.setIfInBounds 42 (.int .i64 n)) { C with backs:=n } L:=
 ⟨(by simp [h.size]),(by rw [Aa h.size,if_neg (by omega)];exact h.window),(by rw [Aa h.size,if_neg (by omega)];exact h.phys),(by rw [Aa h.size,if_neg (by omega)];exact h.wide),(by rw [Aa h.size,if_neg (by omega)];exact h.commits),(by rw [Aa h.size,if_neg (by omega)];exact h.mem),(by rw [Aa h.size,if_neg (by omega)];exact h.cycles),(by rw [Aa h.size,if_neg (by omega)];exact h.taken),(by rw [Aa h.size,if_pos ⟨rfl,by omega⟩]),(by rw [Aa h.size,if_neg (by omega)];exact h.script),(by rw [Aa h.size,if_neg (by omega)];exact h.slots),(by rw [Aa h.size,if_neg (by omega)];exact h.ops),(by rw [Aa h.size,if_neg (by omega)];exact h.access),(by rw [Aa h.size,if_neg (by omega)];exact h.seq),(by rw [Aa h.size,if_neg (by omega)];exact h.pc),(by rw [Aa h.size,if_neg (by omega)];exact h.still),(fun i hi=>by rw [Aa h.size,if_neg (by omega)];exact h.hart i hi),(fun i hi=>by rw [Aa h.size,if_neg (by omega)];exact h.tab i hi),(fun i hi=>by rw [Aa h.size,if_neg (by omega)];exact h.names i hi),(fun i hi=>by rw [Aa h.size,if_neg (by omega)];exact h.words i hi),(fun i hi=>by rw [Aa h.size,if_neg (by omega)];exact h.there i hi)⟩
theorem Ak.set_script {cs:Array Value} {C:Core} {L:Lay} (h:Ak cs C L) (v:Value) (l:List Int):Ak (cs.setIfInBounds 43 (v)) { C with script:=l } { L with script:=v }:=
 ⟨(by simp [h.size]),(by rw [Aa h.size,if_neg (by omega)];exact h.window),(by rw [Aa h.size,if_neg (by omega)];exact h.phys),(by rw [Aa h.size,if_neg (by omega)];exact h.wide),(by rw [Aa h.size,if_neg (by omega)];exact h.commits),(by rw [Aa h.size,if_neg (by omega)];exact h.mem),(by rw [Aa h.size,if_neg (by omega)];exact h.cycles),(by rw [Aa h.size,if_neg (by omega)];exact h.taken),(by rw [Aa h.size,if_neg (by omega)];exact h.backs),(by rw [Aa h.size,if_pos ⟨rfl,by omega⟩]),(by rw [Aa h.size,if_neg (by omega)];exact h.slots),(by rw [Aa h.size,if_neg (by omega)];exact h.ops),(by rw [Aa h.size,if_neg (by omega)];exact h.access),(by rw [Aa h.size,if_neg (by omega)];exact h.seq),(by rw [Aa h.size,if_neg (by omega)];exact h.pc),(by rw [Aa h.size,if_neg (by omega)];exact h.still),(fun i hi=>by rw [Aa h.size,if_neg (by omega)];exact h.hart i hi),(fun i hi=>by rw [Aa h.size,if_neg (by omega)];exact h.tab i hi),(fun i hi=>by rw [Aa h.size,if_neg (by omega)];exact h.names i hi),(fun i hi=>by rw [Aa h.size,if_neg (by omega)];exact h.words i hi),(fun i hi=>by rw [Aa h.size,if_neg (by omega)];exact h.there i hi)⟩
theorem Ak.set_slots {cs:Array Value} {C:Core} {L:Lay} (h:Ak cs C L) (v:Value) (l:List Slt):Ak (cs.setIfInBounds 334 (v)) { C with slots:=l } { L with slots:=v }:=
 ⟨(by simp [h.size]),(by rw [Aa h.size,if_neg (by omega)];exact h.window),(by rw [Aa h.size,if_neg (by omega)];exact h.phys),(by rw [Aa h.size,if_neg (by omega)];exact h.wide),(by rw [Aa h.size,if_neg (by omega)];exact h.commits),(by rw [Aa h.size,if_neg (by omega)];exact h.mem),(by rw [Aa h.size,if_neg (by omega)];exact h.cycles),(by rw [Aa h.size,if_neg (by omega)];exact h.taken),(by rw [Aa h.size,if_neg (by omega)];exact h.backs),(by rw [Aa h.size,if_neg (by omega)];exact h.script),(by rw [Aa h.size,if_pos ⟨rfl,by omega⟩]),(by rw [Aa h.size,if_neg (by omega)];exact h.ops),(by rw [Aa h.size,if_neg (by omega)];exact h.access),(by rw [Aa h.size,if_neg (by omega)];exact h.seq),(by rw [Aa h.size,if_neg (by omega)];exact h.pc),(by rw [Aa h.size,if_neg (by omega)];exact h.still),(fun i hi=>by rw [Aa h.size,if_neg (by omega)];exact h.hart i hi),(fun i hi=>by rw [Aa h.size,if_neg (by omega)];exact h.tab i hi),(fun i hi=>by rw [Aa h.size,if_neg (by omega)];exact h.names i hi),(fun i hi=>by rw [Aa h.size,if_neg (by omega)];exact h.words i hi),(fun i hi=>by rw [Aa h.size,if_neg (by omega)];exact h.there i hi)⟩
theorem Ak.set_ops {cs:Array Value} {C:Core} {L:Lay} (h:Ak cs C L) (v:Value) (l:List Uop):Ak (cs.setIfInBounds 335 (v)) { C with ops:=l } { L with ops:=v }:=
 ⟨(by simp [h.size]),(by rw [Aa h.size,if_neg (by omega)];exact h.window),(by rw [Aa h.size,if_neg (by omega)];exact h.phys),(by rw [Aa h.size,if_neg (by omega)];exact h.wide),(by rw [Aa h.size,if_neg (by omega)];exact h.commits),(by rw [Aa h.size,if_neg (by omega)];exact h.mem),(by rw [Aa h.size,if_neg (by omega)];exact h.cycles),(by rw [Aa h.size,if_neg (by omega)];exact h.taken),(by rw [Aa h.size,if_neg (by omega)];exact h.backs),(by rw [Aa h.size,if_neg (by omega)];exact h.script),(by rw [Aa h.size,if_neg (by omega)];exact h.slots),(by rw [Aa h.size,if_pos ⟨rfl,by omega⟩]),(by rw [Aa h.size,if_neg (by omega)];exact h.access),(by rw [Aa h.size,if_neg (by omega)];exact h.seq),(by rw [Aa h.size,if_neg (by omega)];exact h.pc),(by rw [Aa h.size,if_neg (by omega)];exact h.still),(fun i hi=>by rw [Aa h.size,if_neg (by omega)];exact h.hart i hi),(fun i hi=>by rw [Aa h.size,if_neg (by omega)];exact h.tab i hi),(fun i hi=>by rw [Aa h.size,if_neg (by omega)];exact h.names i hi),(fun i hi=>by rw [Aa h.size,if_neg (by omega)];exact h.words i hi),(fun i hi=>by rw [Aa h.size,if_neg (by omega)];exact h.there i hi)⟩
theorem Ak.set_access {cs:Array Value} {C:Core} {L:Lay} (h:Ak cs C L) (v:Value) (l:List Acc):Ak (cs.setIfInBounds 336 (v)) { C with access:=l } { L with access:=v }:=
 ⟨(by simp [h.size]),(by rw [Aa h.size,if_neg (by omega)];exact h.window),(by rw [Aa h.size,if_neg (by omega)];exact h.phys),(by rw [Aa h.size,if_neg (by omega)];exact h.wide),(by rw [Aa h.size,if_neg (by omega)];exact h.commits),(by rw [Aa h.size,if_neg (by omega)];exact h.mem),(by rw [Aa h.size,if_neg (by omega)];exact h.cycles),(by rw [Aa h.size,if_neg (by omega)];exact h.taken),(by rw [Aa h.size,if_neg (by omega)];exact h.backs),(by rw [Aa h.size,if_neg (by omega)];exact h.script),(by rw [Aa h.size,if_neg (by omega)];exact h.slots),(by rw [Aa h.size,if_neg (by omega)];exact h.ops),(by rw [Aa h.size,if_pos ⟨rfl,by omega⟩]),(by rw [Aa h.size,if_neg (by omega)];exact h.seq),(by rw [Aa h.size,if_neg (by omega)];exact h.pc),(by rw [Aa h.size,if_neg (by omega)];exact h.still),(fun i hi=>by rw [Aa h.size,if_neg (by omega)];exact h.hart i hi),(fun i hi=>by rw [Aa h.size,if_neg (by omega)];exact h.tab i hi),(fun i hi=>by rw [Aa h.size,if_neg (by omega)];exact h.names i hi),(fun i hi=>by rw [Aa h.size,if_neg (by omega)];exact h.words i hi),(fun i hi=>by rw [Aa h.size,if_neg (by omega)];exact h.there i hi)⟩
theorem Ak.set_seq {cs:Array Value} {C:Core} {L:Lay} (h:Ak cs C L) (n:Int):Ak (cs.setIfInBounds 337 (.int .i64 n)) { C with seq:=n } L:=
 ⟨(by simp [h.size]),(by rw [Aa h.size,if_neg (by omega)];exact h.window),(by rw [Aa h.size,if_neg (by omega)];exact h.phys),(by rw [Aa h.size,if_neg (by omega)];exact h.wide),(by rw [Aa h.size,if_neg (by omega)];exact h.commits),(by rw [Aa h.size,if_neg (by omega)];exact h.mem),(by rw [Aa h.size,if_neg (by omega)];exact h.cycles),(by rw [Aa h.size,if_neg (by omega)];exact h.taken),(by rw [Aa h.size,if_neg (by omega)];exact h.backs),(by rw [Aa h.size,if_neg (by omega)];exact h.script),(by rw [Aa h.size,if_neg (by omega)];exact h.slots),(by rw [Aa h.size,if_neg (by omega)];exact h.ops),(by rw [Aa h.size,if_neg (by omega)];exact h.access),(by rw [Aa h.size,if_pos ⟨rfl,by omega⟩]),(by rw [Aa h.size,if_neg (by omega)];exact h.pc),(by rw [Aa h.size,if_neg (by omega)];exact h.still),(fun i hi=>by rw [Aa h.size,if_neg (by omega)];exact h.hart i hi),(fun i hi=>by rw [Aa h.size,if_neg (by omega)];exact h.tab i hi),(fun i hi=>by rw [Aa h.size,if_neg (by omega)];exact h.names i hi),(fun i hi=>by rw [Aa h.size,if_neg (by omega)];exact h.words i hi),(fun i hi=>by rw [Aa h.size,if_neg (by omega)];exact h.there i hi)⟩
theorem Ak.set_pc {cs:Array Value} {C:Core} {L:Lay} (h:Ak cs C L) (n:Int):Ak (cs.setIfInBounds 338 (.int .u32 n)) { C with pc:=n } L:=
 ⟨(by simp [h.size]),(by rw [Aa h.size,if_neg (by omega)];exact h.window),(by rw [Aa h.size,if_neg (by omega)];exact h.phys),(by rw [Aa h.size,if_neg (by omega)];exact h.wide),(by rw [Aa h.size,if_neg (by omega)];exact h.commits),(by rw [Aa h.size,if_neg (by omega)];exact h.mem),(by rw [Aa h.size,if_neg (by omega)];exact h.cycles),(by rw [Aa h.size,if_neg (by omega)];exact h.taken),(by rw [Aa h.size,if_neg (by omega)];exact h.backs),(by rw [Aa h.size,if_neg (by omega)];exact h.script),(by rw [Aa h.size,if_neg (by omega)];exact h.slots),(by rw [Aa h.size,if_neg (by omega)];exact h.ops),(by rw [Aa h.size,if_neg (by omega)];exact h.access),(by rw [Aa h.size,if_neg (by omega)];exact h.seq),(by rw [Aa h.size,if_pos ⟨rfl,by omega⟩]),(by rw [Aa h.size,if_neg (by omega)];exact h.still),(fun i hi=>by rw [Aa h.size,if_neg (by omega)];exact h.hart i hi),(fun i hi=>by rw [Aa h.size,if_neg (by omega)];exact h.tab i hi),(fun i hi=>by rw [Aa h.size,if_neg (by omega)];exact h.names i hi),(fun i hi=>by rw [Aa h.size,if_neg (by omega)];exact h.words i hi),(fun i hi=>by rw [Aa h.size,if_neg (by omega)];exact h.there i hi)⟩
theorem Ak.set_still {cs:Array Value} {C:Core} {L:Lay} (h:Ak cs C L) (b:Bool):Ak (cs.setIfInBounds 339 (.bool b)) { C with still:=b } L:=
 ⟨(by simp [h.size]),(by rw [Aa h.size,if_neg (by omega)];exact h.window),(by rw [Aa h.size,if_neg (by omega)];exact h.phys),(by rw [Aa h.size,if_neg (by omega)];exact h.wide),(by rw [Aa h.size,if_neg (by omega)];exact h.commits),(by rw [Aa h.size,if_neg (by omega)];exact h.mem),(by rw [Aa h.size,if_neg (by omega)];exact h.cycles),(by rw [Aa h.size,if_neg (by omega)];exact h.taken),(by rw [Aa h.size,if_neg (by omega)];exact h.backs),(by rw [Aa h.size,if_neg (by omega)];exact h.script),(by rw [Aa h.size,if_neg (by omega)];exact h.slots),(by rw [Aa h.size,if_neg (by omega)];exact h.ops),(by rw [Aa h.size,if_neg (by omega)];exact h.access),(by rw [Aa h.size,if_neg (by omega)];exact h.seq),(by rw [Aa h.size,if_neg (by omega)];exact h.pc),(by rw [Aa h.size,if_pos ⟨rfl,by omega⟩]),(fun i hi=>by rw [Aa h.size,if_neg (by omega)];exact h.hart i hi),(fun i hi=>by rw [Aa h.size,if_neg (by omega)];exact h.tab i hi),(fun i hi=>by rw [Aa h.size,if_neg (by omega)];exact h.names i hi),(fun i hi=>by rw [Aa h.size,if_neg (by omega)];exact h.words i hi),(fun i hi=>by rw [Aa h.size,if_neg (by omega)];exact h.there i hi)⟩
theorem Ak.set_word {cs:Array Value} {C:Core} {L:Lay} (h:Ak cs C L) (d:Nat) (hd:d<96) (hl:C.words.length=96) (x:Int):Ak (cs.setIfInBounds (142+d) (.int .u32 x)) { C with words:=C.words.set d x } L:=
 ⟨(by simp [h.size]),(by rw [Aa h.size,if_neg (by omega)];exact h.window),(by rw [Aa h.size,if_neg (by omega)];exact h.phys),(by rw [Aa h.size,if_neg (by omega)];exact h.wide),(by rw [Aa h.size,if_neg (by omega)];exact h.commits),(by rw [Aa h.size,if_neg (by omega)];exact h.mem),(by rw [Aa h.size,if_neg (by omega)];exact h.cycles),(by rw [Aa h.size,if_neg (by omega)];exact h.taken),(by rw [Aa h.size,if_neg (by omega)];exact h.backs),(by rw [Aa h.size,if_neg (by omega)];exact h.script),(by rw [Aa h.size,if_neg (by omega)];exact h.slots),(by rw [Aa h.size,if_neg (by omega)];exact h.ops),(by rw [Aa h.size,if_neg (by omega)];exact h.access),(by rw [Aa h.size,if_neg (by omega)];exact h.seq),(by rw [Aa h.size,if_neg (by omega)];exact h.pc),(by rw [Aa h.size,if_neg (by omega)];exact h.still),(fun i hi=>by rw [Aa h.size,if_neg (by omega)];exact h.hart i hi),(fun i hi=>by rw [Aa h.size,if_neg (by omega)];exact h.tab i hi),(fun i hi=>by rw [Aa h.size,if_neg (by omega)];exact h.names i hi),(fun i hi=>by
  show _=some (Value.int .u32 ((C.words.set d x).getD i 0))
  rw [Aa h.size,Adq]
  by_cases e:d=i
  ·rw [if_pos ⟨by omega,by omega⟩,if_pos ⟨e,by omega⟩]
  ·rw [if_neg (fun hh=>e (by omega)),if_neg (fun hh=>e hh.1)];exact h.words i hi),(fun i hi=>by rw [Aa h.size,if_neg (by omega)];exact h.there i hi)⟩
theorem Ak.set_there {cs:Array Value} {C:Core} {L:Lay} (h:Ak cs C L) (d:Nat) (hd:d<96) (hl:C.there.length=96) (x:Bool):Ak (cs.setIfInBounds (238+d) (.bool x)) { C with there:=C.there.set d x } L:=
 ⟨(by simp [h.size]),(by rw [Aa h.size,if_neg (by omega)];exact h.window),(by rw [Aa h.size,if_neg (by omega)];exact h.phys),(by rw [Aa h.size,if_neg (by omega)];exact h.wide),(by rw [Aa h.size,if_neg (by omega)];exact h.commits),(by rw [Aa h.size,if_neg (by omega)];exact h.mem),(by rw [Aa h.size,if_neg (by omega)];exact h.cycles),(by rw [Aa h.size,if_neg (by omega)];exact h.taken),(by rw [Aa h.size,if_neg (by omega)];exact h.backs),(by rw [Aa h.size,if_neg (by omega)];exact h.script),(by rw [Aa h.size,if_neg (by omega)];exact h.slots),(by rw [Aa h.size,if_neg (by omega)];exact h.ops),(by rw [Aa h.size,if_neg (by omega)];exact h.access),(by rw [Aa h.size,if_neg (by omega)];exact h.seq),(by rw [Aa h.size,if_neg (by omega)];exact h.pc),(by rw [Aa h.size,if_neg (by omega)];exact h.still),(fun i hi=>by rw [Aa h.size,if_neg (by omega)];exact h.hart i hi),(fun i hi=>by rw [Aa h.size,if_neg (by omega)];exact h.tab i hi),(fun i hi=>by rw [Aa h.size,if_neg (by omega)];exact h.names i hi),(fun i hi=>by rw [Aa h.size,if_neg (by omega)];exact h.words i hi),(fun i hi=>by
  show _=some (Value.bool ((C.there.set d x).getD i false))
  rw [Aa h.size,Adp]
  by_cases e:d=i
  ·rw [if_pos ⟨by omega,by omega⟩,if_pos ⟨e,by omega⟩]
  ·rw [if_neg (fun hh=>e (by omega)),if_neg (fun hh=>e hh.1)];exact h.there i hi)⟩
theorem Ak.part_hart {cs cs2:Array Value} {C:Core} {L:Lay} (h:Ak cs C L) (H:Al) (hz:cs2.size=340) (hin:∀ i,i<35→cs2[4+i]? = H.cells[i]?) (hout:∀ j,j<4∨39≤j→cs2[j]? = cs[j]?):Ak cs2 { C with hart:=H } L:=
 ⟨(hz),(by rw [hout _ (by omega)];exact h.window),(by rw [hout _ (by omega)];exact h.phys),(by rw [hout _ (by omega)];exact h.wide),(by rw [hout _ (by omega)];exact h.commits),(by rw [hout _ (by omega)];exact h.mem),(by rw [hout _ (by omega)];exact h.cycles),(by rw [hout _ (by omega)];exact h.taken),(by rw [hout _ (by omega)];exact h.backs),(by rw [hout _ (by omega)];exact h.script),(by rw [hout _ (by omega)];exact h.slots),(by rw [hout _ (by omega)];exact h.ops),(by rw [hout _ (by omega)];exact h.access),(by rw [hout _ (by omega)];exact h.seq),(by rw [hout _ (by omega)];exact h.pc),(by rw [hout _ (by omega)];exact h.still),(hin),(fun i hi=>by rw [hout _ (by omega)];exact h.tab i hi),(fun i hi=>by rw [hout _ (by omega)];exact h.names i hi),(fun i hi=>by rw [hout _ (by omega)];exact h.words i hi),(fun i hi=>by rw [hout _ (by omega)];exact h.there i hi)⟩
theorem Ak.part_tab {cs cs2:Array Value} {C:Core} {L:Lay} (h:Ak cs C L) (T:Array Value) (hz:cs2.size=340) (hin:∀ i,i<64→cs2[44+i]? = T[i]?) (hout:∀ j,j<44∨108≤j→cs2[j]? = cs[j]?):Ak cs2 { C with table:=T } L:=
 ⟨(hz),(by rw [hout _ (by omega)];exact h.window),(by rw [hout _ (by omega)];exact h.phys),(by rw [hout _ (by omega)];exact h.wide),(by rw [hout _ (by omega)];exact h.commits),(by rw [hout _ (by omega)];exact h.mem),(by rw [hout _ (by omega)];exact h.cycles),(by rw [hout _ (by omega)];exact h.taken),(by rw [hout _ (by omega)];exact h.backs),(by rw [hout _ (by omega)];exact h.script),(by rw [hout _ (by omega)];exact h.slots),(by rw [hout _ (by omega)];exact h.ops),(by rw [hout _ (by omega)];exact h.access),(by rw [hout _ (by omega)];exact h.seq),(by rw [hout _ (by omega)];exact h.pc),(by rw [hout _ (by omega)];exact h.still),(fun i hi=>by rw [hout _ (by omega)];exact h.hart i hi),(hin),(fun i hi=>by rw [hout _ (by omega)];exact h.names i hi),(fun i hi=>by rw [hout _ (by omega)];exact h.words i hi),(fun i hi=>by rw [hout _ (by omega)];exact h.there i hi)⟩
theorem Ak.part_names {cs cs2:Array Value} {C:Core} {L:Lay} (h:Ak cs C L) (M:A1) (A:Option Addr) (c:Nat) (hz:cs2.size=340) (hin:∀ i,i<34→cs2[108+i]? = (Ag M.phys M.regs A M.free.length c)[i]?) (hout:∀ j,j<108∨142≤j→cs2[j]? = cs[j]?):Ak cs2 { C with names:=M } { L with freeA:=A,freeCap:=c }:=
 ⟨(hz),(by rw [hout _ (by omega)];exact h.window),(by rw [hout _ (by omega)];exact h.phys),(by rw [hout _ (by omega)];exact h.wide),(by rw [hout _ (by omega)];exact h.commits),(by rw [hout _ (by omega)];exact h.mem),(by rw [hout _ (by omega)];exact h.cycles),(by rw [hout _ (by omega)];exact h.taken),(by rw [hout _ (by omega)];exact h.backs),(by rw [hout _ (by omega)];exact h.script),(by rw [hout _ (by omega)];exact h.slots),(by rw [hout _ (by omega)];exact h.ops),(by rw [hout _ (by omega)];exact h.access),(by rw [hout _ (by omega)];exact h.seq),(by rw [hout _ (by omega)];exact h.pc),(by rw [hout _ (by omega)];exact h.still),(fun i hi=>by rw [hout _ (by omega)];exact h.hart i hi),(fun i hi=>by rw [hout _ (by omega)];exact h.tab i hi),(hin),(fun i hi=>by rw [hout _ (by omega)];exact h.words i hi),(fun i hi=>by rw [hout _ (by omega)];exact h.there i hi)⟩
def Uop.cells (u:Uop):Array Value:=
 #[.int .i64 u.seq, .int .i64 u.state, .int .i64 u.ready, .int .u32 u.pc, .int .u32 u.next, .int .i64 u.ins.op, .int .i64 u.ins.rd, .int .i64 u.ins.rs1, .int .i64 u.ins.rs2, .int .i32 u.ins.imm, .int .i64 u.cause, .int .i64 u.a, .int .i64 u.b, .int .i64 u.dest, .int .i64 u.old, .bool u.guessed,
  .int .u32 u.commit.pc, .int .u32 u.commit.next, .int .i64 u.commit.state, .int .i64 u.commit.cause, .int .i64 u.commit.rd, .int .u32 u.commit.value, .int .u32 u.commit.at_, .int .i64 u.commit.many, .int .u32 u.commit.data, .bool u.commit.out, .int .u32 u.commit.told]
theorem Uop.set_state (u:Uop) (x:Int):u.cells.setIfInBounds 1 (.int .i64 x)=Uop.cells { u with state:=x }:=rfl
theorem Uop.set_ready (u:Uop) (x:Int):u.cells.setIfInBounds 2 (.int .i64 x)=Uop.cells { u with ready:=x }:=rfl
theorem Uop.set_next (u:Uop) (x:Int):u.cells.setIfInBounds 4 (.int .u32 x)=Uop.cells { u with next:=x }:=rfl
theorem Uop.set_a (u:Uop) (x:Int):u.cells.setIfInBounds 11 (.int .i64 x)=Uop.cells { u with a:=x }:=rfl
theorem Uop.set_b (u:Uop) (x:Int):u.cells.setIfInBounds 12 (.int .i64 x)=Uop.cells { u with b:=x }:=rfl
theorem Uop.set_dest (u:Uop) (x:Int):u.cells.setIfInBounds 13 (.int .i64 x)=Uop.cells { u with dest:=x }:=rfl
theorem Uop.set_old (u:Uop) (x:Int):u.cells.setIfInBounds 14 (.int .i64 x)=Uop.cells { u with old:=x }:=rfl
theorem Uop.set_guessed (u:Uop) (x:Bool):u.cells.setIfInBounds 15 (.bool x)=Uop.cells { u with guessed:=x }:=rfl
def Eo (l:List Com):List Value:=l.flatMap fun c=>c.cells.toList
theorem Sk (c:Com):c.cells.toList.length=11:=rfl
theorem Nq:∀ l:List Com,(Eo l).length=l.length*11
 |[]=>rfl
 |c::l=>by
  have ih:=Nq l
  unfold Eo at ih ⊢
  rw [List.flatMap_cons,List.length_append,ih,Sk,List.length_cons]
  omega
theorem Ps (l k:List Com):Eo (l++k)=Eo l++Eo k:=by unfold Eo;rw [List.flatMap_append]
theorem Nr (c:Com):Eo [c]=c.cells.toList:=by unfold Eo;simp
theorem Yj:∀ (l:List Com) (k:Nat) (c:Com),l[k]? = some c→((Eo l).drop (k*11)).take 11=c.cells.toList
 |[],_,_,h=>by cases h
 |d::l,0,c,h=>by
  cases h
  show((Eo (d::l)).drop 0).take 11=_
  have e:Eo (d::l)=d.cells.toList++Eo l:=by unfold Eo;rw [List.flatMap_cons]
  rw [e,List.drop_zero]
  exact List.take_left' (Sk d)
 |d::l,k+1,c,h=>by
  have e:Eo (d::l)=d.cells.toList++Eo l:=by unfold Eo;rw [List.flatMap_cons]
  rw [e,show(k+1)*11=11+k*11 by omega,←List.drop_drop,List.drop_left' (Sk d)]
  exact Yj l k c (by simpa using h)
theorem Oa (l:List Com):∀ u∈Eo l,u.oneCell'=true:=by
 intro u hu
 unfold Eo at hu
 obtain⟨c,_,hc⟩:=List.mem_flatMap.1 hu
 have:=cells_one c
 rw [Array.all_eq_true_iff_forall_mem] at this
 exact this u (by simpa using hc)
def Ex (w:World) (B:Nat) (A:Option Addr) (l:List Com):Prop:=
 l≠[]→∃ g cur,A=some ⟨g,0,none⟩∧g<B∧Blk w g 67 cur∧l.length*11≤cur.size∧cur.toList.take (l.length*11)=Eo l
theorem Ex.below {w w':World} {B:Nat} {A:Option Addr} {l:List Com} (h:Ex w B A l) (hb:Below B w w'):Ex w' B A l:=fun hne=>by
 obtain⟨g,cur,h1,h2,h3,h4,h5⟩:=h hne
 exact⟨g,cur,h1,h2,h3.below hb h2,h4,h5⟩
theorem Ex.mono {w:World} {B B':Nat} {A:Option Addr} {l:List Com} (h:Ex w B A l) (hB:B≤B'):Ex w B' A l:=fun hne=>by
 obtain⟨g,cur,h1,h2,h3,h4,h5⟩:=h hne
 exact⟨g,cur,h1,Nat.lt_of_lt_of_le h2 hB,h3,h4,h5⟩
theorem Ex.own {w:World} {base:Nat} {A:Option Addr} {cap n:Nat} {l:List Com} (h:w.ownsRow base 67 11 (.slice A n cap) n (Eo l)):Ex w w.heap.size A l:=fun hne=>by
 have hn:n=l.length:=by have:=h.1;rw [Nq] at this;omega
 have h0:0<l.length:=List.length_pos_iff.2 hne
 subst hn
 rcases h.2 with⟨_,h2⟩ | ⟨g,c,cur,hv,_,hh,hc,_,hs,ht⟩
 ·omega
 ·injection hv with hv1 hv2 hv3
  subst hv1
  have hB:Blk w g 67 cur:=hh
  exact⟨g,cur,rfl,hB.lt,hB,by rw [hs];exact Nat.mul_le_mul_right 11 hc,ht⟩
theorem Ex.len {w:World} {base:Nat} {A:Option Addr} {cap n:Nat} {l:List Com} (h:w.ownsRow base 67 11 (.slice A n cap) n (Eo l)):n=l.length:=by
 have:=h.1;rw [Nq] at this;omega
theorem Ex.cells {w:World} {B:Nat} {A:Option Addr} {l:List Com} (h:Ex w B A l):∀ ad,A=some ad→∀ j u,(Eo l)[j]? = some u→w.cell? (ad.add j)=some u:=by
 intro ad hA j u hu
 have hne:l≠[]:=by intro e;subst e;cases hu
 obtain⟨g,cur,h1,h2,h3,h4,h5⟩:=h hne
 rw [h1] at hA
 cases hA
 rw [Addr.add_lit,Nat.zero_add,h3.cell,←Array.getElem?_toList,←hu,←h5,List.getElem?_take]
 rw [if_pos]
 have:=(List.getElem?_eq_some_iff.1 hu).1
 rw [Nq] at this
 exact this
theorem Ex.at_ {w:World} {B:Nat} {A:Option Addr} {l:List Com} (h:Ex w B A l) {k:Nat} (hk:k<l.length) :
  ∃ g cur,A=some ⟨g,0,none⟩∧g<B∧Blk w g 67 cur∧k*11+11≤cur.size∧cur.extract (k*11) (k*11+11)=(l[k]'hk).cells:=by
 have hne:l≠[]:=by intro e;subst e;simp at hk
 obtain⟨g,cur,h1,h2,h3,h4,h5⟩:=h hne
 have hk11:k*11+11≤l.length*11:=by omega
 refine⟨g,cur,h1,h2,h3,by omega,?_⟩
 apply Array.toList_inj.1
 rw [Array.toList_extract,List.extract_eq_take_drop,show k*11+11 - k*11=11 by omega,←Yj l k _ (List.getElem?_eq_getElem hk),←h5,List.drop_take,List.take_take]
 congr 1
 omega
theorem Jv (w:World) (cs:Array Value) (t:TypeId):∀ ad,some (⟨w.heap.size,0,none⟩:Addr)=some ad→∀ j v,cs.toList[j]? = some v→(w.alloc (.cells cs t)).cell? (ad.add j)=some v:=by
 intro ad h j v hj
 cases h
 rw [Addr.add_lit,Nat.zero_add,World.cell?_alloc_new]
 simpa using hj
theorem Aer {P:Program} {t:TypeId} {cs:Array Value} (w:World) (h:(binOp .eql t (.agg cs) (.agg cs)).run P w = .ok (.bool true) w):(binOp .neq t (.agg cs) (.agg cs)).run P w = .ok (.bool false) w:=by
 rw [run_eql_struct] at h
 rw [run_neq_struct]
 generalize hr:(Op.equalIn 10000 t (.agg cs) (.agg cs)).run P w=r at h ⊢
 cases r with
 |ok b w'=>
  simp only [Result.andThen_ok] at h ⊢
  injection h with h1 h2
  injection h1 with h1
  subst h1 h2
  rfl
 |_=>cases h
theorem Xs {P:Program} {o:Oper} {a:Act} {w:World} {K:Act→World→Prop} {Q:Exit→Act→World→Prop} (t:TypeId) (x y:Operand) (r:TypeId) (ho:o.op = .binOp .neq t x y r) (cs:Array Value) (hx:a.eval x = .agg cs) (hy:a.eval y = .agg cs)
  (hg:P.eqGuardType P.depth t=false) (hs:(binOp .neq t (.agg cs) (.agg cs)).run P w = .ok (.bool false) w) (hk:K (a.put o.dst (.bool false)) w):o.wp P a w K Q:=by
 have hq:=run_eqGuard_agg (P:=P) (w:=w) .neq t x y cs cs hg
 unfold Oper.wp execOp
 simp only [ho,hx,hy,hs,hq,Sem.run_bind,Sem.run_pure,Result.andThen_ok]
 exact hk
theorem Vp:(Tryz.prog.info? 67).map (fun i=>(i.zero,i.size,i.bytes))=some (some (.agg Aix.cells),11,64):=by kernel_rfl
def A8 (l:List Slt):List Value:=l.flatMap fun s=>[.int .i64 s.seq, .bool s.done]
theorem Gj:∀ l:List Slt,(A8 l).length=l.length*2
 |[]=>rfl
 |s::l=>by
  have ih:=Gj l
  unfold A8 at ih ⊢
  rw [List.flatMap_cons,List.length_append,ih,List.length_cons]
  simp
  omega
theorem Ol (l k:List Slt):A8 (l++k)=A8 l++A8 k:=by unfold A8;rw [List.flatMap_append]
theorem Rb:∀ (l:List Slt) (k:Nat) (s:Slt),l[k]? = some s→(A8 l)[k*2]? = some (.int .i64 s.seq)∧(A8 l)[k*2+1]? = some (.bool s.done)
 |[],_,_,h=>by cases h
 |d::l,0,s,h=>by cases h;exact⟨rfl,rfl⟩
 |d::l,k+1,s,h=>by
  have e:A8 (d::l) = .int .i64 d.seq :: .bool d.done::A8 l:=rfl
  rw [e,show(k+1)*2=k*2+1+1 by omega,List.getElem?_cons_succ,List.getElem?_cons_succ,List.getElem?_cons_succ,List.getElem?_cons_succ]
  exact Rb l k s (by simpa using h)
theorem Ea (l:List Slt):∀ u∈A8 l,u.oneCell'=true:=by
 intro u hu
 unfold A8 at hu
 obtain⟨s,_,hs⟩:=List.mem_flatMap.1 hu
 simp at hs
 rcases hs with rfl | rfl<;>rfl
def Cr (w:World) (B:Nat) (A:Option Addr) (l:List Slt):Prop:=
 l≠[]→∃ b o,A=some ⟨b,o,none⟩∧b<B∧∀ j u,(A8 l)[j]? = some u→w.cell? ⟨b,o+j,none⟩=some u
theorem Cr.below {w w':World} {B:Nat} {A:Option Addr} {l:List Slt} (h:Cr w B A l) (hb:Below B w w'):Cr w' B A l:=fun hne=>by
 obtain⟨b,o,hA,hB,hc⟩:=h hne
 exact⟨b,o,hA,hB,fun j u hj=>(hb.cell (p:=⟨b,o+j,none⟩) hB).trans (hc j u hj)⟩
theorem Cr.mono {w:World} {B B':Nat} {A:Option Addr} {l:List Slt} (h:Cr w B A l) (hB:B≤B'):Cr w B' A l:=fun hne=>by
 obtain⟨b,o,hA,hb,hc⟩:=h hne
 exact⟨b,o,hA,by omega,hc⟩
theorem Cr.at_ {w:World} {B:Nat} {A:Option Addr} {l:List Slt} (h:Cr w B A l) {k:Nat} (hk:k<l.length) :
  ∃ b o,A=some ⟨b,o,none⟩∧b<B∧w.cell? ⟨b,o+k*2,none⟩=some (.int .i64 (l[k]'hk).seq)∧w.cell? ⟨b,o+k*2+1,none⟩=some (.bool (l[k]'hk).done):=by
 have hne:l≠[]:=by intro e;subst e;simp at hk
 obtain⟨b,o,hA,hb,hc⟩:=h hne
 obtain⟨h1,h2⟩:=Rb l k _ (List.getElem?_eq_getElem hk)
 exact⟨b,o,hA,hb,hc _ _ h1,by rw [Nat.add_assoc];exact hc _ _ h2⟩
theorem Cr.cells {w:World} {B:Nat} {A:Option Addr} {l:List Slt} (h:Cr w B A l):∀ ad,A=some ad→∀ j u,(A8 l)[j]? = some u→w.cell? (ad.add j)=some u:=by
 intro ad hA j u hu
 have hne:l≠[]:=by intro e;subst e;cases hu
 obtain⟨b,o,h1,_,hc⟩:=h hne
 rw [h1] at hA
 cases hA
 rw [Addr.add_lit]
 exact hc j u hu
theorem Cr.own {w:World} {base:Nat} {A:Option Addr} {cap n:Nat} {l:List Slt} (h:w.ownsRow base 132 2 (.slice A n cap) n (A8 l)):Cr w w.heap.size A l:=fun hne=>by
 have hn:n=l.length:=by have:=h.1;rw [Gj] at this;omega
 have h0:0<l.length:=List.length_pos_iff.2 hne
 subst hn
 have hcell:=fun(g:Nat) (hg:(Value.slice A l.length cap).ownBlock=some g)=>h.cells (g:=g) hg
 rcases h.2 with⟨_,h2⟩ | ⟨g,c,cur,hv,_,hh,_⟩
 ·omega
 ·injection hv with hv1 hv2 hv3
  subst hv1
  refine⟨g,0,rfl,(Array.getElem?_eq_some_iff.1 hh).1,fun j u hj=>?_⟩
  have:=hcell g rfl j u hj
  rwa [Addr.add_lit] at this
theorem Gv:(Tryz.prog.info? 132).map (fun i=>(i.zero,i.size,i.bytes))=some (some (.agg #[.int .i64 0, .bool false]),2,16):=by kernel_rfl
theorem Gd (A:Option Addr) (n cap:Nat) (cs:List Value) (w:World) (hl:n*16≤140737488355328) (hlen:cs.length=n*2) (h1:∀ u∈cs,u.oneCell'=true)
  (hc:∀ ad,A=some ad→∀ j u,cs[j]? = some u→w.cell? (ad.add j)=some u) (hnil:A=none→n=0) :
  Calls Tryz.prog 64 #[.slice A n cap] w fun e w'=>∃ v,e = .returned v∧w'.ownsRow w.heap.size 132 2 v n cs∧Below w.heap.size w w':=by
 rcases A with _ | ad
 ·obtain rfl:=hnil rfl
  obtain rfl:cs=[]:=List.eq_nil_of_length_eq_zero (by simpa using hlen)
  have hn:=Lib.run_eql_slice_nil (P:=Tryz.prog) w 58 132 none 0 cap 0 0 Tryz.underlying58
  go_enter Tryz.func64,Tryz.ntmps64
  go_wp2
  go_ret
  exact⟨_,rfl,World.ownsRow_nil _ _ _ _,Below.refl _ _⟩
 ·have hn:=Lib.run_eql_slice_nil (P:=Tryz.prog) w 58 132 (some ad) n cap 0 0 Tryz.underlying58
  obtain⟨i0,hi,hz0,hz1,hz2⟩:=info_parts Gv
  have Hc:=Lib.hid (hc ad rfl)
  clear hc hnil
  have hown0:=World.ownsRow_lit (base:=w.heap.size) (e:=132) (size:=2) w #[] 0 (Nat.le_refl _) (by unfold maxLen;omega) rfl
  go_enter Tryz.func64,Tryz.ntmps64
  go_wp2_with(at_builtin;refine wpList_append_own _ rfl (.tmp 5) (.tmp 6) 58 rfl w.heap.size 132 i0 _ 2 16 Tryz.underlying58 hi hz0 hz1 hz2 rfl (by decide) _ 0 [] rfl hown0 ad n cap cs rfl hlen (fun j u hu=>(World.cell?_alloc_lt _ _ _ (World.block_lt_of_cell? _ _ (Hc.out j u hu))).trans (Hc.out j u hu)) h1 (by unfold maxLen;omega) (by omega) (by simp) ?_;intro v1 w1 hown1 hg1 hat1)
  go_ret
  refine⟨v1,rfl,by simpa using hown1,((Below.refl _ _).alloc (Nat.le_refl _) _).grown hg1 (by simp) (fun k hk=>?_)⟩
  cases hk
  exact Nat.le_refl _
theorem Zs (s:Slt) (seq:Int) (g:Nat) (w:World) (hg:w.cell? ⟨g,0,none⟩=some (.int .i64 seq)) (hgl:g<w.heap.size) :
  Calls Tryz.prog 88 #[.agg #[.int .i64 s.seq, .bool s.done], .pointer (some ⟨g,0,none⟩)] w fun e w'=>e = .returned (.bool (decide (seq≤s.seq)))∧Below w.heap.size w w':=by
 obtain⟨sq,dn⟩:=s
 dsimp only
 go_enter Tryz.func88,Tryz.ntmps88
 go_upto_region 1 with(fail)
 go_simp
 refine Au fun wa hq=>?_
 have hB:Blk wa w.heap.size 132 #[.int .i64 sq, .bool dn]:=by rw [hq];exact Blk.new w _ _
 have hbl:Below w.heap.size w wa:=by rw [hq];exact(Below.refl _ _).alloc (Nat.le_refl _) _
 clear hq
 have c0:wa.cell? ⟨w.heap.size,0,none⟩=some (.int .i64 sq):=hB.cell 0
 have c1:=(hbl.cell (p:=⟨g,0,none⟩) hgl).trans hg
 go_wp2
 go_ret
 exact⟨rfl,hbl⟩
theorem Agi {α:Type} (p:α→Bool) (l:List α):decide (0≤Db p l 0)=l.any p:=by
 rcases E9 p l 0 with⟨h1,h2⟩ | ⟨j,x,h1,h2,h3,_⟩
 ·have h1':Db p l 0 = -1:=h1
  rw [h1']
  have:l.any p=false:=by rw [List.any_eq_false];intro x hx;rw [h2 x hx];simp
  rw [this]
  rfl
 ·have h1':Db p l 0=j:=by simpa using h1
  rw [h1']
  have:l.any p=true:=List.any_eq_true.2 ⟨x,List.mem_of_getElem? h2,h3⟩
  rw [this]
  exact decide_eq_true (by omega)
theorem Ix {α:Type} (p:α→Bool) (l:List α) {k:Nat} (hk:k<l.length) (z:Int):Db p (l.drop k) z=if p (l[k]'hk)=true then z else Db p (l.drop (k+1)) (z+1):=by
 rw [List.drop_eq_getElem_cons hk]
 rfl
theorem U7 (A:Option Addr) (cap:Nat) (l:List Slt) (seq:Int) (g:Nat) (w:World) (hl:l.length≤140737488355328) (hA:Cr w w.heap.size A l) (hg:w.cell? ⟨g,0,none⟩=some (.int .i64 seq)) (hgl:g<w.heap.size) :
  Calls Tryz.prog 107 #[.slice A l.length cap, .func (.func 88) #[] #[.pointer (some ⟨g,0,none⟩)]] w fun e w'=>e = .returned (.int .i64 (Db (fun s=>decide (seq≤s.seq)) l 0))∧Below w.heap.size w w':=by
 obtain⟨X,hX⟩:∃ X,Db (fun s:Slt=>decide (seq≤s.seq)) l 0=X:=⟨_,rfl⟩
 rw [hX]
 obtain⟨N,hN⟩:∃ N,N=l.length:=⟨_,rfl⟩
 rw [←hN] at hl ⊢
 have HA:=Lib.hid hA
 have HN:=Lib.hid hN
 have HX:Hid (Db (fun s:Slt=>decide (seq≤s.seq)) (l.drop 0) ((0:Nat):Int)=X):=Lib.hid (by simpa using hX)
 have HG:=Lib.hid hg
 clear hA hN hX hg
 go_enter Tryz.func107,Tryz.ntmps107
 go_upto_region 2 with(fail)
 go_loopw [8] (fun v wr=>∃ k:Nat,v = .int .i64 k∧k≤N∧Below w.heap.size w wr∧Hid (Db (fun s:Slt=>decide (seq≤s.seq)) (l.drop k) k=X)) (fun v _=>N+1 - (intOf v).toNat)
 case atStart=>exact⟨0,rfl,Nat.zero_le _,Below.refl _ _,HX⟩
 case round=>
  clear HX
  obtain⟨k,rfl,hk,hb,Hk⟩:=hrel
  by_cases hlt:k<N
  ·have hk':k<l.length:=by rw [←HN.out];exact hlt
   obtain⟨b,o,rfl,hgB,c0,c1⟩:=(HA.out.below hb).at_ hk'
   have hd:=Ix (fun s:Slt=>decide (seq≤s.seq)) l hk' (k:Int)
   have CP:=Lib.hid (fun W h1 h2=>Zs (l[k]'hk') seq g W h1 h2)
   generalize l[k]'hk'=s at *
   obtain⟨sq,dn⟩:=s
   dsimp only at c0 c1 hd
   have hgr:=(hb.cell (p:=⟨g,0,none⟩) hgl).trans HG.out
   have hglr:g<wr.heap.size:=Nat.lt_of_lt_of_le hgl hb.size
   have HGR:=Lib.hid hgr
   clear hgr
   by_cases hs:seq≤sq
   ·have Hd:Hid ((k:Int)=X):=Lib.hid (by rw [if_pos (by simpa using hs)] at hd;rw [←Hk.out,hd])
    have t1:decide (seq≤sq)=true:=decide_eq_true hs
    clear hd Hk hs
    go_wp2_with(go_at_call 88;(with_reducible refine(CP.out _ HGR.out hglr).mono ?_);rintro e w2 ⟨rfl,hb2⟩)
    go_ret
    exact⟨by rw [←Hd.out];rfl,hb.trans (hb2.mono hb.size)⟩
   ·have Hd:Hid (Db (fun s:Slt=>decide (seq≤s.seq)) (l.drop (k+1)) ((k+1:Nat):Int)=X):=Lib.hid (by rw [if_neg (by simpa using hs)] at hd;rw [←Hk.out,hd];rfl)
    have t1:decide (seq≤sq)=false:=decide_eq_false hs
    clear hd Hk hs
    go_wp2_with(go_at_call 88;(with_reducible refine(CP.out _ HGR.out hglr).mono ?_);rintro e w2 ⟨rfl,hb2⟩)
    go_roundw
    case rel=>exact⟨k+1,by go_num,by omega,hb.trans (hb2.mono hb.size),Hd⟩
    case measure=>simp [intOf];omega
  ·obtain rfl:k=N:=by omega
   have e1:decide ((k:Int)<k)=false:=by simp
   have Hd:Hid ((-1:Int)=X):=Lib.hid (by rw [←Hk.out,HN.out,List.drop_length];rfl)
   clear Hk
   go_wp2
   go_ret
   exact⟨by rw [←Hd.out];rfl,hb⟩
theorem Qw (A:Option Addr) (cap:Nat) (l:List Slt) (seq:Int) (g:Nat) (w:World) (hl:l.length≤140737488355328) (hA:Cr w w.heap.size A l) (hg:w.cell? ⟨g,0,none⟩=some (.int .i64 seq)) (hgl:g<w.heap.size) :
  Calls Tryz.prog 87 #[.slice A l.length cap, .func (.func 88) #[] #[.pointer (some ⟨g,0,none⟩)]] w fun e w'=>e = .returned (.bool (l.any fun s=>decide (seq≤s.seq)))∧Below w.heap.size w w':=by
 have CI:=Lib.hid (U7 A cap l seq g w hl hA hg hgl)
 have hx:=Agi (fun s:Slt=>decide (seq≤s.seq)) l
 generalize Db (fun s:Slt=>decide (seq≤s.seq)) l 0=X at *
 generalize (l.any fun s=>decide (seq≤s.seq))=Y at *
 generalize l.length=N at *
 clear hA hg
 go_enter Tryz.func87,Tryz.ntmps87
 go_wp2_with(go_at_call 107;(with_reducible refine CI.out.mono ?_);rintro e w2 ⟨rfl,hb2⟩)
 go_ret
 refine⟨?_,hb2⟩
 first | rfl | (rw [←hx];rfl) | (rw [hx])
def Fz (w:World) (l:List Slt) (v:Value) (w':World):Prop:=
 w'.ownsRow w.heap.size 132 2 v l.length (A8 l)
theorem Zg (w:World) (seq:Int) (t:TypeId):∀ ad,some (⟨w.heap.size,0,none⟩:Addr)=some ad→∀ j v,(A8 [⟨seq,false⟩])[j]? = some v→(w.alloc (.cells #[.int .i64 seq, .bool false] t)).cell? (ad.add j)=some v:=by
 intro ad h j v hj
 cases h
 rw [Addr.add_lit,Nat.zero_add,World.cell?_alloc_new]
 have e:A8 [⟨seq,false⟩]=[.int .i64 seq, .bool false]:=rfl
 rw [e] at hj
 simpa using hj
theorem Qc {w:World} {base base':Nat} {e:TypeId} {size:Nat} {v:Value} {n:Nat} {xs:List Value} (h:w.ownsRow base e size v n xs) (hb:base'≤base):w.ownsRow base' e size v n xs:=
 ⟨h.1,h.2.imp id fun⟨g,cap,cur,e,l,r⟩=>⟨g,cap,cur,e,Nat.le_trans hb l,r⟩⟩
theorem Aik {P:Program} {ops:Array Oper} {o:Oper} {a:Act} {w:World} {K:Act→World→Prop} {Q:Exit→Act→World→Prop} {E:Prop} (hg:o.guard=none) (h:o.wp P a w K Q):if Region.wanted o (yielded ops a.tmps)=true then Oper.wp P o a w K Q else E:=by
 have hw:Region.wanted o (yielded ops a.tmps)=true:=by simp [Region.wanted,hg]
 rw [if_pos hw]
 exact h
theorem Va {W w5:World} {w:World} {seq:Int} {t:TypeId} (hW:W=w.alloc (.cells #[.int .i64 seq, .bool false] t)) (hb:Below W.heap.size W w5):∀ ad,some (⟨w.heap.size,0,none⟩:Addr)=some ad→∀ j v,(A8 [⟨seq,false⟩])[j]? = some v→w5.cell? (ad.add j)=some v:=by
 intro ad h j v hj
 have h1:=Zg w seq t ad h j v hj
 rw [←hW] at h1
 have h2:=World.block_lt_of_cell? _ _ h1
 exact(hb.cell h2).trans h1
theorem Qg (A:Option Addr) (cap:Nat) (l:List Slt) (room seq:Int) (w:World) (hl:l.length*16≤140737488351232) (hA:Cr w w.heap.size A l) (hnil:A=none→l=[]∧cap=0) :
  Calls Tryz.prog 49 #[.slice A l.length cap, .int .i64 room, .int .i64 seq] w fun e w'=>Below w.heap.size w w'∧match Jg l room seq with
   |none=>e = .returned (.tuple #[.slice none 0 0, .bool false])
   |some k=>∃ v,e = .returned (.tuple #[v, .bool true])∧Fz w k v w':=by
 have hx:Jg l room seq=if room≤l.length∨(l.any fun s=>decide (seq≤s.seq))=true then none else some (l++[⟨seq,false⟩]):=rfl
 by_cases hr:room≤(l.length:Int)
 ·rw [hx,if_pos (Or.inl hr)]
  have t1:decide (room≤(l.length:Int))=true:=decide_eq_true hr
  generalize l.length=N at *
  clear hx hr hA hnil
  go_enter Tryz.func49,Tryz.ntmps49
  go_upto_region 1 with(fail)
  go_simp
  refine Au fun wa hq=>?_
  have hbl:Below w.heap.size w wa:=by rw [hq];exact(Below.refl _ _).alloc (Nat.le_refl _) _
  clear hq
  go_wp2
  go_ret2
  exact⟨hbl,rfl⟩
 ·have t1:decide (room≤(l.length:Int))=false:=decide_eq_false hr
  have CC:=Lib.hid (fun W hW hg hgl=>Qw A cap l seq w.heap.size W (by omega) hW hg hgl)
  rcases hany:(l.any fun s=>decide (seq≤s.seq)) with _ | _
  ·rw [hany] at CC
   rw [hx,hany,if_neg (by simp;omega)]
   clear hx hr hany
   have CL:=Lib.hid (fun W hW=>Gd A l.length cap (A8 l) W (by omega) (Gj l) (Ea l) hW (fun e=>by rw [(hnil e).1];rfl))
   obtain⟨i0,hi,hz0,hz1,hz2⟩:=info_parts Gv
   go_enter Tryz.func49,Tryz.ntmps49
   go_upto_region 1 with(fail)
   go_simp
   refine Au fun wa hq=>?_
   have hB:Blk wa w.heap.size 3 #[.int .i64 seq]:=by rw [hq];exact Blk.new w _ _
   have hbl:Below w.heap.size w wa:=by rw [hq];exact(Below.refl _ _).alloc (Nat.le_refl _) _
   clear hq
   have hAa:=(hA.below hbl).mono hbl.size
   have c0:wa.cell? ⟨w.heap.size,0,none⟩=some (.int .i64 seq):=hB.cell 0
   have zB:=hB.lt
   go_upto_region 3 with(go_at_call 87;(with_reducible refine(CC.out _ hAa c0 zB).mono ?_);rintro e w2 ⟨rfl,hb2⟩)
   try go_simp
   replace hbl:=hbl.trans (hb2.mono hbl.size)
   replace hB:=hB.ext hb2
   have hA2:=(hAa.below hb2).mono hb2.size
   clear hAa hb2 CC t1 c0 zB
   have CLg:Hid (∀ W,Below w2.heap.size w2 W→Calls Tryz.prog 64 #[.slice A l.length cap] W fun e w'=>∃ v,e = .returned v∧w'.ownsRow w2.heap.size 132 2 v l.length (A8 l)∧Below w2.heap.size w2 w'∧Below W.heap.size W w'):=Lib.hid (fun W hb=>by
    refine(CL.out W ((hA2.below hb).cells)).mono ?_
    rintro e w' ⟨v,rfl,ho,hb'⟩
    refine⟨v,rfl,?_,hb.trans (hb'.mono hb.size),hb'⟩
    exact⟨ho.1,ho.2.imp id fun⟨g,cap,cur,e,l,r⟩=>⟨g,cap,cur,e,Nat.le_trans hb.size l,r⟩⟩)
   have hseq:w2.cell? ⟨w.heap.size,0,none⟩=some (.int .i64 seq):=hB.cell 0
   have zB:=hB.lt
   clear CL
   go_region_law (refine Aik rfl ?_;first
    |(refine G3 (.tmp 18) (.tmp 21) 58 rfl w2.heap.size 132 i0 _ 2 16 Tryz.underlying58 hi hz0 hz1 hz2 rfl (by decide) (.slice A5 l.length c5) l.length (A8 l) rfl (hown5.alloc _) (some ⟨w5.heap.size,0,none⟩) 1 1 (A8 [⟨seq,false⟩]) rfl rfl (fun h=>by cases h) (Zg w5 seq _) (Ea _) (by unfold maxLen;omega) (by omega) (by have:=hb5.size;simp;omega) ?_;intro v6 w6 hown6 hg6)
    |(refine G3 (.tmp 18) (.tmp 21) 58 rfl w2.heap.size 132 i0 _ 2 16 Tryz.underlying58 hi hz0 hz1 hz2 rfl (by decide) (.slice A5 l.length c5) l.length (A8 l) rfl hown5 (some ⟨w2.drew.heap.size,0,none⟩) 1 1 (A8 [⟨seq,false⟩]) rfl rfl (fun h=>by cases h) (Va rfl hb6) (Ea _) (by unfold maxLen;omega) (by omega) (by have:=hb5.size;simp;omega) ?_;intro v6 w6 hown6 hg6)
    |(go_wp2_with(go_at_call 64;refine(CLg.out _ (by first | exact(Below.refl _ _).drew | exact((Below.refl _ _).drew.alloc (Nat.le_refl _) _))).mono ?_;rintro e w5 ⟨v5,rfl,hown5,hb5,hb6⟩;have hseq5:=(hb5.cell (p:=⟨w.heap.size,0,none⟩) zB).trans hseq;obtain⟨A5,c5,rfl⟩:=Bb hown5)))
   all_goals
    have hb9:Below w2.heap.size w2 w6:=by
     first
     |exact hb5.grown hg6 (by have:=hb5.size;omega) (fun k hk=>(hown5.lt k hk).1)
     |exact(hb5.alloc hb5.size _).grown hg6 (by have:=hb5.size;simp;omega) (fun k hk=>(hown5.lt k hk).1)
    go_wp2
    go_ret2
    refine⟨hbl.trans (hb9.mono hbl.size),v6,rfl,?_⟩
    unfold Fz
    rw [Ol,List.length_append]
    exact Qc hown6 hbl.size
  ·rw [hany] at CC
   rw [hx,hany,if_pos (Or.inr rfl)]
   clear hx hr hany
   go_enter Tryz.func49,Tryz.ntmps49
   go_upto_region 1 with(fail)
   go_simp
   refine Au fun wa hq=>?_
   have hB:Blk wa w.heap.size 3 #[.int .i64 seq]:=by rw [hq];exact Blk.new w _ _
   have hbl:Below w.heap.size w wa:=by rw [hq];exact(Below.refl _ _).alloc (Nat.le_refl _) _
   clear hq
   have hAa:=(hA.below hbl).mono hbl.size
   have c0:wa.cell? ⟨w.heap.size,0,none⟩=some (.int .i64 seq):=hB.cell 0
   have zB:=hB.lt
   go_wp2_with(go_at_call 87;(with_reducible refine(CC.out _ hAa c0 zB).mono ?_);rintro e w2 ⟨rfl,hb2⟩)
   go_ret2
   exact⟨hbl.trans (hb2.mono hbl.size),rfl⟩
def isS (seq:Int) (s:Slt):Bool:=decide (s=⟨seq,false⟩)
theorem Ab4 (l:List Slt) (j:Nat) (seq:Int) (h:l[j]? = some ⟨seq,false⟩):A8 (l.set j ⟨seq,true⟩)=(A8 l).set (j*2+1) (.bool true):=by
 induction l generalizing j with
 |nil=>cases h
 |cons s l ih=>
  have e:∀ (s:Slt) (l:List Slt),A8 (s::l) = .int .i64 s.seq :: .bool s.done::A8 l:=fun _ _=>rfl
  cases j with
  |zero=>
   cases h
   rfl
  |succ j=>
   rw [List.set_cons_succ,e,e,ih j (by simpa using h),show(j+1)*2+1=j*2+1+1+1 by omega]
   rfl
theorem Aem (A:Option Addr) (cap:Nat) (l:List Slt) (seq:Int) (w:World) (hl:l.length≤140737488355328) (hA:Cr w w.heap.size A l) :
  Calls Tryz.prog 102 #[.slice A l.length cap, .agg #[.int .i64 seq, .bool false]] w fun e w'=>e = .returned (.int .i64 (Db (isS seq) l 0))∧Below w.heap.size w w':=by
 obtain⟨X,hX⟩:∃ X,Db (isS seq) l 0=X:=⟨_,rfl⟩
 rw [hX]
 obtain⟨N,hN⟩:∃ N,N=l.length:=⟨_,rfl⟩
 rw [←hN] at hl ⊢
 have HA:=Lib.hid hA
 have HN:=Lib.hid hN
 have HX:Hid (Db (isS seq) (l.drop 0) ((0:Nat):Int)=X):=Lib.hid (by simpa using hX)
 clear hA hN hX
 go_enter Tryz.func102,Tryz.ntmps102
 go_upto_region 1 with(fail)
 go_simp
 refine Au fun wa hq=>?_
 have hB:Blk wa w.heap.size 132 #[.int .i64 seq, .bool false]:=by rw [hq];exact Blk.new w _ _
 have hbl:Below w.heap.size w wa:=by rw [hq];exact(Below.refl _ _).alloc (Nat.le_refl _) _
 clear hq
 have hA0:=Lib.hid ((HA.out.below hbl).mono hbl.size)
 go_upto_region 2 with(fail)
 go_loopw [8] (fun v wr=>∃ k:Nat,v = .int .i64 k∧k≤N∧Below wa.heap.size wa wr∧Hid (Db (isS seq) (l.drop k) k=X)) (fun v _=>N+1 - (intOf v).toNat)
 case atStart=>exact⟨0,rfl,Nat.zero_le _,Below.refl _ _,HX⟩
 case round=>
  clear HX
  obtain⟨k,rfl,hk,hb,Hk⟩:=hrel
  by_cases hlt:k<N
  ·have hk':k<l.length:=by rw [←HN.out];exact hlt
   obtain⟨b,o,rfl,hgB,c0,c1⟩:=(hA0.out.below hb).at_ hk'
   have hd:=Ix (isS seq) l hk' (k:Int)
   have hBr:=hB.ext hb
   generalize l[k]'hk'=s at *
   obtain⟨sq,dn⟩:=s
   dsimp only at c0 c1
   have z1:b<wr.heap.size:=Nat.lt_of_lt_of_le hgB hb.size
   by_cases hs:isS seq ⟨sq,dn⟩=true
   ·obtain⟨rfl,rfl⟩:sq=seq∧dn=false:=by unfold isS at hs;simpa using hs
    have Hd:Hid ((k:Int)=X):=Lib.hid (by rw [if_pos hs] at hd;rw [←Hk.out,hd])
    have e1:(sq==sq)=true:=by simp
    clear hd Hk hs
    go_upto_region 4 with(fail)
    refine As (by kernel_rfl) (by kernel_rfl) ?_
    repeat'(first
     |refine Br rfl ?_
     |(refine' Bg _ (fun wq hwq K hK=>?_) ?_ ?_;rotate_left 1;(· have k0:=hwq.at_ z1 c0;have k1:=hwq.at_ z1 c1;have q0:wq.cell? ⟨w.heap.size,0,none⟩=some (.int .i64 sq):=(hBr.ext hwq).cell 0;have q1:wq.cell? ⟨w.heap.size,1,none⟩=some (.bool false):=(hBr.ext hwq).cell 1;go_wp2_with(fail);all_goals exact hK _ hwq);rfl)
     |((first | refine Bi rfl rfl rfl ?_ ?_ | refine Bh rfl rfl rfl ?_ ?_)<;>intro hc<;>first | (cases hc;done) | ((try cases hc);simp only [Act.put,sA,sS,sZ]))
     |refine Bj rfl rfl rfl ?_)
    all_goals
     refine Ch ?_
     intro w9 hw9
     go_wp2
     go_ret
     exact⟨by rw [←Hd.out];rfl,hbl.trans ((hb.trans (hw9.mono hb.size)).mono hbl.size)⟩
   ·have Hd:Hid (Db (isS seq) (l.drop (k+1)) ((k+1:Nat):Int)=X):=Lib.hid (by rw [if_neg hs] at hd;rw [←Hk.out,hd];rfl)
    have hne:sq=seq→dn=true:=fun e=>by
     subst e
     cases dn with
     |true=>rfl
     |false=>exact absurd (by unfold isS;simp) hs
    clear hd Hk hs
    by_cases hq:sq=seq
    ·obtain rfl:=hne hq
     subst hq
     clear hne
     have e1:(sq==sq)=true:=by simp
     go_upto_region 4 with(fail)
     refine As (by kernel_rfl) (by kernel_rfl) ?_
     repeat'(first
      |refine Br rfl ?_
      |(refine' Bg _ (fun wq hwq K hK=>?_) ?_ ?_;rotate_left 1;(· have k0:=hwq.at_ z1 c0;have k1:=hwq.at_ z1 c1;have q0:wq.cell? ⟨w.heap.size,0,none⟩=some (.int .i64 sq):=(hBr.ext hwq).cell 0;have q1:wq.cell? ⟨w.heap.size,1,none⟩=some (.bool false):=(hBr.ext hwq).cell 1;go_wp2_with(fail);all_goals exact hK _ hwq);rfl)
      |((first | refine Bi rfl rfl rfl ?_ ?_ | refine Bh rfl rfl rfl ?_ ?_)<;>intro hc<;>first | (cases hc;done) | ((try cases hc);simp only [Act.put,sA,sS,sZ]))
      |refine Bj rfl rfl rfl ?_)
     all_goals
      refine Ch ?_
      intro w9 hw9
      go_wp2
      go_roundw
      case rel=>exact⟨k+1,by go_num,by omega,hb.trans (hw9.mono hb.size),Hd⟩
      case measure=>simp [intOf];omega
    ·have e1:(seq==sq)=false:=by simp;omega
     clear hne hq
     go_upto_region 4 with(fail)
     refine As (by kernel_rfl) (by kernel_rfl) ?_
     repeat'(first
      |refine Br rfl ?_
      |(refine' Bg _ (fun wq hwq K hK=>?_) ?_ ?_;rotate_left 1;(· have k0:=hwq.at_ z1 c0;have k1:=hwq.at_ z1 c1;have q0:wq.cell? ⟨w.heap.size,0,none⟩=some (.int .i64 seq):=(hBr.ext hwq).cell 0;have q1:wq.cell? ⟨w.heap.size,1,none⟩=some (.bool false):=(hBr.ext hwq).cell 1;go_wp2_with(fail);all_goals exact hK _ hwq);rfl)
      |((first | refine Bi rfl rfl rfl ?_ ?_ | refine Bh rfl rfl rfl ?_ ?_)<;>intro hc<;>first | (cases hc;done) | ((try cases hc);simp only [Act.put,sA,sS,sZ]))
      |refine Bj rfl rfl rfl ?_)
     all_goals
      refine Ch ?_
      intro w9 hw9
      go_wp2
      go_roundw
      case rel=>exact⟨k+1,by go_num,by omega,hb.trans (hw9.mono hb.size),Hd⟩
      case measure=>simp [intOf];omega
  ·obtain rfl:k=N:=by omega
   have e1:decide ((k:Int)<k)=false:=by simp
   have Hd:Hid ((-1:Int)=X):=Lib.hid (by rw [←Hk.out,HN.out,List.drop_length];rfl)
   clear Hk
   go_wp2
   go_ret
   exact⟨by rw [←Hd.out];rfl,hbl.trans (hb.mono hbl.size)⟩
def Pi (w:World) (l:List Slt) (seq:Int) (e:Ending) (w':World):Prop:=
 Below w.heap.size w w'∧match It l seq with
   |none=>e = .returned (.tuple #[.slice none 0 0, .bool false])
   |some k=>∃ v,e = .returned (.tuple #[v, .bool true])∧Fz w k v w'
theorem Ad4 (l:List Slt) (seq:Int):It l seq=(if Db (isS seq) l 0<0 then none else some (l.set (Db (isS seq) l 0).toNat ⟨seq,true⟩)):=Ad3 l seq
theorem Af0 (A:Option Addr) (cap:Nat) (l:List Slt) (seq:Int) (w:World) (hl:l.length*16≤140737488351232) (hA:Cr w w.heap.size A l) (hnil:A=none→l=[]∧cap=0) :
  Calls Tryz.prog 78 #[.slice A l.length cap, .int .i64 seq] w (Pi w l seq):=by
 have CI:=Lib.hid (fun W hW=>Aem A cap l seq W (by omega) hW)
 have hx:=Ad4 l seq
 rcases E9 (isS seq) l 0 with⟨h1,_⟩ | ⟨j,s,h1,h2,h3,_⟩
 ·have h1':Db (isS seq) l 0 = -1:=h1
  rw [h1'] at CI hx
  rw [if_pos (by omega)] at hx
  have HX:=Lib.hid hx
  clear hx h1 h1'
  generalize l.length=N at *
  go_enter Tryz.func78,Tryz.ntmps78
  go_wp2_with(go_at_call 102;(with_reducible refine(CI.out _ hA).mono ?_);rintro e w2 ⟨rfl,hb2⟩)
  go_ret2
  refine⟨hb2,?_⟩
  rw [HX.out]
  rfl
 ·have h1':Db (isS seq) l 0=(j:Int):=by simpa using h1
  rw [h1'] at CI hx
  rw [if_neg (by omega),Int.toNat_natCast] at hx
  obtain rfl:s=⟨seq,false⟩:=by unfold isS at h3;simpa using h3
  have hj:j<l.length:=(List.getElem?_eq_some_iff.1 h2).1
  have hset:=Ab4 l j seq h2
  have HX:=Lib.hid hx
  have HS:=Lib.hid hset
  have CL:=Lib.hid (fun W (hW:Cr W W.heap.size A l)=>Gd A l.length cap (A8 l) W (by omega) (Gj l) (Ea l) hW.cells (fun e=>by rw [(hnil e).1];rfl))
  have hlen:(l.set j ⟨seq,true⟩).length=l.length:=List.length_set
  have HL:=Lib.hid hlen
  have hcv:=(Rb l j _ h2).2
  clear hx h1 h1' hset h2 h3 hlen
  generalize hN:l.length=N at *
  go_enter Tryz.func78,Tryz.ntmps78
  go_upto_region 4 with(go_at_call 102;(with_reducible refine(CI.out _ hA).mono ?_);rintro e w2 ⟨rfl,hb2⟩)
  try go_simp
  have hA2:=(hA.below hb2).mono hb2.size
  go_upto_region 5 with(go_at_call 64;(with_reducible refine(CL.out _ hA2).mono ?_);rintro e w3 ⟨v3,rfl,hown3,hb3⟩)
  try go_simp
  obtain⟨g,c3,hv,hgb,hgl⟩:=hown3.form (by omega)
  subst hv
  have hc:w3.cell? ⟨g,j*2+1,none⟩=some (.bool false):=(hown3.cellAt (j*2+1) (by omega)).trans hcv
  have hfz:=hown3.frozenAt (j*2+1)
  have Hown:=Lib.hid hown3
  clear hown3
  go_wp2
  go_ret2
  have e1:=Hown.out.stored (j*2+1) (.bool true)
  have hb9:=(hb2.trans (hb3.mono hb2.size)).setCell (p:=⟨g,j*2+1,none⟩) (by have:=hb2.size;simp;omega) (.bool true)
  refine⟨hb9,?_⟩
  rw [HX.out]
  refine⟨.slice (some ⟨g,0,none⟩) N c3,rfl,?_⟩
  unfold Fz
  rw [HS.out,HL.out]
  exact Qc e1.1 hb2.size
end Go.Proofs.YtapgojgcmlnbgacGreat
