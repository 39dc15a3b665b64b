/- Parts of a proof. -/
import Derived.Test.YtapgojgcmlnbgacK17
import Derived.Test.YtapgojgcmlnbgacK01
import Derived.WalkKit
import Derived.Test.YtapgojgcmlnbgacK00
import Derived.Test.YtapgojgcmlnbgacK16
set_option linter.unusedSimpArgs false
set_option linter.unusedVariables false
set_option maxRecDepth 100000
set_option maxHeartbeats 16000000
namespace Go.Proofs.Ytapgojgcmlnbgac
open Go.RowKit
def giveD (m:RMap) (p:Int):RMap:=(giveP m p).getD RMap.zero
theorem give_any {w:World} {m:RMap} {v:Value} (h:MapV w m v) (p:Int) (hp0 : -9223372036854775808≤p) (hp1:p≤9223372036854775807) (hfew:m.free.length<17592186044000) :
  Calls Try.prog 20 #[v, .int .i64 p] w fun e w'=>∃ v',e = .returned (.tuple #[v', .bool (giveP m p).isSome])∧Below w.heap.size w w'∧MapF w' w.heap.size (giveD m p) v':=by
 have hv:=h
 have hu:=fun W (hb:Below w.heap.size w W)=>other_any (h.ext hb) p hp0 hp1
 obtain⟨A,cap,rfl,h⟩:=h
 have hs:=map_info (phys:=m.phys) (A:=A) (n:=m.free.length) (cap:=cap) h.len
 have hf:=mapCells_free m.phys m.regs A m.free.length cap h.len
 rcases hok:otherP m p with _ | _
 ·have hg:giveP m p=none:=by unfold giveP;rw [if_neg (by rw [hok];simp)]
  have Htk:=Lib.hid (show giveD m p=RMap.zero by unfold giveD;rw [hg];rfl)
  rw [hg]
  rw [hok] at hu
  generalize mapCells m.phys m.regs A m.free.length cap=cs at *
  have Hu:=Lib.hid hu
  clear hu hg hok hv h hf
  go_enter Try.func20,Try.ntmps20
  go_upto_region 1 with(fail)
  go_simp
  refine wp_gen fun wa hq=>?_
  have hb2:Below w.heap.size w wa:=by rw [hq];exact((Below.refl w.heap.size w).alloc (Nat.le_refl _) _).alloc (by simp) _
  have hB:Blk wa w.heap.size 53 cs:=by rw [hq];exact(Blk.new w 53 cs).alloc _
  have hR:Blk wa (w.heap.size+1) 53 (mapCells 0 (List.replicate 32 0) none 0 0):=by rw [hq];exact Blk.newAt (w.alloc (.cells cs 53)) 53 _ (by simp)
  clear hq
  go_wp2_with(first
   |(refine wpList_load_all rfl 53 _ rfl w.heap.size rfl 53 cs _ hB Try.underlying53 rfl hs ?_)
   |(go_at_call 43;(with_reducible refine(Hu.out _ hb2).mono ?_);rintro e w2 ⟨rfl,hb3⟩;have hR2:=hR.ext hb3)
   |(refine wpList_build_to rfl 53 _ rfl [] rfl _ built_map0 ?_)
   |(refine wpList_store_all rfl 53 _ _ rfl (w.heap.size+1) (mapCells 0 (List.replicate 32 0) none 0 0) rfl rfl 53 _ hR2 zero_info rfl (map_one _ _ _ _ _) ?_;intro w5 hB5 hg5;have hld:=load_map hB5 zero_info))
  refine bodyPost_ret (results_ct Try.results20 rfl rfl hld) rfl ?_
  rw [Htk.out]
  exact⟨_,rfl,below_grown (hb2.trans (hb3.mono hb2.size)) hg5 (Nat.le_trans hb2.size hb3.size) (Nat.le_succ _),MapF.zero _ _⟩
 ·have hg:giveP m p=some ⟨m.phys,m.regs,m.free++[p]⟩:=by unfold giveP;rw [if_pos hok]
  have hgd:giveD m p=⟨m.phys,m.regs,m.free++[p]⟩:=by unfold giveD;rw [hg];rfl
  rw [hg,hgd]
  rw [hok] at hu
  simp only [Option.isSome_some]
  obtain⟨cs,hcs⟩:∃ cs,cs=mapCells m.phys m.regs A m.free.length cap:=⟨_,rfl⟩
  rw [←hcs] at hs hf hu ⊢
  have hroom:=h.room
  have hlen:=h.len
  have Hcs:=Lib.hid hcs
  have Hu:=Lib.hid hu
  have H1:=Lib.hid h
  obtain⟨n,hn⟩:∃ n,n=m.free.length:=⟨_,rfl⟩
  rw [←hn] at hfew hroom hf
  have Hn:=Lib.hid hn
  clear hu hg hgd hok hv hcs h hn
  go_enter Try.func20,Try.ntmps20
  go_upto_region 1 with(fail)
  go_simp
  refine wp_gen fun wa hq=>?_
  have hb2:Below w.heap.size w wa:=by rw [hq];exact((Below.refl w.heap.size w).alloc (Nat.le_refl _) _).alloc (by simp) _
  have hB:Blk wa w.heap.size 53 cs:=by rw [hq];exact(Blk.new w 53 cs).alloc _
  have hR:Blk wa (w.heap.size+1) 53 (mapCells 0 (List.replicate 32 0) none 0 0):=by rw [hq];exact Blk.newAt (w.alloc (.cells cs 53)) 53 _ (by simp)
  clear hq
  go_upto_region 3 with(first
   |(refine wpList_load_all rfl 53 _ rfl w.heap.size rfl 53 cs _ hB Try.underlying53 rfl hs ?_)
   |(go_at_call 43;(with_reducible refine(Hu.out _ hb2).mono ?_);rintro e w2 ⟨rfl,hb3⟩))
  have hb4:=hb2.trans (hb3.mono hb2.size)
  replace hB:=hB.ext hb3
  replace hR:=hR.ext hb3
  have c33:=hB.cell 33
  rw [hf] at c33
  have hA2:IntsAt w2 w2.heap.size .i64 A m.free:=(H1.out.free.below hb4).mono hb4.size
  have hnl:A=none→n=0:=fun e=>by rw [Hn.out,(H1.out.nil e).1];rfl
  have hln:(m.free.map (Value.int .i64)).length=n*1:=by simp [Hn.out]
  have hcells:=Lib.hid hA2.cells
  have Hnl:=Lib.hid hnl
  have Hln:=Lib.hid hln
  clear hb2 hb3 hA2 hnl hln
  obtain⟨i0,hi,hz0,hz1,hz2⟩:=info_parts ints_info
  go_upto_region 4 with(first
   |(go_at_call 44;(with_reducible refine(cloneInts_any A n cap (m.free.map (Value.int .i64)) _ (by omega) Hln.out (ints_oneCell' _) hcells.out Hnl.out).mono ?_);rintro e w5 ⟨v5,rfl,hown5,hb5⟩;have hB5:=hB.ext hb5;have hR5:=hR.ext hb5;have hb6:=hb4.trans (hb5.mono hb4.size);have zz:=hb5.size)
   |(refine wpList_append_any rfl (.tmp 13) (.tmp 15) 29 rfl w2.heap.size 3 i0 _ 1 8 Try.underlying29 hi hz0 hz1 hz2 rfl (by decide) v5 n _ rfl (hown5.alloc _) (some ⟨w5.heap.size,0,none⟩) 1 1 [.int .i64 p] rfl rfl (fun h=>by cases h) (lit_one w5 _ _) (by simp;rfl) (by unfold maxLen;omega) (by omega) (by simp;omega) ?_;intro v7 w7 hown7 hg7;have hB7:=(hB5.alloc (.cells #[.int .i64 p] 3)).grown hg7 (fun h=>by have:=hown5.lt _ h.symm;have:=hB.lt;omega);have hR7:=(hR5.alloc (.cells #[.int .i64 p] 3)).grown hg7 (fun h=>by have:=hown5.lt _ h.symm;have:=hR.lt;omega);have hb7:=(hb6.alloc hb6.size (.cells #[.int .i64 p] 3)).grown hg7 (by have:=hb6.size;simp;omega) (fun k hk=>by have:=hown5.lt _ hk;have:=hb4.size;omega);have c7:=hB7.cell 33;rw [hf] at c7;have f7:=hB7.frozen 33;obtain⟨A7,cap7,rfl,hl7,hn7,hA7,hc7,hg7'⟩:=own_ints (l:=m.free++[p]) (show w7.ownsRow w2.heap.size 3 1 v7 (n+1) ((m.free++[p]).map (.int .i64)) by rw [List.map_append];exact hown7);have Hg7:=Lib.hid (show ∀ ad,A7=some ad→w.heap.size+1<ad.block from fun ad h=>Nat.lt_of_lt_of_le hR.lt (hg7' ad h));have Hl7:=Lib.hid hl7;clear hg7' hg7 hown7 hl7))
  go_simp
  refine wp_gen fun w9 hw9=>?_
  have hB9:=hB7.set 33 (.slice A7 (n+1) cap7)
  have hb9:=hb7.setCell (p:=⟨w.heap.size,33,none⟩) (Nat.le_refl _) (.slice A7 (n+1) cap7)
  have hA9:=hA7.setCell (p:=⟨w.heap.size,33,none⟩) (.slice A7 (n+1) cap7) (fun ad h=>by have:=Hg7.out ad h;show ad.block≠w.heap.size;omega)
  have hR9:=hR7.far (p:=⟨w.heap.size,33,none⟩) (Nat.succ_ne_self _) (.slice A7 (n+1) cap7)
  have hend:cs.setIfInBounds 33 (.slice A7 (n+1) cap7)=mapCells m.phys m.regs A7 (n+1) cap7:=by
   rw [Hcs.out]
   have:=mapCells_set m.phys m.regs A A7 m.free.length cap (n+1) cap7 0 (m.regs.getD 0 0) hlen (by omega)
   have e1:m.regs.set 0 (m.regs.getD 0 0)=m.regs:=by
    have:m.regs.getD 0 0=m.regs[0]'(by omega):=by simp [List.getD,List.getElem?_eq_getElem (show 0<m.regs.length by omega)]
    rw [this,List.set_getElem_self]
   have e2:(mapCells m.phys m.regs A m.free.length cap).setIfInBounds (1+0) (.int .i64 (m.regs.getD 0 0))=mapCells m.phys m.regs A m.free.length cap:=by
    have hr0:=mapCells_reg m.phys m.regs A m.free.length cap (i:=0) (by omega)
    apply Array.ext_getElem?
    intro i
    rw [Array.getElem?_setIfInBounds]
    split
    ·rename_i hi;subst hi;rw [hr0,if_pos (by rw [mapCells_size _ _ _ _ _ hlen];omega)]
    ·rfl
   rw [e1,e2] at this
   exact this
  rw [hend] at hB9
  rw [←hw9] at hB9 hb9 hA9 hR9
  have hz9:w7.heap.size=w9.heap.size:=by rw [hw9];simp
  rw [hz9] at hA9
  clear hw9 hz9 hend hB hR hB5 hR5 hb6 hB7 hR7 hb7 hA7 c7 f7 hown5 hb5
  have hs9:=map_info (phys:=m.phys) (A:=A7) (n:=n+1) (cap:=cap7) hlen
  have h19:=map_one m.phys m.regs A7 (n+1) cap7
  obtain⟨cs9,h9⟩:∃ cs9,cs9=mapCells m.phys m.regs A7 (n+1) cap7:=⟨_,rfl⟩
  have hsz9:(mapCells m.phys m.regs A7 (n+1) cap7).size=(mapCells 0 (List.replicate 32 0) none 0 0).size:=by rw [mapCells_size _ _ _ _ _ hlen];rfl
  rw [←h9] at hsz9 hs9 h19 hB9
  have Hv9:=Lib.hid h9
  clear h9
  go_wp2_with(first
   |(refine wpList_load_all rfl 53 _ rfl w.heap.size rfl 53 cs9 _ hB9 Try.underlying53 rfl hs9 ?_)
   |(refine wpList_store_all rfl 53 _ _ rfl (w.heap.size+1) cs9 rfl rfl 53 _ hR9 hs9 hsz9 h19 ?_;intro wx hBx hgx;have hld:=load_map hBx hs9))
  refine bodyPost_ret (results_ct Try.results20 rfl rfl hld) rfl ?_
  have hm1:=H1.out
  have hlx:(m.free++[p]).length=n+1:=by simp [Hn.out]
  refine⟨_,rfl,below_grown hb9 hgx hb9.size (Nat.le_succ _),A7,cap7,by rw [Hv9.out];show _=Value.agg (mapCells m.phys m.regs A7 (m.free++[p]).length cap7);rw [hlx],?_,fun ad h=>by have:=Hg7.out ad h;omega⟩
  have hA10:=(hA9.grown (Nat.le_refl _) hgx (fun ad h=>by have:=Hg7.out ad h;omega)).mono hgx.size
  refine⟨hm1.p0,hm1.p1,hlen,by show(m.free++[p]).length≤_;omega,by show(m.free++[p]).length≤_;omega,hA10,hn7,fun x hx=>?_⟩
  rcases List.mem_append.1 hx with hx | hx
  ·exact hm1.wf x (List.mem_append_left _ hx)
  ·rcases List.mem_append.1 hx with hx | hx
   ·exact hm1.wf x (List.mem_append_right _ hx)
   ·simp at hx;subst hx;exact⟨hp0,hp1⟩
def undoD (m:RMap) (rd old:Int):RMap:=(undoP m rd old).getD RMap.zero
theorem undo_any {w:World} {m:RMap} {v:Value} (h:MapV w m v) (rd p:Int) (hr0 : -9223372036854775808≤rd) (hr1:rd≤9223372036854775807) (hp0 : -9223372036854775808≤p) (hp1:p≤9223372036854775807) (hfew:m.free.length<17592186044000) :
  Calls Try.prog 59 #[v, .int .i64 rd, .int .i64 p] w fun e w'=>∃ v',e = .returned (.tuple #[v', .bool (undoP m rd p).isSome])∧Below w.heap.size w w'∧MapF w' w.heap.size (undoD m rd p) v':=by
 have hv:=h
 have hu:=fun W (hb:Below w.heap.size w W)=>other_any (h.ext hb) p hp0 hp1
 obtain⟨A,cap,rfl,h⟩:=h
 have hs:=map_info (phys:=m.phys) (A:=A) (n:=m.free.length) (cap:=cap) h.len
 have hf:=mapCells_free m.phys m.regs A m.free.length cap h.len
 have hrg:=fun i=>mapCells_reg m.phys m.regs A m.free.length cap (i:=i)
 by_cases hok:otherP m p=true∧1≤rd∧rd≤31
 ·obtain⟨k,rfl⟩:=Int.eq_ofNat_of_zero_le (show 0≤rd by omega)
  have hg:undoP m (k:Int) p=some ⟨m.phys,m.regs.set k p,m.regs.getD k 0::m.free⟩:=by unfold undoP;rw [if_pos hok];rfl
  have hgd:undoD m (k:Int) p=⟨m.phys,m.regs.set k p,m.regs.getD k 0::m.free⟩:=by unfold undoD;rw [hg];rfl
  rw [hg,hgd]
  rw [hok.1] at hu
  obtain⟨hot,hr1,hr2⟩:=hok
  simp only [Option.isSome_some]
  have hrk:=hrg k (by rw [h.len];omega)
  obtain⟨cs,hcs⟩:∃ cs,cs=mapCells m.phys m.regs A m.free.length cap:=⟨_,rfl⟩
  rw [←hcs] at hs hf hu hrk ⊢
  have hroom:=h.room
  have hlen:=h.len
  have Hcs:=Lib.hid hcs
  have Hu:=Lib.hid hu
  have H1:=Lib.hid h
  obtain⟨n,hn⟩:∃ n,n=m.free.length:=⟨_,rfl⟩
  rw [←hn] at hfew hroom hf
  have Hn:=Lib.hid hn
  have hrw:m.regs.getD k 0∈m.regs:=by
   have:k<m.regs.length:=by omega
   simp [List.getD,List.getElem?_eq_getElem this]
  have hoo:=h.wf _ (List.mem_append_left _ hrw)
  clear hu hg hgd hot hv hcs h hn hrg hrw
  generalize m.regs.getD k 0=old at *
  go_enter Try.func59,Try.ntmps59
  go_upto_region 1 with(fail)
  go_simp
  refine wp_gen fun wa hq=>?_
  have hb2:Below w.heap.size w wa:=by rw [hq];exact((Below.refl w.heap.size w).alloc (Nat.le_refl _) _).alloc (by simp) _
  have hB:Blk wa w.heap.size 53 cs:=by rw [hq];exact(Blk.new w 53 cs).alloc _
  have hR:Blk wa (w.heap.size+1) 53 (mapCells 0 (List.replicate 32 0) none 0 0):=by rw [hq];exact Blk.newAt (w.alloc (.cells cs 53)) 53 _ (by simp)
  clear hq
  go_upto_region 3 with(first
   |(refine wpList_load_all rfl 53 _ rfl w.heap.size rfl 53 cs _ hB Try.underlying53 rfl hs ?_)
   |(go_at_call 43;(with_reducible refine(Hu.out _ hb2).mono ?_);rintro e w2 ⟨rfl,hb3⟩))
  go_simp
  have hb4:=hb2.trans (hb3.mono hb2.size)
  replace hB:=hB.ext hb3
  replace hR:=hR.ext hb3
  have hA2:IntsAt w2 w2.heap.size .i64 A m.free:=(H1.out.free.below hb4).mono hb4.size
  have HA2:=Lib.hid hA2
  clear hb2 hb3 hA2
  obtain⟨i0,hi,hz0,hz1,hz2⟩:=info_parts ints_info
  refine wp_region_ob 11423 288 11711 [0,1,2,3,4,5,7,8,10,11,6,9,12,13,14] (by kernel_rfl) (by kernel_rfl) (by kernel_rfl) rfl ?_
  repeat'(first
   |refine oQ rfl rfl ?_
   |(refine' oE _ (by decide) (by decide) (fun wq K hK=>?_) ?_ ?_;rotate_left 1;(· go_wp2_with(fail);all_goals exact hK);rfl)
   |(refine' oR _ (by decide) (by decide) (by decide) (fun wq hwq K hK=>?_) ?_ ?_;rotate_left 1;(· have c33:=(hB.ext hwq).cell 33;rw [hf] at c33;have ck:=(hB.ext hwq).cell (1+k);rw [hrk] at ck;go_wp2_with(fail);all_goals exact hK);rfl)
   |((first | refine oT rfl rfl rfl rfl ?_ ?_ | refine oF rfl rfl rfl rfl ?_ ?_)<;>intro hc<;>first | (cases hc;done) | ((try cases hc);simp only [Act.put,sA,sS,sZ]))
   |refine oU rfl rfl rfl rfl ?_)
  refine wpOW_beside (by decide) (by decide) (by decide) (by kernel_rfl) (fun w1 hw1 K1 hK1=>?_)
  have hbw:Below w2.heap.size w2 w1:=by rw [hw1];exact(Below.refl _ _).drew
  replace hb4:=hb4.trans (hbw.mono hb4.size)
  replace hB:=hB.ext hbw
  replace hR:=hR.ext hbw
  replace HA2:Hid (IntsAt w1 w1.heap.size .i64 A m.free):=Lib.hid ((HA2.out.below hbw).mono hbw.size)
  clear hw1
  have hown1:=World.ownsRow_lit (base:=w1.heap.size) (e:=3) (size:=1) w1 #[.int .i64 old] 1 (Nat.le_refl _) (by unfold maxLen;omega) rfl
  have hz1':=hbw.size
  go_wp2_with(fail)
  refine hK1 _ _ (hbw.alloc hbw.size _) ?_
  simp only [Act.put,sA,sS,sZ]
  clear hK1 K1
  refine oQ rfl rfl ?_
  refine wpOW_solo (by decide) (by decide) (by decide) (by kernel_rfl) (fun wx hwx K1 hK1=>?_)
  subst hwx
  have hnews:=((HA2.out.below ((Below.refl _ w1).alloc (Nat.le_refl _) (.cells #[.int .i64 old] 3))).cells:∀ ad,A=some ad→∀ j u,(m.free.map (Value.int .i64))[j]? = some u→(w1.alloc (.cells #[.int .i64 old] 3)).cell? (ad.add j)=some u)
  refine wp_append_any (.tmp 27) (.tmp 29) 29 rfl w1.heap.size 3 i0 _ 1 8 Try.underlying29 hi hz0 hz1 hz2 rfl (by decide) (.slice (some ⟨w1.heap.size,0,none⟩) 1 1) 1 _ rfl hown1 A n cap (m.free.map (.int .i64)) rfl (by simp [Hn.out]) (fun e=>by have:=H1.out.nil e;rw [Hn.out,this.1];exact⟨rfl,this.2⟩) hnews (ints_oneCell' _) (by unfold maxLen;omega) (by omega) (by simp) ?_
  intro v7 w7 hown7 hg7
  have hB1:=hB.lt
  have hR1:=hR.lt
  replace hB:=(hB.alloc (.cells #[.int .i64 old] 3)).grown hg7 (by simp [Value.ownBlock];omega)
  replace hR:=(hR.alloc (.cells #[.int .i64 old] 3)).grown hg7 (by simp [Value.ownBlock];omega)
  replace hb4:=(hb4.alloc hb4.size (.cells #[.int .i64 old] 3)).grown hg7 (by have:=hb4.size;simp;omega) (fun k hk=>by cases hk;exact hb4.size)
  obtain⟨A7,cap7,rfl,hl7,hn7,hA7,hc7,hg7'⟩:=own_ints (l:=old::m.free) (show w7.ownsRow w1.heap.size 3 1 v7 (1+n) ((old::m.free).map (.int .i64)) from hown7)
  have Hg7:=Lib.hid (show ∀ ad,A7=some ad→w.heap.size+1<ad.block from fun ad h=>Nat.lt_of_lt_of_le hR1 (hg7' ad h))
  have Hl7:=Lib.hid hl7
  refine hK1 _ _ (fun _=>True) trivial ?_
  simp only [Act.put,sA,sS,sZ]
  clear hK1 K1 hg7' hg7 hown7 hl7 hnews hown1 hB1 hR1 hbw hz1'
  refine oQ rfl rfl ?_
  refine wpOW_solo (by decide) (by decide) (by decide) (by kernel_rfl) (fun wx hwx K1 hK1=>?_)
  subst hwx
  have ck:=hB.cell (1+k)
  rw [hrk] at ck
  have fk:=hB.frozen (1+k)
  go_wp2_with(fail)
  refine hK1 undef _ (fun _=>True) trivial ?_
  simp only [Act.put,sA,sS,sZ]
  clear hK1 K1 ck fk
  replace hB:=hB.set (1+k) (.int .i64 p)
  replace hb4:=hb4.setCell (p:=⟨w.heap.size,1+k,none⟩) (Nat.le_refl _) (.int .i64 p)
  replace hA7:=hA7.setCell (p:=⟨w.heap.size,1+k,none⟩) (.int .i64 p) (fun ad h=>by have:=Hg7.out ad h;show ad.block≠w.heap.size;omega)
  replace hR:=hR.far (p:=⟨w.heap.size,1+k,none⟩) (Nat.succ_ne_self _) (.int .i64 p)
  repeat'(first
   |refine oQ rfl rfl ?_
   |(refine' oE _ (by decide) (by decide) (fun wq K hK=>?_) ?_ ?_;rotate_left 1;(· go_wp2_with(fail);all_goals exact hK);rfl)
   |((first | refine oT rfl rfl rfl rfl ?_ ?_ | refine oF rfl rfl rfl rfl ?_ ?_)<;>intro hc<;>first | (cases hc;done) | ((try cases hc);simp only [Act.put,sA,sS,sZ]))
   |refine oU rfl rfl rfl rfl ?_)
  refine wpOW_solo (by decide) (by decide) (by decide) (by kernel_rfl) (fun wx hwx K1 hK1=>?_)
  subst hwx
  have ck:=hB.cell 33
  have e33:(cs.setIfInBounds (1+k) (.int .i64 p))[33]? = cs[33]? := Array.getElem?_setIfInBounds_ne (by omega)
  rw [e33,hf] at ck
  have fk:=hB.frozen 33
  go_wp2_with(fail)
  refine hK1 undef _ (fun _=>True) trivial ?_
  simp only [Act.put,sA,sS,sZ]
  clear hK1 K1 ck fk e33
  replace hB:=hB.set 33 (.slice A7 (1+n) cap7)
  replace hb4:=hb4.setCell (p:=⟨w.heap.size,33,none⟩) (Nat.le_refl _) (.slice A7 (1+n) cap7)
  replace hA7:=hA7.setCell (p:=⟨w.heap.size,33,none⟩) (.slice A7 (1+n) cap7) (fun ad h=>by have:=Hg7.out ad h;show ad.block≠w.heap.size;omega)
  replace hR:=hR.far (p:=⟨w.heap.size,33,none⟩) (Nat.succ_ne_self _) (.slice A7 (1+n) cap7)
  have hend:(cs.setIfInBounds (1+k) (.int .i64 p)).setIfInBounds 33 (.slice A7 (1+n) cap7)=mapCells m.phys (m.regs.set k p) A7 (1+n) cap7:=by rw [Hcs.out];exact mapCells_set m.phys m.regs _ A7 _ _ _ cap7 k p hlen (by omega)
  rw [hend] at hB
  have hset:(m.regs.set k p).length=32:=by simp [hlen]
  refine wpO_nil ?_
  rintro w9 hw9
  have hz9:wx.heap.size=w9.heap.size:=by rw [hw9];simp
  rw [←hw9] at hB hb4 hA7 hR
  rw [hz9] at hA7
  clear hw9 hend hz9
  have hs9:=map_info (phys:=m.phys) (A:=A7) (n:=1+n) (cap:=cap7) hset
  have h19:=map_one m.phys (m.regs.set k p) A7 (1+n) cap7
  obtain⟨cs9,h9⟩:∃ cs9,cs9=mapCells m.phys (m.regs.set k p) A7 (1+n) cap7:=⟨_,rfl⟩
  have Hv9:=Lib.hid h9
  have hsz9:(mapCells m.phys (m.regs.set k p) A7 (1+n) cap7).size=(mapCells 0 (List.replicate 32 0) none 0 0).size:=by rw [mapCells_size _ _ _ _ _ hset];rfl
  rw [←h9] at hsz9 hs9 h19 hB
  clear h9
  go_wp2_with(first
   |(refine wpList_load_all rfl 53 _ rfl w.heap.size rfl 53 cs9 _ hB Try.underlying53 rfl hs9 ?_)
   |(refine wpList_store_all rfl 53 _ _ rfl (w.heap.size+1) cs9 rfl rfl 53 _ hR hs9 hsz9 h19 ?_;intro wx hBx hgx;have hld:=load_map hBx hs9))
  refine bodyPost_ret (results_ct Try.results59 rfl rfl hld) rfl ?_
  have hm1:=H1.out
  have hlx:(old::m.free).length=1+n:=by simp [Hn.out];omega
  refine⟨_,rfl,below_grown hb4 hgx hb4.size (Nat.le_succ _),A7,cap7,by rw [Hv9.out];show _=Value.agg (mapCells m.phys (m.regs.set k p) A7 (old::m.free).length cap7);rw [hlx],?_,fun ad h=>by have:=Hg7.out ad h;omega⟩
  have hA10:=(hA7.grown (Nat.le_refl _) hgx (fun ad h=>by have:=Hg7.out ad h;omega)).mono hgx.size
  refine⟨hm1.p0,hm1.p1,hset,by show(old::m.free).length≤_;omega,by show(old::m.free).length≤_;omega,hA10,hn7,fun x hx=>?_⟩
  rcases List.mem_append.1 hx with hx | hx
  ·rcases List.mem_or_eq_of_mem_set hx with hx | rfl
   ·exact hm1.wf x (List.mem_append_left _ hx)
   ·exact⟨hp0,hp1⟩
  ·rcases List.mem_cons.1 hx with rfl | hx
   ·exact hoo
   ·exact hm1.wf x (List.mem_append_right _ hx)
 ·have hg:undoP m rd p=none:=by unfold undoP;rw [if_neg hok]
  have Htk:=Lib.hid (show undoD m rd p=RMap.zero by unfold undoD;rw [hg];rfl)
  rw [hg]
  have hok':otherP m p=false∨(otherP m p=true∧rd<1)∨(otherP m p=true∧1≤rd∧31<rd):=by
   rcases ho:otherP m p with _ | _
   ·exact Or.inl rfl
   ·by_cases h1:rd<1
    ·exact Or.inr (Or.inl ⟨rfl,h1⟩)
    ·by_cases h2:31<rd
     ·exact Or.inr (Or.inr ⟨rfl,by omega,h2⟩)
     ·exact absurd ⟨ho,by omega,by omega⟩ hok
  generalize mapCells m.phys m.regs A m.free.length cap=cs at *
  generalize otherP m p=X at *
  have Hu:=Lib.hid hu
  clear hu hg hok hv h hf hrg
  rcases hok' with rfl | ⟨rfl,h1⟩ | ⟨rfl,h1,h2⟩
  ·
   go_enter Try.func59,Try.ntmps59
   go_upto_region 1 with(fail)
   go_simp
   refine wp_gen fun wa hq=>?_
   have hb2:Below w.heap.size w wa:=by rw [hq];exact((Below.refl w.heap.size w).alloc (Nat.le_refl _) _).alloc (by simp) _
   have hB:Blk wa w.heap.size 53 cs:=by rw [hq];exact(Blk.new w 53 cs).alloc _
   have hR:Blk wa (w.heap.size+1) 53 (mapCells 0 (List.replicate 32 0) none 0 0):=by rw [hq];exact Blk.newAt (w.alloc (.cells cs 53)) 53 _ (by simp)
   clear hq
   go_wp2_with(first
    |(refine wpList_load_all rfl 53 _ rfl w.heap.size rfl 53 cs _ hB Try.underlying53 rfl hs ?_)
    |(go_at_call 43;(with_reducible refine(Hu.out _ hb2).mono ?_);rintro e w2 ⟨rfl,hb3⟩;have hR2:=hR.ext hb3)
    |(refine wpList_build_to rfl 53 _ rfl [] rfl _ built_map0 ?_)
    |(refine wpList_store_all rfl 53 _ _ rfl (w.heap.size+1) (mapCells 0 (List.replicate 32 0) none 0 0) rfl rfl 53 _ hR2 zero_info rfl (map_one _ _ _ _ _) ?_;intro w5 hB5 hg5;have hld:=load_map hB5 zero_info))
   refine bodyPost_ret (results_ct Try.results59 rfl rfl hld) rfl ?_
   rw [Htk.out]
   exact⟨_,rfl,below_grown (hb2.trans (hb3.mono hb2.size)) hg5 (Nat.le_trans hb2.size hb3.size) (Nat.le_succ _),MapF.zero _ _⟩
  ·
   go_enter Try.func59,Try.ntmps59
   go_upto_region 1 with(fail)
   go_simp
   refine wp_gen fun wa hq=>?_
   have hb2:Below w.heap.size w wa:=by rw [hq];exact((Below.refl w.heap.size w).alloc (Nat.le_refl _) _).alloc (by simp) _
   have hB:Blk wa w.heap.size 53 cs:=by rw [hq];exact(Blk.new w 53 cs).alloc _
   have hR:Blk wa (w.heap.size+1) 53 (mapCells 0 (List.replicate 32 0) none 0 0):=by rw [hq];exact Blk.newAt (w.alloc (.cells cs 53)) 53 _ (by simp)
   clear hq
   go_wp2_with(first
    |(refine wpList_load_all rfl 53 _ rfl w.heap.size rfl 53 cs _ hB Try.underlying53 rfl hs ?_)
    |(go_at_call 43;(with_reducible refine(Hu.out _ hb2).mono ?_);rintro e w2 ⟨rfl,hb3⟩;have hR2:=hR.ext hb3)
    |(refine wpList_build_to rfl 53 _ rfl [] rfl _ built_map0 ?_)
    |(refine wpList_store_all rfl 53 _ _ rfl (w.heap.size+1) (mapCells 0 (List.replicate 32 0) none 0 0) rfl rfl 53 _ hR2 zero_info rfl (map_one _ _ _ _ _) ?_;intro w5 hB5 hg5;have hld:=load_map hB5 zero_info))
   refine bodyPost_ret (results_ct Try.results59 rfl rfl hld) rfl ?_
   rw [Htk.out]
   exact⟨_,rfl,below_grown (hb2.trans (hb3.mono hb2.size)) hg5 (Nat.le_trans hb2.size hb3.size) (Nat.le_succ _),MapF.zero _ _⟩
  ·
   go_enter Try.func59,Try.ntmps59
   go_upto_region 1 with(fail)
   go_simp
   refine wp_gen fun wa hq=>?_
   have hb2:Below w.heap.size w wa:=by rw [hq];exact((Below.refl w.heap.size w).alloc (Nat.le_refl _) _).alloc (by simp) _
   have hB:Blk wa w.heap.size 53 cs:=by rw [hq];exact(Blk.new w 53 cs).alloc _
   have hR:Blk wa (w.heap.size+1) 53 (mapCells 0 (List.replicate 32 0) none 0 0):=by rw [hq];exact Blk.newAt (w.alloc (.cells cs 53)) 53 _ (by simp)
   clear hq
   go_wp2_with(first
    |(refine wpList_load_all rfl 53 _ rfl w.heap.size rfl 53 cs _ hB Try.underlying53 rfl hs ?_)
    |(go_at_call 43;(with_reducible refine(Hu.out _ hb2).mono ?_);rintro e w2 ⟨rfl,hb3⟩;have hR2:=hR.ext hb3)
    |(refine wpList_build_to rfl 53 _ rfl [] rfl _ built_map0 ?_)
    |(refine wpList_store_all rfl 53 _ _ rfl (w.heap.size+1) (mapCells 0 (List.replicate 32 0) none 0 0) rfl rfl 53 _ hR2 zero_info rfl (map_one _ _ _ _ _) ?_;intro w5 hB5 hg5;have hld:=load_map hB5 zero_info))
   refine bodyPost_ret (results_ct Try.results59 rfl rfl hld) rfl ?_
   rw [Htk.out]
   exact⟨_,rfl,below_grown (hb2.trans (hb3.mono hb2.size)) hg5 (Nat.le_trans hb2.size hb3.size) (Nat.le_succ _),MapF.zero _ _⟩
end Go.Proofs.Ytapgojgcmlnbgac
namespace Go.Proofs.Ytapgojgcmlnbgac
open Go
def runP:Nat→Hart→List Int→List Com×Hart×List Int
 |0,h,m=>([],h,m)
 |n+1,h,m=>if h.state=0 then (comP h m::(runP n (goH h m) (goM h m)).1,(runP n (goH h m) (goM h m)).2) else ([],h,m)
theorem runP_stop {h:Hart} (hs:h.state≠0) (m:List Int):∀ n,runP n h m=([],h,m)
 |0=>rfl
 |n+1=>by unfold runP;rw [if_neg hs]
theorem runP_step {h:Hart} (hs:h.state=0) (m:List Int) (n:Nat):runP (n+1) h m=(comP h m::(runP n (goH h m) (goM h m)).1,(runP n (goH h m) (goM h m)).2):=by
 conv=>lhs;unfold runP
 rw [if_pos hs]
theorem runP_add (a b:Nat):∀ (h:Hart) (m:List Int),runP (a+b) h m=((runP a h m).1++(runP b (runP a h m).2.1 (runP a h m).2.2).1,(runP b (runP a h m).2.1 (runP a h m).2.2).2):=by
 induction a with
 |zero=>intro h m;simp [runP]
 |succ a ih=>
  intro h m
  rw [show a+1+b=(a+b)+1 by omega]
  by_cases hs:h.state=0
  ·rw [runP_step hs,runP_step hs,ih]
   rfl
  ·rw [runP_stop hs,runP_stop hs,runP_stop hs]
   rfl
structure RunOk (h:Hart) (m:List Int):Prop where
 hart:h.Wf
 may:mayH h=true
 bytes:Bytes m
theorem RunOk.next {h:Hart} {m:List Int} (k:RunOk h m):RunOk (goH h m) (goM h m):=
 ⟨applyH_wf (comP_wf k.hart k.bytes) k.hart,applyH_may (comP_wf k.hart k.bytes) k.may,applyM_bytes k.bytes⟩
theorem goM_length (h:Hart) (m:List Int):(goM h m).length=m.length:=applyM_length _ _
theorem runP_ok:∀ (n:Nat) {h:Hart} {m:List Int},RunOk h m→RunOk (runP n h m).2.1 (runP n h m).2.2∧(runP n h m).2.2.length=m.length∧(∀ c∈(runP n h m).1,c.Wf∧c.Fits m.length)∧(runP n h m).1.length≤n∧((runP n h m).1.length=n∨(runP n h m).2.1.state≠0)
 |0,_,_,k=>⟨k,rfl,fun c hc=>(by cases hc),Nat.le_refl _,Or.inl rfl⟩
 |n+1,h,m,k=>by
  by_cases hs:h.state=0
  ·rw [runP_step hs]
   obtain⟨h1,h2,h3,h4,h5⟩:=runP_ok n k.next
   rw [goM_length] at h2 h3
   refine⟨h1,h2,fun c hc=>?_,by simpa using h4,by simpa using h5⟩
   rcases List.mem_cons.1 hc with rfl | hc
   ·exact⟨comP_wf k.hart k.bytes,comP_fits _ _⟩
   ·exact h3 c hc
  ·rw [runP_stop hs]
   exact⟨k,rfl,fun c hc=>(by cases hc),Nat.zero_le _,Or.inr hs⟩
structure Slt where
 seq:Int
 done:Bool
 deriving DecidableEq
instance:Inhabited Slt:=⟨⟨0,false⟩⟩
def idxP {α:Type} (p:α→Bool):List α→Int→Int
 |[],_ => -1
 |x::l,k=>if p x=true then k else idxP p l (k+1)
theorem idxP_cases {α:Type} (p:α→Bool):∀ (l:List α) (k:Nat),(idxP p l k = -1∧∀ x∈l,p x=false)∨(∃ j x,idxP p l k=((k+j:Nat):Int)∧l[j]? = some x∧p x=true∧∀ i y,i<j→l[i]? = some y→p y=false)
 |[],k=>Or.inl ⟨rfl,fun x hx=>by cases hx⟩
 |x::l,k=>by
  unfold idxP
  rcases hp:p x with _ | _
  ·rw [if_neg (by simp)]
   rcases idxP_cases p l (k+1) with⟨h1,h2⟩ | ⟨j,y,h1,h2,h3,h4⟩
   ·left
    refine⟨by simpa using h1,fun y hy=>?_⟩
    rcases List.mem_cons.1 hy with rfl | hy
    ·exact hp
    ·exact h2 y hy
   ·right
    refine⟨j+1,y,?_,h2,h3,fun i z hi hz=>?_⟩
    ·rw [show((k:Int)+1)=((k+1:Nat):Int) by omega,h1];congr 1;omega
    ·cases i with
     |zero=>simp at hz;subst hz;exact hp
     |succ i=>exact h4 i z (by omega) (by simpa using hz)
  ·rw [if_pos rfl]
   exact Or.inr ⟨0,x,by simp,rfl,hp,fun i y hi=>by omega⟩
def pushP (l:List Slt) (room seq:Int):Option (List Slt):=if room≤l.length∨(l.any fun s=>decide (seq≤s.seq))=true then none else some (l++[⟨seq,false⟩])
def doneP:List Slt→Int→Option (List Slt)
 |[],_=>none
 |s::l,seq=>if s=⟨seq,false⟩ then some (⟨seq,true⟩::l) else (doneP l seq).map (s::·)
def popK:List Slt→Int→Nat
 |[],_=>0
 |s::l,most=>if 0<most∧s.done=true then 1+popK l (most - 1) else 0
def cutL (l:List Slt) (seq:Int):List Slt:=l.filter fun s=>decide (s.seq<seq)
def cutO (l:List Slt) (seq:Int):List Int:=((l.filter fun s=>decide (seq≤s.seq)).map (·.seq)).reverse
theorem doneP_idx (l:List Slt) (seq:Int):doneP l seq=(if idxP (fun s=>decide (s=⟨seq,false⟩)) l 0<0 then none else some (l.set (idxP (fun s=>decide (s=⟨seq,false⟩)) l 0).toNat ⟨seq,true⟩)):=by
 have key:∀ (l:List Slt),(∀ x∈l,decide (x=(⟨seq,false⟩:Slt))=false)→doneP l seq=none:=by
  intro l
  induction l with
  |nil=>intro _;rfl
  |cons x l ih=>
   intro h
   unfold doneP
   have hx:=of_decide_eq_false (h x (by simp))
   rw [if_neg hx,ih fun y hy=>h y (by simp [hy])]
   rfl
 have key2:∀ (l:List Slt) (j:Nat) (x:Slt),l[j]? = some x→x=⟨seq,false⟩→(∀ i y,i<j→l[i]? = some y→y≠⟨seq,false⟩)→doneP l seq=some (l.set j ⟨seq,true⟩):=by
  intro l
  induction l with
  |nil=>intro j x h;cases h
  |cons y l ih=>
   intro j x h1 h2 h3
   unfold doneP
   cases j with
   |zero=>
    simp at h1
    subst h1
    rw [if_pos h2]
    rfl
   |succ j=>
    rw [if_neg (h3 0 y (by omega) rfl),ih j x (by simpa using h1) h2 fun i z hi hz=>h3 (i+1) z (by omega) (by simpa using hz)]
    rfl
 rcases idxP_cases (fun s=>decide (s=(⟨seq,false⟩:Slt))) l 0 with⟨h1,h2⟩ | ⟨j,x,h1,h2,h3,h4⟩
 ·have h1':idxP (fun s=>decide (s=(⟨seq,false⟩:Slt))) l 0 = -1:=h1
  rw [h1',if_pos (by omega),key l h2]
 ·have h1':idxP (fun s=>decide (s=(⟨seq,false⟩:Slt))) l 0=j:=by simpa using h1
  rw [h1',if_neg (by omega)]
  exact key2 l j x h2 (of_decide_eq_true h3) fun i y hi hy=>of_decide_eq_false (h4 i y hi hy)
theorem popK_le:∀ (l:List Slt) (most:Int),popK l most≤l.length
 |[],_=>Nat.le_refl _
 |s::l,most=>by
  unfold popK
  split
  ·have:=popK_le l (most - 1)
   simp;omega
  ·exact Nat.zero_le _
theorem popK_most:∀ (l:List Slt) (most:Int),0≤most→(popK l most:Int)≤most
 |[],_,h=>h
 |s::l,most,h=>by
  unfold popK
  split
  ·have:=popK_most l (most - 1) (by omega)
   omega
  ·exact h
theorem popK_neg (l:List Slt) {most:Int} (h:most≤0):popK l most=0:=by
 cases l with
 |nil=>rfl
 |cons s l=>unfold popK;rw [if_neg (by omega)]
theorem cut_length (l:List Slt) (seq:Int):(cutL l seq).length+(cutO l seq).length=l.length:=by
 unfold cutL cutO
 induction l with
 |nil=>rfl
 |cons s l ih=>
  simp only [List.length_reverse,List.length_map] at ih ⊢
  by_cases h:s.seq<seq
  ·rw [List.filter_cons_of_pos (by simpa using h),List.filter_cons_of_neg (by simp;omega)]
   simp;omega
  ·rw [List.filter_cons_of_neg (by simpa using h),List.filter_cons_of_pos (by simp;omega)]
   simp;omega
structure Rises (l:List Slt) (last next:Int):Prop where
 rise:(l.map (·.seq)).Pairwise (· < ·)
 lo:∀ s∈l,last<s.seq
 hi:∀ s∈l,s.seq<next
theorem Rises.pushOk {l:List Slt} {last next:Int} (h:Rises l last next) (room:Int):pushP l room next=if room≤l.length then none else some (l++[⟨next,false⟩]):=by
 have ha:(l.any fun s=>decide (next≤s.seq))=false:=by
  rw [List.any_eq_false]
  intro s hs
  have:=h.hi s hs
  simp;omega
 unfold pushP
 rw [ha]
 simp
theorem Rises.seqs {l l':List Slt} {last next:Int} (h:Rises l last next) (hm:l'.map (·.seq)=l.map (·.seq)):Rises l' last next:=by
 have key:∀ s∈l',∃ t∈l,t.seq=s.seq:=fun s hs=>by
  have:s.seq∈l.map (·.seq):=by rw [←hm];exact List.mem_map_of_mem hs
  exact List.mem_map.1 this
 refine⟨by rw [hm];exact h.rise,fun s hs=>?_,fun s hs=>?_⟩
 ·obtain⟨t,ht,he⟩:=key s hs
  rw [←he];exact h.lo t ht
 ·obtain⟨t,ht,he⟩:=key s hs
  rw [←he];exact h.hi t ht
theorem Rises.sub {l l':List Slt} {last next:Int} (h:Rises l last next) (hs:l'.Sublist l):Rises l' last next:=
 ⟨h.rise.sublist (hs.map _),fun s m=>h.lo s (hs.subset m),fun s m=>h.hi s (hs.subset m)⟩
end Go.Proofs.Ytapgojgcmlnbgac
namespace Go.Proofs.Ytapgojgcmlnbgac
def manyI (m:Int):Int:=min (max m 0) 4
theorem manyI_lo (m:Int):0≤manyI m:=by unfold manyI;omega
theorem manyI_hi (m:Int):manyI m≤4:=by unfold manyI;omega
def hasB (a:Acc) (p:Int):Bool:=decide (a.at_≤p)&&decide (p<a.at_+manyI a.many)&&decide (p<4294967296)
def meetFrom (s a:Acc):Nat→Bool
 |0=>false
 |n+1=>(hasB s (s.at_+(4 - (n+1:Nat)))&&hasB a (s.at_+(4 - (n+1:Nat)))) || meetFrom s a n
def meetB (s a:Acc):Bool:=meetFrom s a 4
theorem meetFrom_step (s a:Acc) (k:Nat) (hk:k<4):meetFrom s a (4 - k)=((hasB s (s.at_+k)&&hasB a (s.at_+k)) || meetFrom s a (4 - (k+1))):=by
 obtain⟨n,hn⟩:∃ n,4 - k=n+1:=⟨3 - k,by omega⟩
 have e:((4:Int) - ((n+1:Nat):Int))=(k:Int):=by omega
 rw [hn,show 4 - (k+1)=n from by omega,meetFrom,e]
theorem meetFrom_end (s a:Acc) (k:Nat) (hk:manyI s.many≤k):meetFrom s a (4 - k)=false:=by
 obtain⟨n,hn⟩:∃ n,n=4 - k:=⟨_,rfl⟩
 have hn':4≤n+k:=by omega
 clear hn
 rw [show 4 - k=4 - k from rfl]
 generalize hm:4 - k=m
 have hm4:m≤4 - k:=by omega
 clear hm
 induction m with
 |zero=>rfl
 |succ m ih=>
  rw [meetFrom,ih (by omega)]
  have:hasB s (s.at_+(4 - ((m+1:Nat):Int)))=false:=by
   unfold hasB
   rw [decide_eq_false (p:=s.at_+(4 - ((m+1:Nat):Int))<s.at_+manyI s.many) (by omega),Bool.and_false,Bool.false_and]
  rw [this]
  rfl
def wrongStep (s:Acc) (x:Int×Bool) (a:Acc):Int×Bool:=
 if !a.store&&a.known&&a.done&&decide (s.seq<a.seq)&&meetB s a&&(!x.2 || decide (a.seq<x.1)) then (a.seq,true) else x
def isStore (seq:Int) (s:Acc):Bool:=s.store&&s.known&&decide (s.seq=seq)
def wrongGo (l:List Acc) (seq:Int):List Acc→Int×Bool
 |[]=>(0,false)
 |s::r=>if isStore seq s then l.foldl (wrongStep s) (0,false) else wrongGo l seq r
def wrongP (l:List Acc) (seq:Int):Int×Bool:=wrongGo l seq l
def notNewer (a:Acc):Option Acc→Bool
 |none=>true
 |some c=>decide (c.seq≤a.seq)
def bestStep (seq p:Int) (b:Option Acc) (a:Acc):Option Acc:=
 if a.store&&a.known&&decide (a.seq<seq)&&hasB a p&&notNewer a b then some a else b
def dataAt (a:Acc) (p:Int):Int:=a.data / ((2 ^ (8*(p - a.at_).toNat):Nat):Int)%256
def byteOf (m:List Int) (p:Int):Option Acc→Int
 |some a=>dataAt a p
 |none=>m.getD p.toNat 0
def byteP (l:List Acc) (m:List Int) (seq p:Int):Int:=byteOf m p (l.foldl (bestStep seq p) none)
def sureStep (seq:Int) (s:Bool) (a:Acc):Bool:=s&&(!a.store || decide (seq≤a.seq) || a.known)
def sureB (l:List Acc) (seq:Int):Bool:=l.foldl (sureStep seq) true
def seeW (l:List Acc) (m:List Int) (seq p many:Int):Int:=
 if many=1 then byteP l m seq p
 else if many=2 then byteP l m seq p+256*byteP l m seq (p+1)
 else byteP l m seq p+256*byteP l m seq (p+1)+65536*byteP l m seq (p+2)+16777216*byteP l m seq (p+3)
def seeOk (m:List Int) (p many:Int):Bool:=(decide (many=1) || decide (many=2) || decide (many=4))&&thereB m.length p many
def seeP (l:List Acc) (m:List Int) (seq p many:Int):Int×Bool×Bool:=
 if seeOk m p many then (seeW l m seq p many,true,sureB l seq) else (0,false,false)
theorem dataAt_bounds (a:Acc) (p:Int) (h0:0≤a.data):0≤dataAt a p∧dataAt a p≤255:=by
 unfold dataAt
 have:0≤a.data / ((2 ^ (8*(p - a.at_).toNat):Nat):Int):=Int.ediv_nonneg h0 (Int.natCast_nonneg _)
 omega
theorem best_mem {l:List Acc} {seq p:Int}:∀ {b:Option Acc} {c:Acc},l.foldl (bestStep seq p) b=some c→c∈l∨b=some c:=by
 induction l with
 |nil=>intro b c h;exact .inr h
 |cons a l ih=>
  intro b c h
  rw [List.foldl_cons] at h
  rcases ih h with h1 | h1
  ·exact .inl (List.mem_cons_of_mem _ h1)
  ·unfold bestStep at h1
   split at h1
   ·injection h1 with h1
    subst h1
    exact .inl List.mem_cons_self
   ·exact .inr h1
theorem byteP_bounds {l:List Acc} {m:List Int} (hw:∀ a∈l,a.Wf) (hb:Bytes m) (seq p:Int):0≤byteP l m seq p∧byteP l m seq p≤255:=by
 unfold byteP
 cases h:l.foldl (bestStep seq p) none with
 |none=>exact hb.getD _
 |some a=>
  rcases best_mem h with h1 | h1
  ·exact dataAt_bounds a p (hw a h1).data0
  ·cases h1
end Go.Proofs.Ytapgojgcmlnbgac
namespace Go.Proofs.Ytapgojgcmlnbgac
open Go Go.RowKit
def withinP (n:Int):Int:=if n<0 then 0 else if 3<n then 3 else n
theorem withinP_bd (n:Int):0≤withinP n∧withinP n≤3:=by unfold withinP;(repeat' split)<;>omega
def sumW (a b:Int):Int:=(a+b)%4294967296
def subW (a b:Int):Int:=(a - b)%4294967296
structure Cnt where
 lv:Int
 tg:Int
structure Vl where
 pc:Int
 last:Int
 stride:Int
 sure:Int
structure Cnt.Wf (c:Cnt):Prop where
 l0 : -9223372036854775808≤c.lv
 l1:c.lv≤9223372036854775807
 t0:0≤c.tg
 t1:c.tg≤4294967295
structure Vl.Wf (c:Vl):Prop where
 p0:0≤c.pc
 p1:c.pc≤4294967295
 l0:0≤c.last
 l1:c.last≤4294967295
 s0:0≤c.stride
 s1:c.stride≤4294967295
 u0 : -9223372036854775808≤c.sure
 u1:c.sure≤9223372036854775807
structure CntAt (cs:Array Value) (k:Nat) (c:Cnt):Prop where
 c0:cs[k*2]? = some (.int .i64 c.lv)
 c1:cs[k*2+1]? = some (.int .u32 c.tg)
structure VlAt (cs:Array Value) (k:Nat) (v:Vl):Prop where
 c0:cs[32+k*4]? = some (.int .u32 v.pc)
 c1:cs[32+k*4+1]? = some (.int .u32 v.last)
 c2:cs[32+k*4+2]? = some (.int .u32 v.stride)
 c3:cs[32+k*4+3]? = some (.int .i64 v.sure)
structure TabOk (cs:Array Value):Prop where
 size:cs.size=64
 cnt:∀ k,k<16→∃ c:Cnt,c.Wf∧CntAt cs k c
 vl:∀ k,k<8→∃ v:Vl,v.Wf∧VlAt cs k v
def setCnt (cs:Array Value) (k:Nat) (c:Cnt):Array Value:=(cs.setIfInBounds (k*2) (.int .i64 c.lv)).setIfInBounds (k*2+1) (.int .u32 c.tg)
def setVl (cs:Array Value) (k:Nat) (v:Vl):Array Value:=
 (((cs.setIfInBounds (32+k*4) (.int .u32 v.pc)).setIfInBounds (32+k*4+1) (.int .u32 v.last)).setIfInBounds (32+k*4+2) (.int .u32 v.stride)).setIfInBounds (32+k*4+3) (.int .i64 v.sure)
def learnC (c:Cnt) (taken:Bool) (target:Int):Cnt:=if taken=true then ⟨withinP (withinP c.lv+1),target⟩ else ⟨withinP (withinP c.lv - 1),c.tg⟩
def learnV (v:Vl) (pc n:Int):Vl:=
 if v.pc≠pc then ⟨pc,n,0,0⟩
 else if n=sumW v.last v.stride then ⟨v.pc,n,v.stride,withinP (withinP v.sure+1)⟩
 else ⟨v.pc,n,subW n v.last,0⟩
def cntK (pc:Int):Nat:=(pc / 4%16).toNat
def vlK (pc:Int):Nat:=(pc / 4%8).toNat
theorem set_get (cs:Array Value) (i j:Nat) (v:Value):(cs.setIfInBounds i v)[j]? = if i=j∧i<cs.size then some v else cs[j]? := by
 rw [Array.getElem?_setIfInBounds]
 by_cases h:i=j
 ·subst h
  by_cases h2:i<cs.size
  ·simp [h2]
  ·simp [h2]
 ·simp [h]
theorem setCnt_get (cs:Array Value) (k:Nat) (c:Cnt) (hs:cs.size=64) (hk:k<16) (j:Nat) :
  (setCnt cs k c)[j]? = if j=k*2 then some (.int .i64 c.lv) else if j=k*2+1 then some (.int .u32 c.tg) else cs[j]? := by
 unfold setCnt
 simp only [set_get,Array.size_setIfInBounds,hs]
 (repeat' split)<;>first | rfl | omega
theorem setVl_get (cs:Array Value) (k:Nat) (v:Vl) (hs:cs.size=64) (hk:k<8) (j:Nat) :
  (setVl cs k v)[j]? = if j=32+k*4 then some (.int .u32 v.pc) else if j=32+k*4+1 then some (.int .u32 v.last) else if j=32+k*4+2 then some (.int .u32 v.stride) else if j=32+k*4+3 then some (.int .i64 v.sure) else cs[j]? := by
 unfold setVl
 simp only [set_get,Array.size_setIfInBounds,hs]
 (repeat' split)<;>first | rfl | omega
theorem setCnt_size (cs:Array Value) (k:Nat) (c:Cnt):(setCnt cs k c).size=cs.size:=by simp [setCnt]
theorem setVl_size (cs:Array Value) (k:Nat) (v:Vl):(setVl cs k v).size=cs.size:=by simp [setVl]
theorem setCnt_at (cs:Array Value) (k:Nat) (c:Cnt) (hs:cs.size=64) (hk:k<16):CntAt (setCnt cs k c) k c:=by
 constructor<;>rw [setCnt_get cs k c hs hk]<;>simp
theorem setVl_at (cs:Array Value) (k:Nat) (v:Vl) (hs:cs.size=64) (hk:k<8):VlAt (setVl cs k v) k v:=by
 constructor<;>rw [setVl_get cs k v hs hk]<;>simp
theorem TabOk.setCnt {cs:Array Value} (h:TabOk cs) {k:Nat} (hk:k<16) {c:Cnt} (hc:c.Wf):TabOk (setCnt cs k c):=by
 refine⟨by rw [setCnt_size,h.size],fun j hj=>?_,fun j hj=>?_⟩
 ·by_cases e:j=k
  ·subst e
   exact⟨c,hc,setCnt_at cs j c h.size hk⟩
  ·obtain⟨d,hd,h0,h1⟩:=h.cnt j hj
   refine⟨d,hd,?_,?_⟩<;>rw [setCnt_get cs k c h.size hk,if_neg (by omega),if_neg (by omega)]<;>assumption
 ·obtain⟨d,hd,h0,h1,h2,h3⟩:=h.vl j hj
  refine⟨d,hd,?_,?_,?_,?_⟩<;>rw [setCnt_get cs k c h.size hk,if_neg (by omega),if_neg (by omega)]<;>assumption
theorem TabOk.setVl {cs:Array Value} (h:TabOk cs) {k:Nat} (hk:k<8) {v:Vl} (hv:v.Wf):TabOk (setVl cs k v):=by
 refine⟨by rw [setVl_size,h.size],fun j hj=>?_,fun j hj=>?_⟩
 ·obtain⟨d,hd,h0,h1⟩:=h.cnt j hj
  refine⟨d,hd,?_,?_⟩<;>rw [setVl_get cs k v h.size hk,if_neg (by omega),if_neg (by omega),if_neg (by omega),if_neg (by omega)]<;>assumption
 ·by_cases e:j=k
  ·subst e
   exact⟨v,hv,setVl_at cs j v h.size hk⟩
  ·obtain⟨d,hd,h0,h1,h2,h3⟩:=h.vl j hj
   refine⟨d,hd,?_,?_,?_,?_⟩<;>rw [setVl_get cs k v h.size hk,if_neg (by omega),if_neg (by omega),if_neg (by omega),if_neg (by omega)]<;>assumption
theorem learnC_wf {c:Cnt} (h:c.Wf) (taken:Bool) {target:Int} (t0:0≤target) (t1:target≤4294967295):(learnC c taken target).Wf:=by
 have a:=withinP_bd (withinP c.lv+1)
 have b:=withinP_bd (withinP c.lv - 1)
 unfold learnC
 split
 ·exact⟨by show _≤withinP _;omega,by show withinP _≤_;omega,t0,t1⟩
 ·exact⟨by show _≤withinP _;omega,by show withinP _≤_;omega,h.t0,h.t1⟩
theorem learnV_wf {v:Vl} (h:v.Wf) {pc n:Int} (p0:0≤pc) (p1:pc≤4294967295) (n0:0≤n) (n1:n≤4294967295):(learnV v pc n).Wf:=by
 have a:=withinP_bd (withinP v.sure+1)
 have b0:0≤subW n v.last:=by unfold subW;omega
 have b1:subW n v.last≤4294967295:=by unfold subW;omega
 unfold learnV
 split
 ·exact⟨p0,p1,n0,n1,by show(0:Int)≤0;omega,by show(0:Int)≤_;omega,by show _≤(0:Int);omega,by show(0:Int)≤_;omega⟩
 split
 ·exact⟨h.p0,h.p1,n0,n1,h.s0,h.s1,by show _≤withinP _;omega,by show withinP _≤_;omega⟩
 ·exact⟨h.p0,h.p1,n0,n1,b0,b1,by show _≤(0:Int);omega,by show(0:Int)≤_;omega⟩
def learnBranchP (cs:Array Value) (c:Cnt) (pc:Int) (taken:Bool) (target:Int):Array Value:=setCnt cs (cntK pc) (learnC c taken target)
def learnValueP (cs:Array Value) (v:Vl) (pc n:Int):Array Value:=setVl cs (vlK pc) (learnV v pc n)
def valueP (v:Vl) (pc:Int):Int×Bool:=if v.pc=pc∧2≤v.sure then (sumW v.last v.stride,true) else (0,false)
theorem cntK_lt (pc:Int):cntK pc<16:=by unfold cntK;omega
theorem vlK_lt (pc:Int):vlK pc<8:=by unfold vlK;omega
theorem cntK_eq (pc:Int):((cntK pc:Nat):Int)=pc / 4%16:=by unfold cntK;omega
theorem vlK_eq (pc:Int):((vlK pc:Nat):Int)=pc / 4%8:=by unfold vlK;omega
theorem vl_splice (cs:Array Value) (k:Nat) (v:Vl) (hs:cs.size=64) (hk:k<8):splice cs (32+k*4) [.int .u32 v.pc, .int .u32 v.last, .int .u32 v.stride, .int .i64 v.sure]=setVl cs k v:=by
 apply Array.ext_getElem?
 intro j
 rw [setVl_get cs k v hs hk,splice_get _ _ _ (by simp;omega)]
 simp only [List.length_cons,List.length_nil]
 by_cases h0:j<32+k*4
 ·rw [if_pos h0,if_neg (by omega),if_neg (by omega),if_neg (by omega),if_neg (by omega)]
 rw [if_neg h0]
 by_cases h1:j<32+k*4+(0+1+1+1+1)
 ·rw [if_pos h1]
  rcases(by omega:j=32+k*4∨j=32+k*4+1∨j=32+k*4+2∨j=32+k*4+3) with e | e | e | e
  ·rw [if_pos e,show j - (32+k*4)=0 by omega];rfl
  ·rw [if_neg (by omega),if_pos e,show j - (32+k*4)=1 by omega];rfl
  ·rw [if_neg (by omega),if_neg (by omega),if_pos e,show j - (32+k*4)=2 by omega];rfl
  ·rw [if_neg (by omega),if_neg (by omega),if_neg (by omega),if_pos e,show j - (32+k*4)=3 by omega];rfl
 ·rw [if_neg h1,if_neg (by omega),if_neg (by omega),if_neg (by omega),if_neg (by omega)]
theorem vl_ext (cs D:Array Value) (k:Nat) (v:Vl) (hs:cs.size=64) (hk:k<8) (hD:∀ j,j≠32+k*4→j≠32+k*4+1→j≠32+k*4+2→j≠32+k*4+3→D[j]? = cs[j]?) (hv:VlAt D k v):D=setVl cs k v:=by
 apply Array.ext_getElem?
 intro j
 rw [setVl_get cs k v hs hk]
 by_cases e0:j=32+k*4
 ·rw [if_pos e0,e0];exact hv.c0
 rw [if_neg e0]
 by_cases e1:j=32+k*4+1
 ·rw [if_pos e1,e1];exact hv.c1
 rw [if_neg e1]
 by_cases e2:j=32+k*4+2
 ·rw [if_pos e2,e2];exact hv.c2
 rw [if_neg e2]
 by_cases e3:j=32+k*4+3
 ·rw [if_pos e3,e3];exact hv.c3
 rw [if_neg e3]
 exact hD j e0 e1 e2 e3
def tabKinds:List (Option IntKind):=(List.replicate 16 [some .i64,some .u32]).flatten++(List.replicate 8 [some .u32,some .u32,some .u32,some .i64]).flatten
theorem wf_i64 {n:Int} (h0 : -9223372036854775808≤n) (h1:n≤9223372036854775807):(Lit.int .i64 n).wf=true:=by simp only [Lit.wf,Bool.and_eq_true,decide_eq_true_eq];exact⟨h0,h1⟩
theorem wf_u32 {n:Int} (h0:0≤n) (h1:n≤4294967295):(Lit.int .u32 n).wf=true:=by simp only [Lit.wf,Bool.and_eq_true,decide_eq_true_eq];exact⟨h0,h1⟩
theorem tabKinds_cnt:∀ k:Nat,k<16→tabKinds[k*2]? = some (some .i64)∧tabKinds[k*2+1]? = some (some .u32):=by decide
theorem tabKinds_vl:∀ k:Nat,k<8→tabKinds[32+k*4]? = some (some .u32)∧tabKinds[32+k*4+1]? = some (some .u32)∧tabKinds[32+k*4+2]? = some (some .u32)∧tabKinds[32+k*4+3]? = some (some .i64):=by decide
theorem TabOk.fits {cs:Array Value} (h:TabOk cs):Fits tabKinds cs.toList:=by
 refine Fits.mk (by simp [h.size];rfl) fun i k v hk hv=>?_
 rw [Array.getElem?_toList] at hv
 have hi:i<64:=by rw [←h.size];exact(Array.getElem?_eq_some_iff.1 hv).1
 by_cases h32:i<32
 ·obtain⟨c,wc,c0,c1⟩:=h.cnt (i / 2) (by omega)
  obtain⟨t0,t1⟩:=tabKinds_cnt (i / 2) (by omega)
  rcases(by omega:i=i / 2*2∨i=i / 2*2+1) with e | e
  ·rw [←e] at c0 t0
   rw [c0] at hv;rw [t0] at hk;cases hv;cases hk
   exact⟨_,rfl,wf_i64 wc.l0 wc.l1⟩
  ·rw [←e] at c1 t1
   rw [c1] at hv;rw [t1] at hk;cases hv;cases hk
   exact⟨_,rfl,wf_u32 wc.t0 wc.t1⟩
 ·obtain⟨c,wc,c0,c1,c2,c3⟩:=h.vl ((i - 32) / 4) (by omega)
  obtain⟨t0,t1,t2,t3⟩:=tabKinds_vl ((i - 32) / 4) (by omega)
  rcases(by omega:i=32+(i - 32) / 4*4∨i=32+(i - 32) / 4*4+1∨i=32+(i - 32) / 4*4+2∨i=32+(i - 32) / 4*4+3) with e | e | e | e
  ·rw [←e] at c0 t0
   rw [c0] at hv;rw [t0] at hk;cases hv;cases hk
   exact⟨_,rfl,wf_u32 wc.p0 wc.p1⟩
  ·rw [←e] at c1 t1
   rw [c1] at hv;rw [t1] at hk;cases hv;cases hk
   exact⟨_,rfl,wf_u32 wc.l0 wc.l1⟩
  ·rw [←e] at c2 t2
   rw [c2] at hv;rw [t2] at hk;cases hv;cases hk
   exact⟨_,rfl,wf_u32 wc.s0 wc.s1⟩
  ·rw [←e] at c3 t3
   rw [c3] at hv;rw [t3] at hk;cases hv;cases hk
   exact⟨_,rfl,wf_i64 wc.u0 wc.u1⟩
theorem TabOk.one {cs:Array Value} (h:TabOk cs):cs.all (·.oneCell')=true:=by
 rw [Array.all_eq_true_iff_forall_mem]
 intro v hv
 obtain⟨i,hi,rfl⟩:=Array.getElem_of_mem hv
 have hl:i<tabKinds.length:=by have:=h.fits.length;simp at this;omega
 have:=h.fits.get i tabKinds[i] cs[i] (List.getElem?_eq_getElem hl) (by simp)
 revert this
 cases tabKinds[i] with
 |none=>rintro⟨b,hb⟩;rw [hb];rfl
 |some q=>rintro⟨n,hn,_⟩;rw [hn];rfl
end Go.Proofs.Ytapgojgcmlnbgac
namespace Go.Proofs.Ytapgojgcmlnbgac
open Go
structure Uop where
 seq:Int
 state:Int
 ready:Int
 pc:Int
 next:Int
 ins:Ins
 cause:Int
 a:Int
 b:Int
 dest:Int
 old:Int
 guessed:Bool
 commit:Com
 deriving DecidableEq
def comZ:Com:=⟨0,0,0,0,0,0,0,0,0,false,0⟩
def uopZ:Uop:=⟨0,0,0,0,0,insN,0,0,0,0,0,false,comZ⟩
instance:Inhabited Uop:=⟨uopZ⟩
structure Core where
 window:Int
 phys:Int
 wide:Int
 commits:List Com
 hart:Hart
 mem:List Int
 cycles:Int
 taken:Int
 backs:Int
 script:List Int
 table:Array Value
 names:RMap
 words:List Int
 there:List Bool
 slots:List Slt
 ops:List Uop
 access:List Acc
 seq:Int
 pc:Int
 still:Bool
def Core.op (c:Core) (k:Nat):Uop:=c.ops.getD k uopZ
def Core.word (c:Core) (p:Int):Int:=c.words.getD p.toNat 0
def Core.has (c:Core) (p:Int):Bool:=c.there.getD p.toNat false
def headP:List Int→Int
 |[]=>0
 |n::_=>max n 0
def findU (l:List Uop) (seq:Int):Int:=idxP (fun u=>decide (u.seq=seq)) l 0
def findA (l:List Acc) (seq:Int):Int:=idxP (fun a=>decide (a.seq=seq)) l 0
def loadsB (i:Ins):Bool:=decide (11≤i.op)&&decide (i.op≤15)
def storesB (i:Ins):Bool:=decide (16≤i.op)&&decide (i.op≤18)
def aloneB (i:Ins):Bool:=decide (i.op=47) || decide (i.op=48)
def loadBytes (op:Int):Int:=[1,2,4,1,2].getD (op - 11).toNat 0
def intAt (cs:Array Value) (i:Nat):Int:=match cs[i]? with | some (.int _ n)=>n | _=>0
def cntOf (cs:Array Value) (pc:Int):Cnt:=⟨intAt cs (cntK pc*2),intAt cs (cntK pc*2+1)⟩
def vlOf (cs:Array Value) (pc:Int):Vl:=⟨intAt cs (32+vlK pc*4),intAt cs (32+vlK pc*4+1),intAt cs (32+vlK pc*4+2),intAt cs (32+vlK pc*4+3)⟩
def undoOne (ops:List Uop) (names:RMap) (s:Int):RMap:=
 let u:=ops.getD (findU ops s).toNat uopZ
 if 0<u.dest then (undoP names u.ins.rd u.old).getD RMap.zero else names
def backP (c:Core) (seq pc:Int):Core:=
 { c with backs:=c.backs+1,names:=(cutO c.slots seq).foldl (undoOne c.ops) c.names,slots:=cutL c.slots seq,ops:=c.ops.filter (fun u=>!decide (seq≤u.seq)),access:=c.access.filter (fun a=>!decide (seq≤a.seq)),pc:=pc,still:=false }
def followP (c:Core) (i:Ins) (pc:Int):Int×List Int:=
 let n:=headP c.script
 let t:=cntOf c.table pc
 if i.op=3 then (u32 (pc+i.imm),c.script)
 else if i.op=4 then (if n%4=1 then u32 (pc+4) else t.tg,c.script.tail)
 else if 5≤i.op∧i.op≤10 then (if (decide (2≤t.lv) != decide (n%3=1))=true then u32 (pc+i.imm) else u32 (pc+4),c.script.tail)
 else (u32 (pc+4),c.script)
def bytesOf (w:Int):List Int:=[w%256,w / 256%256,w / 65536%256,w / 16777216%256]
def seeIns (c:Core):Ins×Int:=
 if (seeP c.access c.mem c.seq c.pc 4).2.1=true then fetchP (bytesOf (seeP c.access c.mem c.seq c.pc 4).1) 0 else (insN,1)
def finishP (c:Core) (k:Nat):Core:=
 { c with ops:=c.ops.set k { c.op k with state:=2 },slots:=(doneP c.slots (c.op k).seq).getD [] }
def fetchC (c:Core):Bool×Core:=
 if c.still=true∨c.names.free=[] then (false,c)
 else match pushP c.slots c.window c.seq with
 |none=>(false,c)
 |some slots=>
  let f:=seeIns c
  let c1:={ c with slots:=slots,seq:=c.seq+1,taken:=c.taken+1 }
  if f.2≠0 then
   (false,finishP { c1 with ops:=c.ops++[{ uopZ with seq:=c.seq,pc:=c.pc,cause:=f.2,ins:=f.1,commit:=trapC c.pc f.2 }],still:=true } c.ops.length)
  else
   let i:=f.1
   let t:=if givesP i=true then (takeP c.names i.rd).getD (RMap.zero,0,0) else (c.names,0,0)
   let u:={ uopZ with seq:=c.seq,pc:=c.pc,ins:=i,a:=c.names.regs.getD i.rs1.toNat 0,b:=c.names.regs.getD i.rs2.toNat 0,dest:=t.2.1,old:=t.2.2 }
   let c2:={ c1 with
    names:=t.1
    there:=if givesP i=true then c.there.set t.2.1.toNat false else c.there
    access:=if (loadsB i || storesB i)=true then c.access++[(⟨c.seq,storesB i,false,0,0,0,false⟩:Acc)] else c.access }
   let fo:=followP c i c.pc
   (!aloneB i,{ c2 with ops:=c.ops++[{ u with next:=fo.1 }],script:=fo.2,pc:=fo.1,still:=aloneB i })
def putW32 (c:Core) (dest w:Int):Core:=
 if 0<dest then { c with words:=c.words.set dest.toNat w,there:=c.there.set dest.toNat true } else c
def beginP (c:Core) (k:Nat) (cycle head:Int):Bool×Core:=
 let u:=c.op k
 if u.state≠0∨c.has u.a=false∨c.has u.b=false∨(aloneB u.ins=true∧u.seq≠head) then (false,c)
 else if 38≤u.ins.op∧u.ins.op≤45 then (true,{ c with ops:=c.ops.set k { u with state:=1,ready:=cycle+3 } })
 else if loadsB u.ins=true then
  let n:=headP c.script
  let v:=valueP (vlOf c.table u.pc) u.pc
  let u1:={ u with state:=1,ready:=cycle+1+n%9 }
  let c1:={ c with script:=c.script.tail }
  if 0<u.dest∧(v.2=true∨n / 16%3=1) then
   (true,{ putW32 c1 u.dest (u32 (v.1+n / 64)) with ops:=c.ops.set k { u1 with guessed:=true } })
  else (true,{ c1 with ops:=c.ops.set k u1 })
 else (true,{ c with ops:=c.ops.set k { u with state:=1,ready:=cycle+1 } })
def regsP (c:Core) (u:Uop):Hart:=⟨(c.hart.regs.set u.ins.rs1.toNat (c.word u.a)).set u.ins.rs2.toNat (c.word u.b),u.pc,0,0⟩
def loadC (c:Core) (u:Uop):Com×List Acc:=
 let at_:=u32 ((regsP c u).reg u.ins.rs1+u.ins.imm)
 let many:=loadBytes u.ins.op
 let s:=seeP c.access c.mem u.seq at_ many
 if s.2.1=true then
  (doesP { u.ins with imm:=0 } ⟨List.replicate 32 0,u.pc,0,0⟩ (bytesOf s.1),
   let j:=(findA c.access u.seq).toNat
   c.access.set j { c.access.getD j default with known:=true,at_:=at_,many:=many,done:=true })
 else (trapC u.pc 3,c.access)
def overB (pc at_ many:Int):Bool:=decide (pc<at_+many)&&decide (at_<pc+4)
def firstStep (seq at_ many:Int) (x:Int×Bool) (v:Uop):Int×Bool:=
 if (decide (seq<v.seq)&&overB v.pc at_ many&&(!x.2 || decide (v.seq<x.1)))=true then (v.seq,true) else x
def storedP (c:Core) (k:Nat):Core:=
 let u:=c.op k
 let j:=(findA c.access u.seq).toNat
 let acc:=c.access.set j { c.access.getD j default with known:=true,at_:=u.commit.at_,many:=u.commit.many,data:=u.commit.data }
 let c1:={ c with access:=acc }
 let f:=c.ops.foldl (firstStep u.seq u.commit.at_ u.commit.many) (wrongP acc u.seq)
 if f.2=true then backP c1 f.1 (c.ops.getD (findU c.ops f.1).toNat uopZ).pc else c1
def completeP (c:Core) (k:Nat):Core:=
 let u:=c.op k
 let l:=if loadsB u.ins=true then loadC c u else (doesP u.ins (regsP c u) c.mem,c.access)
 let wrong:=u.guessed&&decide (c.word u.dest≠l.1.value)
 let c1:=putW32 { c with access:=l.2 } u.dest l.1.value
 let c2:=finishP { c1 with ops:=c.ops.set k { u with commit:=l.1 } } k
 if l.1.state≠0 then { backP c2 (u.seq+1) u.pc with still:=true }
 else
  let c3:=if (wrong || decide (l.1.next≠u.next))=true then backP { c2 with ops:=c2.ops.set k { c2.op k with next:=l.1.next } } (u.seq+1) l.1.next else c2
  if storesB u.ins=true then storedP c3 k else c3
def learnP (c:Core) (u:Uop):Core:=
 if u.ins.op=4∨(5≤u.ins.op∧u.ins.op≤10) then { c with table:=learnBranchP c.table (cntOf c.table u.pc) u.pc (decide (u.commit.next≠u32 (u.pc+4))) u.commit.next }
 else if loadsB u.ins=true then { c with table:=learnValueP c.table (vlOf c.table u.pc) u.pc u.commit.value }
 else c
def goneOne (c:Core):Core:=
 let u:=c.op 0
 let c1:={ c with ops:=c.ops.tail,hart:=applyH u.commit c.hart,mem:=applyM u.commit c.mem,commits:=c.commits++[u.commit],names:=if 0<u.dest then (giveP c.names u.old).getD RMap.zero else c.names }
 let c2:=learnP c1 u
 { c2 with access:=c2.access.filter (fun a=>!decide (a.seq=u.seq)),still:=if aloneB u.ins=true then false else c2.still }
def goneP:Nat→Core→Core
 |0,c=>c
 |n+1,c=>if (goneOne c).hart.state≠0 then goneOne c else goneP n (goneOne c)
def commitP (c:Core):Core:=goneP (popK c.slots c.wide) { c with slots:=c.slots.drop (popK c.slots c.wide) }
def finishAll:Nat→Nat→Int→Core→Core
 |0,_,_,c=>c
 |n+1,k,now,c=>
  if k<c.ops.length then
   finishAll n (k+1) now (if (c.op k).state=1∧(c.op k).ready≤now then completeP c k else c)
  else c
def beginAll:Nat→Nat→Int→Int→Core→Core
 |0,_,_,_,c=>c
 |n+1,k,some_,now,c=>
  if k<c.ops.length∧some_<c.wide then
   let b:=beginP c k now (c.op 0).seq
   beginAll n (k+1) (if b.1=true then some_+1 else some_) now b.2
  else c
def fetchAll:Nat→Core→Core
 |0,c=>c
 |n+1,c=>if (fetchC c).1=true then fetchAll n (fetchC c).2 else (fetchC c).2
def cycleP (c:Core):Core:=
 let now:=c.cycles
 let c1:=commitP { c with cycles:=c.cycles+1 }
 if c1.hart.state≠0 then c1
 else
  let c2:=finishAll c1.ops.length 0 now c1
  let c3:=beginAll c2.ops.length 0 0 now c2
  fetchAll c3.wide.toNat c3
def cyclesP:Nat→Core→Core
 |0,c=>c
 |n+1,c=>if c.hart.state=0 then cyclesP n (cycleP c) else c
def tab0:Array Value:=((List.replicate 16 [Value.int .i64 0, .int .u32 0]).flatten++(List.replicate 8 [Value.int .u32 0, .int .u32 0, .int .u32 0, .int .i64 0]).flatten).toArray
def core0 (window phys wide:Int) (h:Hart) (m:List Int) (script:List Int):Core:=
 ⟨window,phys,wide,[],h,m,0,0,0,script,tab0,(newP phys).getD RMap.zero,h.regs++List.replicate 64 0,List.replicate 32 true++List.replicate 64 false,[],[],[],0,h.pc,false⟩
def runCore (window phys wide:Int) (h:Hart) (m:List Int) (script:List Int) (cycles:Nat):Core:=cyclesP cycles (core0 window phys wide h m script)
end Go.Proofs.Ytapgojgcmlnbgac
