/- Parts of a proof. -/
import Derived.Test.YtapgojgcmlnbgacK16
set_option linter.unusedSimpArgs false
set_option linter.unusedVariables false
set_option maxRecDepth 100000
set_option maxHeartbeats 16000000
namespace Go.Proofs.Ytapgojgcmlnbgac
open Go.RowKit
theorem load_map {w:World} {g:Nat} {cs:Array Value} (h:Blk w g 53 cs) (hs:(Try.prog.info? 53).map (·.size)=some cs.size):(loadVar 53 ⟨g,0,none⟩).run Try.prog w = .ok (.agg cs) w:=by
 have:=run_loadVar_blk (P:=Try.prog) w g 0 53 53 cs cs.size _ h Try.underlying53 rfl hs (by omega)
 rw [this,extract_whole cs _ rfl]
theorem zero_info:(Try.prog.info? 53).map (·.size)=some (mapCells 0 (List.replicate 32 0) none 0 0).size:=map_info rfl
def takeD (m:RMap) (rd:Int):RMap×Int×Int:=(takeP m rd).getD (RMap.zero,0,0)
theorem take_any {w:World} {m:RMap} {v:Value} (h:MapV w m v) (rd:Int) (hr0 : -9223372036854775808≤rd) (hr1:rd≤9223372036854775807) :
  Calls Try.prog 40 #[v, .int .i64 rd] w fun e w'=>∃ v',e = .returned (.tuple #[v', .int .i64 (takeD m rd).2.1, .int .i64 (takeD m rd).2.2, .bool (takeP m rd).isSome])∧Below w.heap.size w w'∧MapF w' w.heap.size (takeD m rd).1 v':=by
 obtain⟨A,cap,rfl,h⟩:=h
 have hv:MapV w m (.agg (mapCells m.phys m.regs A m.free.length cap)):=⟨A,cap,rfl,h⟩
 have hs:=map_info (phys:=m.phys) (A:=A) (n:=m.free.length) (cap:=cap) h.len
 have hf:=mapCells_free m.phys m.regs A m.free.length cap h.len
 have hrg:=fun i=>mapCells_reg m.phys m.regs A m.free.length cap (i:=i)
 have hu:=fun W (hb:Below w.heap.size w W)=>may_any (hv.ext hb)
 by_cases hok:m.may=true∧m.free≠[]∧1≤rd∧rd≤31
 ·obtain⟨hmay,hfr,hr1,hr2⟩:=hok
  obtain⟨k,rfl⟩:=Int.eq_ofNat_of_zero_le (show 0≤rd by omega)
  obtain⟨p,f,hpf⟩:∃ p f,m.free=p::f:=by
   cases hh:m.free with
   |nil=>exact absurd hh hfr
   |cons p f=>exact⟨p,f,rfl⟩
  have htk:takeP m (k:Int)=some (⟨m.phys,m.regs.set k p,f⟩,p,m.regs.getD k 0):=by
   unfold takeP
   rw [hpf]
   simp only
   rw [if_pos ⟨hmay,hr1,hr2⟩]
   rfl
  have htd:takeD m (k:Int)=(⟨m.phys,m.regs.set k p,f⟩,p,m.regs.getD k 0):=by unfold takeD;rw [htk];rfl
  rw [htd,htk]
  have h1:=h
  obtain⟨b,o,rfl,hbw,hfc⟩:=h.free (by rw [hpf];simp)
  have cp:=hfc 0 p (by rw [hpf];rfl)
  rw [Nat.add_zero] at cp
  have cf:∀ i x,f[i]? = some x→w.cell? ⟨b,o+1+i,none⟩=some (.int .i64 x):=fun i x hx=>by
   have:=hfc (i+1) x (by rw [hpf];exact hx)
   rwa [show o+(i+1)=o+1+i by omega] at this
  have hln:m.free.length=f.length+1:=by rw [hpf];rfl
  have hroom:=h.room
  have hfew:=h.few
  have hrk:=hrg k (by rw [h.len];omega)
  obtain⟨cs,hcs⟩:∃ cs,cs=mapCells m.phys m.regs (some ⟨b,o,none⟩) (f.length+1) cap:=⟨_,rfl⟩
  have hpk : -9223372036854775808≤p∧p≤9223372036854775807:=h.wf p (by unfold RMap.all;rw [hpf];simp)
  rw [hln] at hs hf hrk hu hroom hfew ⊢
  rw [←hcs] at hs hf hrk hu ⊢
  rw [hmay] at hu
  simp only [Option.isSome_some]
  have Hcs:=Lib.hid hcs
  have Hu:=Lib.hid hu
  have Hcf:=Lib.hid cf
  have H1:=Lib.hid h1
  have hn0:(((f.length:Int)+1)==0)=false:=by simp;omega
  have hlen:=h.len
  have Hpf:=Lib.hid hpf
  clear hfc hu hcs cf h h1 hrg hv hln htk htd hmay hfr
  generalize m.regs.getD k 0=old at *
  go_enter Try.func40,Try.ntmps40
  go_upto_region 1 with(fail)
  go_simp
  refine wp_gen fun wa hq=>?_
  have hb2:Below w.heap.size w wa:=by rw [hq];exact((Below.refl w.heap.size w).alloc (Nat.le_refl _) _).alloc (by simp) _
  have hB:Blk wa w.heap.size 53 cs:=by rw [hq];exact(Blk.new w 53 cs).alloc _
  have hR:Blk wa (w.heap.size+1) 53 (mapCells 0 (List.replicate 32 0) none 0 0):=by rw [hq];exact Blk.newAt (w.alloc (.cells cs 53)) 53 _ (by simp)
  clear hq
  go_upto_region 3 with(first
   |(refine wpList_load_all rfl 53 _ rfl w.heap.size rfl 53 cs _ hB Try.underlying53 rfl hs ?_)
   |(go_at_call 69;(with_reducible refine(Hu.out _ hb2).mono ?_);rintro e w2 ⟨rfl,hb3⟩;have c33:=(hB.ext hb3).cell 33;rw [hf] at c33;have zB:=(hB.ext hb3).lt;have hR2:=hR.ext hb3))
  go_simp
  have hb4:=hb2.trans (hb3.mono hb2.size)
  replace hB:=hB.ext hb3
  replace cp:=(hb4.cell (p:=⟨b,o,none⟩) hbw).trans cp
  replace hR:=hR2
  clear hb2 hb3 hR2 zB c33
  have zb:b<w2.heap.size:=Nat.lt_of_lt_of_le hbw hb4.size
  refine wp_region_ob 885 138 1023 [0,1,2,3,4,5,6,7,8,9] (by kernel_rfl) (by kernel_rfl) (by kernel_rfl) rfl ?_
  repeat'(first
   |refine oQ rfl rfl ?_
   |(refine' oE _ (by decide) (by decide) (fun wq K hK=>?_) ?_ ?_;rotate_left 1;(· go_wp2_with(fail);all_goals exact hK);rfl)
   |(refine' oR _ (by decide) (by decide) (by decide) (fun wq hwq K hK=>?_) ?_ ?_;rotate_left 1;(· have c33:=(hB.ext hwq).cell 33;rw [hf] at c33;have ck:=(hB.ext hwq).cell (1+k);rw [hrk] at ck;have cq:=hwq.at_ zb cp;go_wp2_with(fail);all_goals exact hK);rfl)
   |((first | refine oT rfl rfl rfl rfl ?_ ?_ | refine oF rfl rfl rfl rfl ?_ ?_)<;>intro hc<;>first | (cases hc;done) | ((try cases hc);simp only [Act.put,sA,sS,sZ]))
   |refine oU rfl rfl rfl rfl ?_)
  refine wpO_nil ?_
  rintro w4 rfl
  go_upto_region 4 with(fail)
  go_simp
  replace hb4:=hb4.drew
  replace hB:=hB.ext (Below.refl _ _).drew
  replace hR:=hR.ext (Below.refl _ _).drew
  replace cp:=((Below.refl w2.heap.size w2).drew.cell (p:=⟨b,o,none⟩) zb).trans cp
  replace zb:b<w2.drew.heap.size:=zb
  generalize w2.drew=w3 at *
  by_cases hc1:cap=1
  ·subst hc1
   have hfz:f=[]:=List.eq_nil_of_length_eq_zero (by omega)
   have Hfz:=Lib.hid hfz
   clear hfz
   have hnews:∀ W,W=w3.drew→∀ ad,some (⟨b,o,none⟩:Addr)=some ad→∀ j u,(List.map (Value.int .i64) f)[j]? = some u→W.cell? (ad.add j)=some u:=by
    intro W hW ad had j u hu
    obtain rfl:=Option.some.inj had
    rw [Addr.add_lit]
    rw [List.getElem?_map] at hu
    obtain⟨x,hx,rfl⟩:=Option.map_eq_some_iff.1 hu
    rw [hW]
    first | (rw [Hfz.out] at hx;simp at hx;done) | exact(hb4.drew.cell hbw).trans (Hcf.out j x hx)
   refine wp_region_ob 727 8 735 [0,1,2,3,4,6,7,5,8,9,10] (by kernel_rfl) (by kernel_rfl) (by kernel_rfl) rfl ?_
   repeat'(first
    |refine oQ rfl rfl ?_
    |(refine' oE _ (by decide) (by decide) (fun wq K hK=>?_) ?_ ?_;rotate_left 1;(· go_wp2_with(fail);all_goals exact hK);rfl)
    |(refine' oR _ (by decide) (by decide) (by decide) (fun wq hwq K hK=>?_) ?_ ?_;rotate_left 1;(· have c33:=(hB.ext hwq).cell 33;rw [hf] at c33;go_wp2_with(fail);all_goals exact hK);rfl)
    |((first | refine oT rfl rfl rfl rfl ?_ ?_ | refine oF rfl rfl rfl rfl ?_ ?_)<;>intro hc<;>first | (cases hc;done) | ((try cases hc);simp only [Act.put,sA,sS,sZ]))
    |refine oU rfl rfl rfl rfl ?_)
   refine wpOW_solo (by decide) (by decide) (by decide) (by kernel_rfl) (fun w1 hw1 K1 hK1=>?_)
   have hnews:=hnews w1 hw1
   have hb4':Below w.heap.size w w1:=by rw [hw1];exact hb4.drew
   have hB':Blk w1 w.heap.size 53 cs:=by rw [hw1];exact hB.ext (Below.refl _ _).drew
   have hR':Blk w1 (w.heap.size+1) 53 (mapCells 0 (List.replicate 32 0) none 0 0):=by rw [hw1];exact hR.ext (Below.refl _ _).drew
   clear hw1
   go_wp2_with(go_at_call 44;(with_reducible refine(cloneInts_any (some ⟨b,o,none⟩) 0 0 (List.map (Value.int .i64) f) _ (by first | decide | omega) (by first | (simp;done) | simp [Hfz.out]) (ints_oneCell' _) hnews (fun h=>by cases h)).mono ?_);rintro e w5 ⟨v5,rfl,hown5,hb5⟩)
   refine hK1 _ _ (fun _=>True) trivial ?_
   simp only [Act.put,sA,sS,sZ]
   clear hK1 K1 hnews
   replace hB:=hB'.ext hb5
   replace hR:=hR'.ext hb5
   replace hb4:=hb4'.trans (hb5.mono hb4'.size)
   obtain⟨A5,cap5,rfl,hl5,hn5,hA5,hc5,hg5⟩:=own_ints hown5
   have Hg5:=Lib.hid (show ∀ ad,A5=some ad→w.heap.size+1<ad.block from fun ad h=>Nat.lt_of_lt_of_le hR'.lt (hg5 ad h))
   have Hl5:=Lib.hid hl5
   clear hown5 hb5 hB' hR' hb4' zb cp hl5 hg5
   refine oQ rfl rfl ?_
   refine wpOW_solo (by decide) (by decide) (by decide) (by kernel_rfl) (fun w1 hw1 K1 hK1=>?_)
   subst hw1
   have ck:=hB.cell (1+k)
   rw [hrk] at ck
   have fk:=hB.frozen (1+k)
   go_wp2_with(fail)
   refine hK1 undef _ (fun _=>True) trivial ?_
   simp only [Act.put,sA,sS,sZ]
   clear hK1 K1 ck fk
   replace hB:=hB.set (1+k) (.int .i64 p)
   replace hb4:=hb4.setCell (p:=⟨w.heap.size,1+k,none⟩) (Nat.le_refl _) (.int .i64 p)
   replace hA5:=hA5.setCell (p:=⟨w.heap.size,1+k,none⟩) (.int .i64 p) (fun ad h=>by have:=Hg5.out ad h;show ad.block≠w.heap.size;omega)
   replace hR:=hR.far (p:=⟨w.heap.size,1+k,none⟩) (Nat.succ_ne_self _) (.int .i64 p)
   repeat'(first
    |refine oQ rfl rfl ?_
    |(refine' oE _ (by decide) (by decide) (fun wq K hK=>?_) ?_ ?_;rotate_left 1;(· go_wp2_with(fail);all_goals exact hK);rfl)
    |((first | refine oT rfl rfl rfl rfl ?_ ?_ | refine oF rfl rfl rfl rfl ?_ ?_)<;>intro hc<;>first | (cases hc;done) | ((try cases hc);simp only [Act.put,sA,sS,sZ]))
    |refine oU rfl rfl rfl rfl ?_)
   refine wpOW_solo (by decide) (by decide) (by decide) (by kernel_rfl) (fun w1 hw1 K1 hK1=>?_)
   subst hw1
   have ck:=hB.cell 33
   have e33:(cs.setIfInBounds (1+k) (.int .i64 p))[33]? = cs[33]? := Array.getElem?_setIfInBounds_ne (by omega)
   rw [e33,hf] at ck
   have fk:=hB.frozen 33
   go_wp2_with(fail)
   refine hK1 undef _ (fun _=>True) trivial ?_
   simp only [Act.put,sA,sS,sZ]
   clear hK1 K1 ck fk e33
   replace hB:=hB.set 33 (.slice A5 0 cap5)
   replace hb4:=hb4.setCell (p:=⟨w.heap.size,33,none⟩) (Nat.le_refl _) (.slice A5 0 cap5)
   replace hA5:=hA5.setCell (p:=⟨w.heap.size,33,none⟩) (.slice A5 0 cap5) (fun ad h=>by have:=Hg5.out ad h;show ad.block≠w.heap.size;omega)
   replace hR:=hR.far (p:=⟨w.heap.size,33,none⟩) (Nat.succ_ne_self _) (.slice A5 0 cap5)
   have hend:(cs.setIfInBounds (1+k) (.int .i64 p)).setIfInBounds 33 (.slice A5 0 cap5)=mapCells m.phys (m.regs.set k p) A5 0 cap5:=by rw [Hcs.out];exact mapCells_set m.phys m.regs _ A5 _ _ _ cap5 k p hlen (by omega)
   rw [hend] at hB
   have hset:(m.regs.set k p).length=32:=by simp [hlen]
   refine wpO_nil ?_
   rintro w9 hw9
   have hz9:w1.heap.size=w9.heap.size:=by rw [hw9];simp
   rw [←hw9] at hB hb4 hA5 hR
   rw [hz9] at hA5
   clear hw9 hend hz9
   have hs9:=map_info (phys:=m.phys) (A:=A5) (n:=0) (cap:=cap5) hset
   have h19:=map_one m.phys (m.regs.set k p) A5 0 cap5
   have hv9:mapCells m.phys (m.regs.set k p) A5 0 cap5=mapCells m.phys (m.regs.set k p) A5 f.length cap5:=by first | rfl | rw [Hfz.out];rfl
   obtain⟨cs9,h9⟩:∃ cs9,cs9=mapCells m.phys (m.regs.set k p) A5 0 cap5:=⟨_,rfl⟩
   have Hv9:=Lib.hid (h9.trans hv9)
   have hsz9:(mapCells m.phys (m.regs.set k p) A5 0 cap5).size=(mapCells 0 (List.replicate 32 0) none 0 0).size:=by rw [mapCells_size _ _ _ _ _ hset];rfl
   rw [←h9] at hsz9 hs9 h19 hB
   clear hv9 h9
   have hb9:=hb4.size
   go_wp2_with(first
    |(refine wpList_load_all rfl 53 _ rfl w.heap.size rfl 53 cs9 _ hB Try.underlying53 rfl hs9 ?_)
    |(refine wpList_store_all rfl 53 _ _ rfl (w.heap.size+1) cs9 rfl rfl 53 _ hR hs9 hsz9 h19 ?_;intro w5 hB5 hg5;have hld:=load_map hB5 hs9))
   refine bodyPost_ret (results_cttt Try.results40 rfl rfl rfl rfl hld) rfl ?_
   refine⟨_,rfl,below_grown hb4 hg5 hb4.size (Nat.le_succ _),A5,cap5,by rw [Hv9.out],?_,fun ad h=>by have:=Hg5.out ad h;omega⟩
   have hm1:=H1.out
   have hA9:=(hA5.grown (Nat.le_refl _) hg5 (fun ad h=>by have:=Hg5.out ad h;omega)).mono hg5.size
   have hc9:f.length≤cap5:=by first | exact hc5 | (rw [Hfz.out];exact Nat.zero_le _)
   refine⟨hm1.p0,hm1.p1,hset,by show f.length≤_;omega,hc9,hA9,hn5,fun x hx=>?_⟩
   rcases List.mem_append.1 hx with hx | hx
   ·rcases List.mem_or_eq_of_mem_set hx with hx | rfl
    ·exact hm1.wf x (List.mem_append_left _ hx)
    ·exact hpk
   ·exact hm1.wf x (List.mem_append_right _ (by rw [Hpf.out];exact List.mem_cons_of_mem _ hx))
  ·have Hcf2:=Hcf
   have hnews:∀ W,W=w3.drew→∀ ad,some (⟨b,(o+1),none⟩:Addr)=some ad→∀ j u,(List.map (Value.int .i64) f)[j]? = some u→W.cell? (ad.add j)=some u:=by
    intro W hW ad had j u hu
    obtain rfl:=Option.some.inj had
    rw [Addr.add_lit]
    rw [List.getElem?_map] at hu
    obtain⟨x,hx,rfl⟩:=Option.map_eq_some_iff.1 hu
    rw [hW]
    first | (rw [Hfz.out] at hx;simp at hx;done) | exact(hb4.drew.cell hbw).trans (Hcf.out j x hx)
   refine wp_region_ob 727 8 735 [0,1,2,3,4,6,7,5,8,9,10] (by kernel_rfl) (by kernel_rfl) (by kernel_rfl) rfl ?_
   repeat'(first
    |refine oQ rfl rfl ?_
    |(refine' oE _ (by decide) (by decide) (fun wq K hK=>?_) ?_ ?_;rotate_left 1;(· go_wp2_with(fail);all_goals exact hK);rfl)
    |(refine' oR _ (by decide) (by decide) (by decide) (fun wq hwq K hK=>?_) ?_ ?_;rotate_left 1;(· have c33:=(hB.ext hwq).cell 33;rw [hf] at c33;go_wp2_with(fail);all_goals exact hK);rfl)
    |((first | refine oT rfl rfl rfl rfl ?_ ?_ | refine oF rfl rfl rfl rfl ?_ ?_)<;>intro hc<;>first | (cases hc;done) | ((try cases hc);simp only [Act.put,sA,sS,sZ]))
    |refine oU rfl rfl rfl rfl ?_)
   refine wpOW_solo (by decide) (by decide) (by decide) (by kernel_rfl) (fun w1 hw1 K1 hK1=>?_)
   have hnews:=hnews w1 hw1
   have hb4':Below w.heap.size w w1:=by rw [hw1];exact hb4.drew
   have hB':Blk w1 w.heap.size 53 cs:=by rw [hw1];exact hB.ext (Below.refl _ _).drew
   have hR':Blk w1 (w.heap.size+1) 53 (mapCells 0 (List.replicate 32 0) none 0 0):=by rw [hw1];exact hR.ext (Below.refl _ _).drew
   clear hw1
   go_wp2_with(go_at_call 44;(with_reducible refine(cloneInts_any (some ⟨b,(o+1),none⟩) f.length (cap - 1) (List.map (Value.int .i64) f) _ (by first | decide | omega) (by first | (simp;done) | simp [Hfz.out]) (ints_oneCell' _) hnews (fun h=>by cases h)).mono ?_);rintro e w5 ⟨v5,rfl,hown5,hb5⟩)
   refine hK1 _ _ (fun _=>True) trivial ?_
   simp only [Act.put,sA,sS,sZ]
   clear hK1 K1 hnews
   replace hB:=hB'.ext hb5
   replace hR:=hR'.ext hb5
   replace hb4:=hb4'.trans (hb5.mono hb4'.size)
   obtain⟨A5,cap5,rfl,hl5,hn5,hA5,hc5,hg5⟩:=own_ints hown5
   have Hg5:=Lib.hid (show ∀ ad,A5=some ad→w.heap.size+1<ad.block from fun ad h=>Nat.lt_of_lt_of_le hR'.lt (hg5 ad h))
   have Hl5:=Lib.hid hl5
   clear hown5 hb5 hB' hR' hb4' zb cp hl5 hg5
   refine oQ rfl rfl ?_
   refine wpOW_solo (by decide) (by decide) (by decide) (by kernel_rfl) (fun w1 hw1 K1 hK1=>?_)
   subst hw1
   have ck:=hB.cell (1+k)
   rw [hrk] at ck
   have fk:=hB.frozen (1+k)
   go_wp2_with(fail)
   refine hK1 undef _ (fun _=>True) trivial ?_
   simp only [Act.put,sA,sS,sZ]
   clear hK1 K1 ck fk
   replace hB:=hB.set (1+k) (.int .i64 p)
   replace hb4:=hb4.setCell (p:=⟨w.heap.size,1+k,none⟩) (Nat.le_refl _) (.int .i64 p)
   replace hA5:=hA5.setCell (p:=⟨w.heap.size,1+k,none⟩) (.int .i64 p) (fun ad h=>by have:=Hg5.out ad h;show ad.block≠w.heap.size;omega)
   replace hR:=hR.far (p:=⟨w.heap.size,1+k,none⟩) (Nat.succ_ne_self _) (.int .i64 p)
   repeat'(first
    |refine oQ rfl rfl ?_
    |(refine' oE _ (by decide) (by decide) (fun wq K hK=>?_) ?_ ?_;rotate_left 1;(· go_wp2_with(fail);all_goals exact hK);rfl)
    |((first | refine oT rfl rfl rfl rfl ?_ ?_ | refine oF rfl rfl rfl rfl ?_ ?_)<;>intro hc<;>first | (cases hc;done) | ((try cases hc);simp only [Act.put,sA,sS,sZ]))
    |refine oU rfl rfl rfl rfl ?_)
   refine wpOW_solo (by decide) (by decide) (by decide) (by kernel_rfl) (fun w1 hw1 K1 hK1=>?_)
   subst hw1
   have ck:=hB.cell 33
   have e33:(cs.setIfInBounds (1+k) (.int .i64 p))[33]? = cs[33]? := Array.getElem?_setIfInBounds_ne (by omega)
   rw [e33,hf] at ck
   have fk:=hB.frozen 33
   go_wp2_with(fail)
   refine hK1 undef _ (fun _=>True) trivial ?_
   simp only [Act.put,sA,sS,sZ]
   clear hK1 K1 ck fk e33
   replace hB:=hB.set 33 (.slice A5 f.length cap5)
   replace hb4:=hb4.setCell (p:=⟨w.heap.size,33,none⟩) (Nat.le_refl _) (.slice A5 f.length cap5)
   replace hA5:=hA5.setCell (p:=⟨w.heap.size,33,none⟩) (.slice A5 f.length cap5) (fun ad h=>by have:=Hg5.out ad h;show ad.block≠w.heap.size;omega)
   replace hR:=hR.far (p:=⟨w.heap.size,33,none⟩) (Nat.succ_ne_self _) (.slice A5 f.length cap5)
   have hend:(cs.setIfInBounds (1+k) (.int .i64 p)).setIfInBounds 33 (.slice A5 f.length cap5)=mapCells m.phys (m.regs.set k p) A5 f.length cap5:=by rw [Hcs.out];exact mapCells_set m.phys m.regs _ A5 _ _ _ cap5 k p hlen (by omega)
   rw [hend] at hB
   have hset:(m.regs.set k p).length=32:=by simp [hlen]
   refine wpO_nil ?_
   rintro w9 hw9
   have hz9:w1.heap.size=w9.heap.size:=by rw [hw9];simp
   rw [←hw9] at hB hb4 hA5 hR
   rw [hz9] at hA5
   clear hw9 hend hz9
   have hs9:=map_info (phys:=m.phys) (A:=A5) (n:=f.length) (cap:=cap5) hset
   have h19:=map_one m.phys (m.regs.set k p) A5 f.length cap5
   have hv9:mapCells m.phys (m.regs.set k p) A5 f.length cap5=mapCells m.phys (m.regs.set k p) A5 f.length cap5:=by first | rfl | rw [Hfz.out];rfl
   obtain⟨cs9,h9⟩:∃ cs9,cs9=mapCells m.phys (m.regs.set k p) A5 f.length cap5:=⟨_,rfl⟩
   have Hv9:=Lib.hid (h9.trans hv9)
   have hsz9:(mapCells m.phys (m.regs.set k p) A5 f.length cap5).size=(mapCells 0 (List.replicate 32 0) none 0 0).size:=by rw [mapCells_size _ _ _ _ _ hset];rfl
   rw [←h9] at hsz9 hs9 h19 hB
   clear hv9 h9
   have hb9:=hb4.size
   go_wp2_with(first
    |(refine wpList_load_all rfl 53 _ rfl w.heap.size rfl 53 cs9 _ hB Try.underlying53 rfl hs9 ?_)
    |(refine wpList_store_all rfl 53 _ _ rfl (w.heap.size+1) cs9 rfl rfl 53 _ hR hs9 hsz9 h19 ?_;intro w5 hB5 hg5;have hld:=load_map hB5 hs9))
   refine bodyPost_ret (results_cttt Try.results40 rfl rfl rfl rfl hld) rfl ?_
   refine⟨_,rfl,below_grown hb4 hg5 hb4.size (Nat.le_succ _),A5,cap5,by rw [Hv9.out],?_,fun ad h=>by have:=Hg5.out ad h;omega⟩
   have hm1:=H1.out
   have hA9:=(hA5.grown (Nat.le_refl _) hg5 (fun ad h=>by have:=Hg5.out ad h;omega)).mono hg5.size
   have hc9:f.length≤cap5:=by first | exact hc5 | (rw [Hfz.out];exact Nat.zero_le _)
   refine⟨hm1.p0,hm1.p1,hset,by show f.length≤_;omega,hc9,hA9,hn5,fun x hx=>?_⟩
   rcases List.mem_append.1 hx with hx | hx
   ·rcases List.mem_or_eq_of_mem_set hx with hx | rfl
    ·exact hm1.wf x (List.mem_append_left _ hx)
    ·exact hpk
   ·exact hm1.wf x (List.mem_append_right _ (by rw [Hpf.out];exact List.mem_cons_of_mem _ hx))
 ·have htk:takeP m rd=none:=by
   unfold takeP
   cases hfr:m.free with
   |nil=>rfl
   |cons p f=>
    simp only
    rw [if_neg]
    rintro⟨a,b⟩
    exact hok ⟨a,by rw [hfr];simp,b⟩
  have Htk:=Lib.hid (show takeD m rd=(RMap.zero,0,0)∧takeP m rd=none from⟨by unfold takeD;rw [htk];rfl,htk⟩)
  rw [htk]
  replace Htk:=Lib.hid Htk.out.1
  have hno:(m.free.length=0)=(m.free=[]):=by rw [eq_iff_iff];exact List.length_eq_zero_iff
  have hok':m.may=false∨(m.may=true∧m.free.length=0)∨(m.may=true∧((m.free.length:Int)==0)=false∧rd<1)∨(m.may=true∧((m.free.length:Int)==0)=false∧1≤rd∧31<rd):=by
   rcases hmm:m.may with _ | _
   ·exact Or.inl rfl
   ·by_cases hfr:m.free=[]
    ·exact Or.inr (Or.inl ⟨rfl,by rw [hfr];rfl⟩)
    ·have hfl:((m.free.length:Int)==0)=false:=by
      have:m.free.length≠0:=fun e=>hfr (List.eq_nil_of_length_eq_zero e)
      simp;omega
     by_cases h1:rd<1
     ·exact Or.inr (Or.inr (Or.inl ⟨rfl,hfl,h1⟩))
     ·by_cases h2:31<rd
      ·exact Or.inr (Or.inr (Or.inr ⟨rfl,hfl,by omega,h2⟩))
      ·exact absurd ⟨hmm,hfr,by omega,by omega⟩ hok
  clear hok htk hno hv hrg h
  generalize m.may=X at *
  generalize m.free.length=n at *
  generalize mapCells m.phys m.regs A n cap=cs at *
  have Hu:=Lib.hid hu
  clear hu
  rcases hok' with rfl | ⟨rfl,rfl⟩ | ⟨rfl,hn,h1⟩ | ⟨rfl,hn,h1,h2⟩
  all_goals
   go_enter Try.func40,Try.ntmps40
   go_upto_region 1 with(fail)
   go_simp
   refine wp_gen fun wa hq=>?_
   have hb2:Below w.heap.size w wa:=by rw [hq];exact((Below.refl w.heap.size w).alloc (Nat.le_refl _) _).alloc (by simp) _
   have hB:Blk wa w.heap.size 53 cs:=by rw [hq];exact(Blk.new w 53 cs).alloc _
   have hR:Blk wa (w.heap.size+1) 53 (mapCells 0 (List.replicate 32 0) none 0 0):=by rw [hq];exact Blk.newAt (w.alloc (.cells cs 53)) 53 _ (by simp)
   clear hq
   go_wp2_with(first
    |(refine wpList_load_all rfl 53 _ rfl w.heap.size rfl 53 cs _ hB Try.underlying53 rfl hs ?_)
    |(go_at_call 69;(with_reducible refine(Hu.out _ hb2).mono ?_);rintro e w2 ⟨rfl,hb3⟩;have c33:=(hB.ext hb3).cell 33;rw [hf] at c33;have zB:=(hB.ext hb3).lt;have hR2:=hR.ext hb3)
    |(refine wpList_build_to rfl 53 _ rfl [] rfl _ built_map0 ?_)
    |(refine wpList_store_all rfl 53 _ _ rfl (w.heap.size+1) (mapCells 0 (List.replicate 32 0) none 0 0) rfl rfl 53 _ hR2 zero_info rfl (map_one _ _ _ _ _) ?_;intro w5 hB5 hg5;have hld:=load_map hB5 zero_info))
   refine bodyPost_ret (results_cttt Try.results40 rfl rfl rfl rfl hld) rfl ?_
   rw [Htk.out]
   exact⟨_,rfl,below_grown (hb2.trans (hb3.mono hb2.size)) hg5 (Nat.le_trans hb2.size hb3.size) (Nat.le_succ _),MapF.zero _ _⟩
end Go.Proofs.Ytapgojgcmlnbgac
