/- Parts of a proof. -/
import Derived.Test.YtapgojgcmlnbgacProg
import Derived.Test.YtapgojgcmlnbgacK02
import Derived.Test.YtapgojgcmlnbgacK18
import Derived.WalkLawsBesides
import Derived.WalkSpells
import Derived.Lib.Hide
import Derived.Outline
import Derived.Deep.Cut
set_option linter.unusedSimpArgs false
set_option linter.unusedVariables false
set_option maxRecDepth 100000
set_option maxHeartbeats 16000000
namespace Go.Proofs.Ytapgojgcmlnbgac
open Go.RowKit
theorem within_any (n:Int) (w:World):Calls Try.prog 73 #[.int .i64 n] w fun e w'=>e = .returned (.int .i64 (withinP n))∧w=w':=by
 generalize hx:withinP n=x
 have Hx:=Lib.hid hx
 clear hx
 go_enter Try.func73,Try.ntmps73
 go_wp2
 all_goals
  go_ret
  refine⟨ret_int ?_,rfl⟩
  rw [←Hx.out]
  unfold withinP
  (repeat' split)<;>omega
theorem counter_any (pc:Int) (w:World) (h0:0≤pc) (h1:pc≤4294967295):Calls Try.prog 72 #[.int .u32 pc] w fun e w'=>e = .returned (.int .u32 (cntK pc))∧w=w':=by
 have Hx:=Lib.hid (cntK_eq pc)
 go_enter Try.func72,Try.ntmps72
 go_wp2
 go_ret
 exact⟨ret_int Hx.out.symm,rfl⟩
theorem value_any (pc:Int) (w:World) (h0:0≤pc) (h1:pc≤4294967295):Calls Try.prog 64 #[.int .u32 pc] w fun e w'=>e = .returned (.int .u32 (vlK pc))∧w=w':=by
 have Hx:=Lib.hid (vlK_eq pc)
 go_enter Try.func64,Try.ntmps64
 go_wp2
 go_ret
 exact⟨ret_int Hx.out.symm,rfl⟩
theorem branch_any (cs:Array Value) (c:Cnt) (pc:Int) (w:World) (h0:0≤pc) (h1:pc≤4294967295) (hs:cs.size=64) (hc:CntAt cs (cntK pc) c) :
  Calls Try.prog 70 #[.agg cs, .int .u32 pc] w fun e w'=>e = .returned (.tuple #[.bool (decide (2≤c.lv)), .int .u32 c.tg])∧Below w.heap.size w w':=by
 obtain⟨c0,c1⟩:=hc
 have hk:=cntK_lt pc
 obtain⟨lv,tg⟩:=c
 dsimp only at c0 c1
 generalize hkk:cntK pc=k at c0 c1 hk
 have Hk:=Lib.hid hkk
 have Hs:=Lib.hid hs
 clear hkk hs
 go_enter Try.func70,Try.ntmps70
 go_wp2_with(go_at_call 72;(with_reducible refine(counter_any pc _ h0 h1).mono ?_);rintro e w1 ⟨rfl,rfl⟩;rw [Hk.out])
 have z1:w.heap.size+1<((w.alloc (.cells cs 50)).alloc (.cells #[.int .i64 lv, .int .u32 tg] 44)).heap.size:=by simp
 refine wp_region_below (by kernel_rfl) (by kernel_rfl) ?_
 repeat'(first
  |refine wpMix_plain rfl ?_
  |(refine' wpMixW_quiet _ (fun wq hwq K hK=>?_) ?_ ?_;rotate_left 1;(· obtain⟨hcq,hfq⟩:=bcell hwq;go_wp2_with(fail);all_goals exact hK _ hwq);rfl)
  |((first | refine wpMix_guardT rfl rfl rfl ?_ ?_ | refine wpMix_guardF rfl rfl rfl ?_ ?_)<;>intro hc<;>first | (cases hc;done) | ((try cases hc);simp only [Act.put,sA,sS,sZ]))
  |refine wpMix_guardU rfl rfl rfl ?_)
 all_goals
  refine wpMix_nil ?_
  intro w4 hw4
  go_wp2
  go_ret2
  exact⟨rfl,(((Below.refl _ _).alloc (Nat.le_refl _) _).alloc (by simp) _).trans (hw4.mono (by simp;omega))⟩
theorem gvalue_any (cs:Array Value) (v:Vl) (pc:Int) (w:World) (h0:0≤pc) (h1:pc≤4294967295) (hs:cs.size=64) (hv:v.Wf) (hc:VlAt cs (vlK pc) v) :
  Calls Try.prog 35 #[.agg cs, .int .u32 pc] w fun e w'=>e = .returned (.tuple #[.int .u32 (valueP v pc).1, .bool (valueP v pc).2])∧Below w.heap.size w w':=by
 obtain⟨c0,c1,c2,c3⟩:=hc
 have hk:=vlK_lt pc
 obtain⟨vpc,last,stride,sure⟩:=v
 obtain⟨p0,p1,l0,l1,s0,s1,u0,u1⟩:=hv
 dsimp only at c0 c1 c2 c3 p0 p1 l0 l1 s0 s1 u0 u1
 generalize hkk:vlK pc=k at c0 c1 c2 c3 hk
 generalize hX:valueP ⟨vpc,last,stride,sure⟩ pc=X
 have HX:=Lib.hid hX
 have Hk:=Lib.hid hkk
 have Hs:=Lib.hid hs
 clear hkk hs hX
 go_enter Try.func35,Try.ntmps35
 go_wp2_with(go_at_call 64;(with_reducible refine(value_any pc _ h0 h1).mono ?_);rintro e w1 ⟨rfl,rfl⟩;rw [Hk.out])
 all_goals
  go_ret2
  refine⟨?_,((Below.refl _ _).alloc (Nat.le_refl _) _).alloc (by simp) _⟩
  rw [←HX.out]
  unfold valueP sumW
  dsimp only
  first | (rw [if_pos ⟨by assumption,by assumption⟩];rfl) | (rw [if_neg (by omega)];rfl)
theorem tab_info {cs:Array Value} (h:cs.size=64):(Try.prog.info? 50).map (·.size)=some cs.size:=by rw [h];kernel_rfl
section
variable {ops:Array Oper} {rest:List Oper} {o:Oper} {a:Act} {w:World} {Q:Exit→Act→World→Prop}
theorem load_tab (hgd:o.guard=none) (x:Operand) (ho:o.op = .load 50 x) (g:Nat) (hx:a.eval x = .pointer (some ⟨g,0,none⟩)) (cs:Array Value) (hg:Blk w g 50 cs) (hs:cs.size=64)
  (h:wpList Try.prog ops Q rest (a.put o.dst (.agg cs)) w):wpList Try.prog ops Q (o::rest) a w:=
 wpList_load_all hgd 50 x ho g hx 50 cs _ hg Try.underlying50 rfl (tab_info hs) h
theorem store_tab (hgd:o.guard=none) (x y:Operand) (ho:o.op = .store 50 x y) (g:Nat) (cells:Array Value) (hx:a.eval x = .pointer (some ⟨g,0,none⟩)) (hy:a.eval y = .agg cells)
  (old:Array Value) (hg:Blk w g 50 old) (hs:cells.size=64) (hn:old.size=64) (h1:cells.all (·.oneCell')=true)
  (h:∀ w',Blk w' g 50 cells→w.grownBy w' (some g)→wpList Try.prog ops Q rest (a.put o.dst undef) w'):wpList Try.prog ops Q (o::rest) a w:=
 wpList_store_all hgd 50 x y ho g cells hx hy 50 old hg (tab_info hs) (by omega) h1 h
end
theorem learnBranch_any (cs:Array Value) (c:Cnt) (pc target:Int) (taken:Bool) (w:World) (h0:0≤pc) (h1:pc≤4294967295) (t0:0≤target) (t1:target≤4294967295) (hok:TabOk cs) (hw:c.Wf) (hc:CntAt cs (cntK pc) c) :
  Calls Try.prog 45 #[.agg cs, .int .u32 pc, .bool taken, .int .u32 target] w fun e w'=>e = .returned (.agg (learnBranchP cs c pc taken target))∧Below w.heap.size w w':=by
 have hok2:=hok.setCnt (cntK_lt pc) (learnC_wf hw taken t0 t1)
 have Hsz:=Lib.hid hok2.size
 have Hone:=Lib.hid hok2.one
 have Hs:=Lib.hid hok.size
 clear hok2 hw
 obtain⟨c0,c1⟩:=hc
 have hk:=cntK_lt pc
 obtain⟨lv,tg⟩:=c
 dsimp only at c0 c1
 unfold learnBranchP
 generalize hkk:cntK pc=k at c0 c1 hk Hsz Hone
 have Hk:=Lib.hid hkk
 obtain⟨b0,b1⟩:=withinP_bd lv
 clear hkk hok
 rcases taken with _ | _
 ·have ec:cs.setIfInBounds (k*2) (.int .i64 (withinP (withinP lv - 1)))=setCnt cs k (learnC ⟨lv,tg⟩ false target):=by
   apply Array.ext_getElem?
   intro j
   rw [setCnt_get cs k _ Hs.out hk,set_get,Hs.out]
   by_cases e:j=k*2
   ·subst e;rw [if_pos ⟨rfl,by omega⟩,if_pos rfl];rfl
   ·rw [if_neg (by omega),if_neg e]
    by_cases e2:j=k*2+1
    ·subst e2;rw [if_pos rfl];exact c1
    ·rw [if_neg e2]
  rw [←ec] at Hsz Hone ⊢
  clear ec
  go_enter Try.func45,Try.ntmps45
  go_wp2_with(first
   |(go_at_call 72;(with_reducible refine(counter_any pc _ h0 h1).mono ?_);rintro e w1 ⟨rfl,rfl⟩;rw [Hk.out])
   |(go_at_call 73;(with_reducible refine(within_any _ _).mono ?_);rintro e w1 ⟨rfl,rfl⟩)
   |(refine load_tab rfl _ rfl w.heap.size rfl _ ((Blk.new w _ _).alloc _) Hsz.out ?_)
   |(refine store_tab rfl _ _ rfl (w.heap.size+1) _ rfl rfl _ (Blk.newAt _ _ _ (by simp)) Hsz.out rfl Hone.out ?_;intro w5 hB5 hg5))
  exact bodyPost_ret (v := .agg _) (results_blk rfl _ _ (w.heap.size+1) 50 _ _ rfl hB5 Try.underlying50 rfl (tab_info Hsz.out)) rfl
   ⟨rfl,below_grown (((Below.refl _ _).alloc (Nat.le_refl _) _).alloc (by simp) _) hg5 (by simp;omega) (by omega)⟩
 ·have ec:(cs.setIfInBounds (k*2) (.int .i64 (withinP (withinP lv+1)))).setIfInBounds (k*2+1) (.int .u32 target)=setCnt cs k (learnC ⟨lv,tg⟩ true target):=rfl
  rw [←ec] at Hsz Hone ⊢
  clear ec
  go_enter Try.func45,Try.ntmps45
  go_wp2_with(first
   |(go_at_call 72;(with_reducible refine(counter_any pc _ h0 h1).mono ?_);rintro e w1 ⟨rfl,rfl⟩;rw [Hk.out])
   |(go_at_call 73;(with_reducible refine(within_any _ _).mono ?_);rintro e w1 ⟨rfl,rfl⟩)
   |(refine load_tab rfl _ rfl w.heap.size rfl _ ((Blk.new w _ _).alloc _) Hsz.out ?_)
   |(refine store_tab rfl _ _ rfl (w.heap.size+1) _ rfl rfl _ (Blk.newAt _ _ _ (by simp)) Hsz.out rfl Hone.out ?_;intro w5 hB5 hg5))
  exact bodyPost_ret (v := .agg _) (results_blk rfl _ _ (w.heap.size+1) 50 _ _ rfl hB5 Try.underlying50 rfl (tab_info Hsz.out)) rfl
   ⟨rfl,below_grown (((Below.refl _ _).alloc (Nat.le_refl _) _).alloc (by simp) _) hg5 (by simp;omega) (by omega)⟩
theorem built_vl (x y:Int):Try.prog.built 47 [(0, .int .u32 x),(1, .int .u32 y)]=some #[.int .u32 x, .int .u32 y, .int .u32 0, .int .i64 0]:=by kernel_rfl
theorem vl_info {a b c d:Value}:(Try.prog.info? 47).map (·.size)=some (#[a,b,c,d]:Array Value).size:=by kernel_rfl
theorem vl_one {a b c d:Int}:(#[.int .u32 a, .int .u32 b, .int .u32 c, .int .i64 d]:Array Value).all (·.oneCell')=true:=by kernel_rfl
theorem learnValue_new (cs:Array Value) (v:Vl) (pc n:Int) (w:World) (h0:0≤pc) (h1:pc≤4294967295) (n0:0≤n) (n1:n≤4294967295) (hok:TabOk cs) (hw:v.Wf) (hc:VlAt cs (vlK pc) v) (hne:v.pc≠pc) :
  Calls Try.prog 46 #[.agg cs, .int .u32 pc, .int .u32 n] w fun e w'=>e = .returned (.agg (learnValueP cs v pc n))∧Below w.heap.size w w':=by
 have hok2:=hok.setVl (vlK_lt pc) (learnV_wf hw h0 h1 n0 n1)
 have Hsz:=Lib.hid hok2.size
 have Hone:=Lib.hid hok2.one
 have Hs:=Lib.hid hok.size
 obtain⟨c0,c1,c2,c3⟩:=hc
 have hk:=vlK_lt pc
 unfold learnValueP
 generalize hkk:vlK pc=k at c0 c1 c2 c3 hk Hsz Hone
 have Hk:=Lib.hid hkk
 obtain⟨vpc,last,stride,sure⟩:=v
 obtain⟨p0,p1,l0,l1,s0,s1,u0,u1⟩:=hw
 dsimp only at c0 c1 c2 c3 p0 p1 l0 l1 s0 s1 u0 u1
 clear hkk hok hok2
 have e:learnV ⟨vpc,last,stride,sure⟩ pc n=⟨pc,n,0,0⟩:=by unfold learnV;rw [if_pos hne]
 rw [e] at Hsz Hone ⊢
 dsimp only at hne
 have hle:32+k*4+(#[Value.int .u32 pc, .int .u32 n, .int .u32 0, .int .i64 0]:Array Value).size≤cs.size:=by rw [Hs.out];show 32+k*4+4≤64;omega
 have es:splice cs (32+k*4) (#[Value.int .u32 pc, .int .u32 n, .int .u32 0, .int .i64 0]:Array Value).toList=setVl cs k ⟨pc,n,0,0⟩:=vl_splice cs k ⟨pc,n,0,0⟩ Hs.out hk
 have ev:=setVl_at cs k ⟨pc,n,0,0⟩ Hs.out hk
 generalize hD:setVl cs k ⟨pc,n,0,0⟩=D at *
 have ef:D.setIfInBounds (32+k*4+1) (.int .u32 n)=D:=by
  apply Array.ext_getElem?
  intro j
  rw [set_get]
  by_cases ej:32+k*4+1=j
  ·subst ej
   have:=ev.c1
   split
   ·exact this.symm
   ·rfl
  ·rw [if_neg (by omega)]
 have Es:=Lib.hid es
 have Ev:=Lib.hid ev
 have Ef:=Lib.hid ef
 have Hle:=Lib.hid hle
 clear es ev ef hD hle e
 go_enter Try.func46,Try.ntmps46
 go_upto_region 3 with(go_at_call 64;(with_reducible refine(value_any pc _ h0 h1).mono ?_);rintro e w1 ⟨rfl,rfl⟩;rw [Hk.out])
 refine wp_gen fun wq hq=>?_
 have hB:Blk wq w.heap.size 50 cs:=by rw [hq];exact(Blk.new w _ _).alloc _
 obtain⟨zs,hzs,hZ⟩:∃ zs:Array Value,zs.size=64∧Blk wq (w.heap.size+1) 50 zs:=⟨_,rfl,by rw [hq];exact Blk.newAt _ _ _ (by simp)⟩
 have hbq:Below w.heap.size w wq:=by rw [hq];exact((Below.refl _ _).alloc (Nat.le_refl _) _).alloc (by simp) _
 have zq:wq.heap.size=w.heap.size+2:=by rw [hq];simp
 have Hz:=Lib.hid zq
 have Hne:=Lib.hid (show w.heap.size+1≠w.heap.size by omega)
 have Hzs:=Lib.hid hzs
 have zq1:w.heap.size<wq.heap.size:=by omega
 have zq2:w.heap.size+1<wq.heap.size:=by omega
 have hBc:=hB.cell
 have hBf:=hB.frozen
 clear hq zq hzs
 go_wp2_with(first
  |(refine wpList_build_to rfl 47 _ rfl [(0, .int .u32 pc),(1, .int .u32 n)] ?_ _ (built_vl pc n) ?_;kernel_rfl)
  |(refine wpList_store_blk rfl 47 _ _ rfl w.heap.size (32+k*4) #[.int .u32 pc, .int .u32 n, .int .u32 0, .int .i64 0] rfl rfl 50 cs hB vl_info Hle.out vl_one ?_;intro w5 hB5 hg5;rw [Es.out] at hB5;have hB5c:=hB5.cell;have hB5f:=hB5.frozen;have ev1:=Ev.out.c1)
  |(refine load_tab rfl _ rfl w.heap.size rfl D (by have h:=hB5.set (32+k*4+1) (.int .u32 n);rw [Ef.out] at h;exact h) Hsz.out ?_)
  |(refine store_tab rfl _ _ rfl (w.heap.size+1) _ rfl rfl _ ((hZ.grown hg5 (by simp)).farAt Hne.out _) Hsz.out Hzs.out Hone.out ?_;intro w6 hB6 hg6))
 exact bodyPost_ret (v := .agg _) (results_blk rfl _ _ (w.heap.size+1) 50 _ _ rfl hB6 Try.underlying50 rfl (tab_info Hsz.out)) rfl
  ⟨rfl,below_grown ((below_grown hbq hg5 (by omega) (Nat.le_refl _)).setCell (by simp) _) hg6 (by simp;have:=hg5.size;omega) (by omega)⟩
theorem learnValue_hit (cs:Array Value) (v:Vl) (pc n:Int) (w:World) (h0:0≤pc) (h1:pc≤4294967295) (n0:0≤n) (n1:n≤4294967295) (hok:TabOk cs) (hw:v.Wf) (hc:VlAt cs (vlK pc) v) (hne:v.pc=pc) (he:n=sumW v.last v.stride) :
  Calls Try.prog 46 #[.agg cs, .int .u32 pc, .int .u32 n] w fun e w'=>e = .returned (.agg (learnValueP cs v pc n))∧Below w.heap.size w w':=by
 have hok2:=hok.setVl (vlK_lt pc) (learnV_wf hw h0 h1 n0 n1)
 have Hsz:=Lib.hid hok2.size
 have Hone:=Lib.hid hok2.one
 have Hs:=Lib.hid hok.size
 obtain⟨c0,c1,c2,c3⟩:=hc
 have hk:=vlK_lt pc
 unfold learnValueP
 generalize hkk:vlK pc=k at c0 c1 c2 c3 hk Hsz Hone
 have Hk:=Lib.hid hkk
 obtain⟨vpc,last,stride,sure⟩:=v
 obtain⟨p0,p1,l0,l1,s0,s1,u0,u1⟩:=hw
 dsimp only at c0 c1 c2 c3 p0 p1 l0 l1 s0 s1 u0 u1
 clear hkk hok hok2
 have e:learnV ⟨vpc,last,stride,sure⟩ pc n=⟨vpc,n,stride,withinP (withinP sure+1)⟩:=by unfold learnV;rw [if_neg (by simpa using hne),if_pos he]
 rw [e] at Hsz Hone ⊢
 obtain⟨b0,b1⟩:=withinP_bd sure
 dsimp only at hne he
 unfold sumW at he
 have e1:(n==(last+stride)%4294967296)=true:=by simp [he]
 have ef:(cs.setIfInBounds (32+k*4+3) (.int .i64 (withinP (withinP sure+1)))).setIfInBounds (32+k*4+1) (.int .u32 n)=setVl cs k ⟨vpc,n,stride,withinP (withinP sure+1)⟩:=by
  refine vl_ext cs _ k _ Hs.out hk (fun j h0 h1 h2 h3=>by rw [set_get,if_neg (by omega),set_get,if_neg (by omega)]) ⟨?_,?_,?_,?_⟩<;>simp only [set_get,Array.size_setIfInBounds,Hs.out]
  ·rw [if_neg (by omega),if_neg (by omega)];exact c0
  ·rw [if_pos (by simp;omega)]
  ·rw [if_neg (by omega),if_neg (by omega)];exact c2
  ·rw [if_neg (by omega),if_pos (by simp;omega)]
 rw [←ef] at Hsz Hone ⊢
 clear ef he e
 obtain rfl:pc=vpc:=hne.symm
 go_enter Try.func46,Try.ntmps46
 go_upto_region 3 with(go_at_call 64;(with_reducible refine(value_any pc _ h0 h1).mono ?_);rintro e w1 ⟨rfl,rfl⟩;rw [Hk.out])
 refine wp_gen fun wq hq=>?_
 have hB:Blk wq w.heap.size 50 cs:=by rw [hq];exact(Blk.new w _ _).alloc _
 obtain⟨zs,hzs,hZ⟩:∃ zs:Array Value,zs.size=64∧Blk wq (w.heap.size+1) 50 zs:=⟨_,rfl,by rw [hq];exact Blk.newAt _ _ _ (by simp)⟩
 have hbq:Below w.heap.size w wq:=by rw [hq];exact((Below.refl _ _).alloc (Nat.le_refl _) _).alloc (by simp) _
 have zq:wq.heap.size=w.heap.size+2:=by rw [hq];simp
 have Hz:=Lib.hid zq
 have Hne:=Lib.hid (show w.heap.size+1≠w.heap.size by omega)
 have Hzs:=Lib.hid hzs
 have zq1:w.heap.size<wq.heap.size:=by omega
 have zq2:w.heap.size+1<wq.heap.size:=by omega
 have hBc:=hB.cell
 have hBf:=hB.frozen
 clear hq zq hzs
 go_wp2_with fail
 refine wp_region_below (by kernel_rfl) (by kernel_rfl) ?_
 repeat'(first
  |refine wpMix_plain rfl ?_
  |(refine' wpMixW_quiet _ (fun wq hwq K hK=>?_) ?_ ?_;rotate_left 1;(· obtain⟨hcq,hfq⟩:=bcell hwq;go_wp2_with(fail);all_goals exact hK _ hwq);rfl)
  |((first | refine wpMix_guardT rfl rfl rfl ?_ ?_ | refine wpMix_guardF rfl rfl rfl ?_ ?_)<;>intro hc<;>first | (cases hc;done) | ((try cases hc);simp only [Act.put,sA,sS,sZ]))
  |refine wpMix_guardU rfl rfl rfl ?_)
 all_goals
  refine wpMix_nil ?_
  intro w4 hw4
  have hB4:=hB.ext hw4
  have hZ4:=hZ.ext hw4
  have hb4:=hbq.trans (hw4.mono (by omega))
  have z4:=hw4.size
  clear hBc hBf
  have hBc:=hB4.cell
  have hBf:=hB4.frozen
  go_upto_region 8 with(go_at_call 73;(with_reducible refine(within_any _ _).mono ?_);rintro e w1 ⟨rfl,rfl⟩)
  go_wp2_with(first
   |(refine load_tab rfl _ rfl w.heap.size rfl _ ((hB4.set _ _).set _ _) Hsz.out ?_)
   |(refine store_tab rfl _ _ rfl (w.heap.size+1) _ rfl rfl _ ((hZ4.farAt Hne.out _).farAt Hne.out _) Hsz.out Hzs.out Hone.out ?_;intro w6 hB6 hg6))
  exact bodyPost_ret (v := .agg _) (results_blk rfl _ _ (w.heap.size+1) 50 _ _ rfl hB6 Try.underlying50 rfl (tab_info Hsz.out)) rfl
   ⟨rfl,below_grown ((hb4.setCell (by simp) _).setCell (by simp) _) hg6 (by simp;omega) (by omega)⟩
theorem learnValue_miss (cs:Array Value) (v:Vl) (pc n:Int) (w:World) (h0:0≤pc) (h1:pc≤4294967295) (n0:0≤n) (n1:n≤4294967295) (hok:TabOk cs) (hw:v.Wf) (hc:VlAt cs (vlK pc) v) (hne:v.pc=pc) (he:n≠sumW v.last v.stride) :
  Calls Try.prog 46 #[.agg cs, .int .u32 pc, .int .u32 n] w fun e w'=>e = .returned (.agg (learnValueP cs v pc n))∧Below w.heap.size w w':=by
 have hok2:=hok.setVl (vlK_lt pc) (learnV_wf hw h0 h1 n0 n1)
 have Hsz:=Lib.hid hok2.size
 have Hone:=Lib.hid hok2.one
 have Hs:=Lib.hid hok.size
 obtain⟨c0,c1,c2,c3⟩:=hc
 have hk:=vlK_lt pc
 unfold learnValueP
 generalize hkk:vlK pc=k at c0 c1 c2 c3 hk Hsz Hone
 have Hk:=Lib.hid hkk
 obtain⟨vpc,last,stride,sure⟩:=v
 obtain⟨p0,p1,l0,l1,s0,s1,u0,u1⟩:=hw
 dsimp only at c0 c1 c2 c3 p0 p1 l0 l1 s0 s1 u0 u1
 clear hkk hok hok2
 have e:learnV ⟨vpc,last,stride,sure⟩ pc n=⟨vpc,n,subW n last,0⟩:=by unfold learnV;rw [if_neg (by simpa using hne),if_neg he]
 rw [e] at Hsz Hone ⊢
 dsimp only at hne he
 unfold sumW at he
 have e1:(n==(last+stride)%4294967296)=false:=by simp [he]
 have ef:((cs.setIfInBounds (32+k*4+3) (.int .i64 0)).setIfInBounds (32+k*4+2) (.int .u32 ((n - last)%4294967296))).setIfInBounds (32+k*4+1) (.int .u32 n)=setVl cs k ⟨vpc,n,subW n last,0⟩:=by
  refine vl_ext cs _ k _ Hs.out hk (fun j h0 h1 h2 h3=>by rw [set_get,if_neg (by omega),set_get,if_neg (by omega),set_get,if_neg (by omega)]) ⟨?_,?_,?_,?_⟩<;>simp only [set_get,Array.size_setIfInBounds,Hs.out]
  ·rw [if_neg (by omega),if_neg (by omega),if_neg (by omega)];exact c0
  ·rw [if_pos (by simp;omega)]
  ·rw [if_neg (by omega),if_pos (by simp;omega)];rfl
  ·rw [if_neg (by omega),if_neg (by omega),if_pos (by simp;omega)]
 rw [←ef] at Hsz Hone ⊢
 clear ef he e
 obtain rfl:pc=vpc:=hne.symm
 go_enter Try.func46,Try.ntmps46
 go_upto_region 3 with(go_at_call 64;(with_reducible refine(value_any pc _ h0 h1).mono ?_);rintro e w1 ⟨rfl,rfl⟩;rw [Hk.out])
 refine wp_gen fun wq hq=>?_
 have hB:Blk wq w.heap.size 50 cs:=by rw [hq];exact(Blk.new w _ _).alloc _
 obtain⟨zs,hzs,hZ⟩:∃ zs:Array Value,zs.size=64∧Blk wq (w.heap.size+1) 50 zs:=⟨_,rfl,by rw [hq];exact Blk.newAt _ _ _ (by simp)⟩
 have hbq:Below w.heap.size w wq:=by rw [hq];exact((Below.refl _ _).alloc (Nat.le_refl _) _).alloc (by simp) _
 have zq:wq.heap.size=w.heap.size+2:=by rw [hq];simp
 have Hz:=Lib.hid zq
 have Hne:=Lib.hid (show w.heap.size+1≠w.heap.size by omega)
 have Hzs:=Lib.hid hzs
 have zq1:w.heap.size<wq.heap.size:=by omega
 have zq2:w.heap.size+1<wq.heap.size:=by omega
 have hBc:=hB.cell
 have hBf:=hB.frozen
 clear hq zq hzs
 go_wp2_with fail
 refine wp_region_below (by kernel_rfl) (by kernel_rfl) ?_
 repeat'(first
  |refine wpMix_plain rfl ?_
  |(refine' wpMixW_quiet _ (fun wq hwq K hK=>?_) ?_ ?_;rotate_left 1;(· obtain⟨hcq,hfq⟩:=bcell hwq;go_wp2_with(fail);all_goals exact hK _ hwq);rfl)
  |((first | refine wpMix_guardT rfl rfl rfl ?_ ?_ | refine wpMix_guardF rfl rfl rfl ?_ ?_)<;>intro hc<;>first | (cases hc;done) | ((try cases hc);simp only [Act.put,sA,sS,sZ]))
  |refine wpMix_guardU rfl rfl rfl ?_)
 all_goals
  refine wpMix_nil ?_
  intro w4 hw4
  have hB4:=hB.ext hw4
  have hZ4:=hZ.ext hw4
  have hb4:=hbq.trans (hw4.mono (by omega))
  have z4:=hw4.size
  clear hBc hBf
  have hBc:=hB4.cell
  have hBf:=hB4.frozen
  go_upto_region 8 with(go_at_call 73;(with_reducible refine(within_any _ _).mono ?_);rintro e w1 ⟨rfl,rfl⟩)
  go_wp2_with(first
   |(refine load_tab rfl _ rfl w.heap.size rfl _ (((hB4.set _ _).set _ _).set _ _) Hsz.out ?_)
   |(refine store_tab rfl _ _ rfl (w.heap.size+1) _ rfl rfl _ (((hZ4.farAt Hne.out _).farAt Hne.out _).farAt Hne.out _) Hsz.out Hzs.out Hone.out ?_;intro w6 hB6 hg6))
  exact bodyPost_ret (v := .agg _) (results_blk rfl _ _ (w.heap.size+1) 50 _ _ rfl hB6 Try.underlying50 rfl (tab_info Hsz.out)) rfl
   ⟨rfl,below_grown (((hb4.setCell (by simp) _).setCell (by simp) _).setCell (by simp) _) hg6 (by simp;omega) (by omega)⟩
theorem learnValue_any (cs:Array Value) (v:Vl) (pc n:Int) (w:World) (h0:0≤pc) (h1:pc≤4294967295) (n0:0≤n) (n1:n≤4294967295) (hok:TabOk cs) (hw:v.Wf) (hc:VlAt cs (vlK pc) v) :
  Calls Try.prog 46 #[.agg cs, .int .u32 pc, .int .u32 n] w fun e w'=>e = .returned (.agg (learnValueP cs v pc n))∧Below w.heap.size w w':=by
 by_cases h:v.pc=pc
 ·by_cases h':n=sumW v.last v.stride
  ·exact learnValue_hit cs v pc n w h0 h1 n0 n1 hok hw hc h h'
  ·exact learnValue_miss cs v pc n w h0 h1 n0 n1 hok hw hc h h'
 ·exact learnValue_new cs v pc n w h0 h1 n0 n1 hok hw hc h
end Go.Proofs.Ytapgojgcmlnbgac
