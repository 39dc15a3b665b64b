/- Parts of a proof. -/
import Derived.Test.YtapgojgcmlnbgacProg
import Derived.Test.YtapgojgcmlnbgacK02
import Derived.Test.YtapgojgcmlnbgacK00
import Derived.WalkLawsBesides
import Derived.WalkSpells
import Derived.Lib.Hide
import Derived.Test.YtapgojgcmlnbgacK01
import Derived.Outline
import Derived.Deep.Cut
set_option linter.unusedSimpArgs false
set_option linter.unusedVariables false
set_option maxRecDepth 100000
set_option maxHeartbeats 16000000
namespace Go.Proofs.Ytapgojgcmlnbgac
open Go.RowKit
theorem there_any (A:Option Addr) (len cap:Nat) (p many:Int) (w:World) (h0:0≤p) (h1:p≤4294967295) (h2:0≤many) (h3:many≤4294967295) (hl:len≤9223372036854775807) :
  Calls Try.prog 53 #[.slice A len cap, .int .u32 p, .int .u32 many] w fun e w'=>e = .returned (.bool (thereB len p many))∧w=w':=by
 generalize hx:thereB len p many=x
 have Hx:=Lib.hid hx
 clear hx
 go_enter Try.func53,Try.ntmps53
 go_wp2
 all_goals
  go_ret
  refine⟨ret_bool ?_,rfl⟩
  rw [←Hx.out,Bool.eq_iff_iff]
  unfold thereB
  first | (simp;done) | (simp;omega) | (simp [*];done) | (simp [*];omega)
theorem size_any (op:Int) (w:World) :
  Calls Try.prog 75 #[.int .i64 op] w fun e w'=>e = .returned (.int .u32 (sizeI op))∧w=w':=by
 generalize hx:sizeI op=x
 have Hx:=Lib.hid hx
 clear hx
 go_enter Try.func75,Try.ntmps75
 go_wp2
 all_goals
  go_ret
  refine⟨ret_int ?_,rfl⟩
  rw [←Hx.out]
  unfold sizeI
  simp only [beq_iff_eq,beq_eq_false_iff_ne,ne_eq] at *
  (repeat' split)<;>first | rfl | omega
theorem load_any (A:Option Addr) (cap:Nat) (m:List Int) (op p:Int) (w:World) (h0:0≤p) (h1:p≤4294967295) (hl:m.length≤9223372036854775807) (hb:Bytes m) (hA:IntsAt w w.heap.size .u8 A m) :
  Calls Try.prog 50 #[.slice A m.length cap, .int .i64 op, .int .u32 p] w fun e w'=>e = .returned (.tuple #[.int .u32 (loadP m op p).1, .bool (loadP m op p).2])∧w=w':=by
 obtain⟨n,rfl⟩:=Int.eq_ofNat_of_zero_le h0
 by_cases hok:(decide (11≤op)&&decide (op≤15)&&thereB m.length n (sizeI op))=true
 ·have e:loadP m op n=(loadW m op n,true):=by unfold loadP;rw [if_pos hok];rfl
  rw [e]
  have hth:thereB m.length n (sizeI op)=true:=by simp at hok;exact hok.2
  have ho:11≤op∧op≤15:=by simp at hok;exact hok.1
  clear hok e
  have hin:(n:Int)+sizeI op≤m.length:=by unfold thereB at hth;simp at hth;exact hth.2
  obtain⟨ho1,ho2⟩:=ho
  obtain rfl | rfl | rfl | rfl | rfl:op=11∨op=12∨op=13∨op=14∨op=15:=by omega
  ·
   have s:sizeI 11=1:=rfl
   rw [s] at hin hth
   have hn:(n:Int)+(1 - 1)≤4294967295:=by unfold thereB at hth;simp at hth;omega
   obtain⟨b,o,rfl,hbB,hc⟩:=hA.at_ (n:=n) (by omega)
   have c0:=hc n (by omega)
   have b0:=hb.getD n
   have b1:=hb.getD (n+1)
   have b2:=hb.getD (n+2)
   have b3:=hb.getD (n+3)
   have c1:1>1→w.cell? ⟨b,o+(n+1),none⟩=some (.int .u8 (m.getD (n+1) 0)):=fun h=>hc (n+1) (by omega)
   have c2:1>2→w.cell? ⟨b,o+(n+2),none⟩=some (.int .u8 (m.getD (n+2) 0)):=fun h=>hc (n+2) (by omega)
   have c3:1>3→w.cell? ⟨b,o+(n+3),none⟩=some (.int .u8 (m.getD (n+3) 0)):=fun h=>hc (n+3) (by omega)
   have hL:loadW m 11 n=loadB 11 (m.getD n 0) (m.getD (n+1) 0) (m.getD (n+2) 0) (m.getD (n+3) 0):=rfl
   rw [hL]
   clear hL
   generalize m.getD n 0=x0 at c0 b0 ⊢
   generalize m.getD (n+1) 0=x1 at c1 b1 ⊢
   generalize m.getD (n+2) 0=x2 at c2 b2 ⊢
   generalize m.getD (n+3) 0=x3 at c3 b3 ⊢
   obtain⟨p0,q0⟩:=b0
   obtain⟨p1,q1⟩:=b1
   obtain⟨p2,q2⟩:=b2
   obtain⟨p3,q3⟩:=b3
   generalize hX:loadB 11 x0 x1 x2 x3=X
   have HX:=Lib.hid hX
   clear hX
   have hS:=Lib.hid s
   clear hc s
   go_enter Try.func50,Try.ntmps50
   go_wp2_with(first
    |(go_at_call 75;refine(size_any _ _).mono ?_;rintro e w1 ⟨rfl,rfl⟩;rw [hS.out])
    |(go_at_call 53;refine(there_any _ _ _ _ 1 _ (by omega) (by omega) (by omega) (by omega) (by omega)).mono ?_;rintro e w1 ⟨rfl,rfl⟩;rw [hth]))
   refine wp_loop_rounds 2 ?_
   repeat any_goals (rw [rounds_succ];go_wp2)
   all_goals
    go_ret2
    refine⟨?_,rfl⟩
    show Ending.returned (.tuple #[.int .u32 _, .bool true])=_
    rw [←HX.out]
    rw [or0 x0 p0 q0,wrap_i8];exact ret_tup (by unfold loadB;simp only [if_pos];split<;>omega)
  ·
   have s:sizeI 12=2:=rfl
   rw [s] at hin hth
   have hn:(n:Int)+(2 - 1)≤4294967295:=by unfold thereB at hth;simp at hth;omega
   obtain⟨b,o,rfl,hbB,hc⟩:=hA.at_ (n:=n) (by omega)
   have c0:=hc n (by omega)
   have b0:=hb.getD n
   have b1:=hb.getD (n+1)
   have b2:=hb.getD (n+2)
   have b3:=hb.getD (n+3)
   have c1:2>1→w.cell? ⟨b,o+(n+1),none⟩=some (.int .u8 (m.getD (n+1) 0)):=fun h=>hc (n+1) (by omega)
   have c2:2>2→w.cell? ⟨b,o+(n+2),none⟩=some (.int .u8 (m.getD (n+2) 0)):=fun h=>hc (n+2) (by omega)
   have c3:2>3→w.cell? ⟨b,o+(n+3),none⟩=some (.int .u8 (m.getD (n+3) 0)):=fun h=>hc (n+3) (by omega)
   have hL:loadW m 12 n=loadB 12 (m.getD n 0) (m.getD (n+1) 0) (m.getD (n+2) 0) (m.getD (n+3) 0):=rfl
   rw [hL]
   clear hL
   generalize m.getD n 0=x0 at c0 b0 ⊢
   generalize m.getD (n+1) 0=x1 at c1 b1 ⊢
   generalize m.getD (n+2) 0=x2 at c2 b2 ⊢
   generalize m.getD (n+3) 0=x3 at c3 b3 ⊢
   obtain⟨p0,q0⟩:=b0
   obtain⟨p1,q1⟩:=b1
   obtain⟨p2,q2⟩:=b2
   obtain⟨p3,q3⟩:=b3
   generalize hX:loadB 12 x0 x1 x2 x3=X
   have HX:=Lib.hid hX
   clear hX
   have hS:=Lib.hid s
   clear hc s
   go_enter Try.func50,Try.ntmps50
   go_wp2_with(first
    |(go_at_call 75;refine(size_any _ _).mono ?_;rintro e w1 ⟨rfl,rfl⟩;rw [hS.out])
    |(go_at_call 53;refine(there_any _ _ _ _ 2 _ (by omega) (by omega) (by omega) (by omega) (by omega)).mono ?_;rintro e w1 ⟨rfl,rfl⟩;rw [hth]))
   refine wp_loop_rounds 3 ?_
   repeat any_goals (rw [rounds_succ];go_wp2)
   all_goals
    go_ret2
    refine⟨?_,rfl⟩
    show Ending.returned (.tuple #[.int .u32 _, .bool true])=_
    rw [←HX.out]
    rw [or0 x0 p0 q0,or8 x0 x1 p0 (by omega) p1 q1,wrap_i16];exact ret_tup (by unfold loadB;simp;split<;>omega)
  ·
   have s:sizeI 13=4:=rfl
   rw [s] at hin hth
   have hn:(n:Int)+(4 - 1)≤4294967295:=by unfold thereB at hth;simp at hth;omega
   obtain⟨b,o,rfl,hbB,hc⟩:=hA.at_ (n:=n) (by omega)
   have c0:=hc n (by omega)
   have b0:=hb.getD n
   have b1:=hb.getD (n+1)
   have b2:=hb.getD (n+2)
   have b3:=hb.getD (n+3)
   have c1:4>1→w.cell? ⟨b,o+(n+1),none⟩=some (.int .u8 (m.getD (n+1) 0)):=fun h=>hc (n+1) (by omega)
   have c2:4>2→w.cell? ⟨b,o+(n+2),none⟩=some (.int .u8 (m.getD (n+2) 0)):=fun h=>hc (n+2) (by omega)
   have c3:4>3→w.cell? ⟨b,o+(n+3),none⟩=some (.int .u8 (m.getD (n+3) 0)):=fun h=>hc (n+3) (by omega)
   have hL:loadW m 13 n=loadB 13 (m.getD n 0) (m.getD (n+1) 0) (m.getD (n+2) 0) (m.getD (n+3) 0):=rfl
   rw [hL]
   clear hL
   generalize m.getD n 0=x0 at c0 b0 ⊢
   generalize m.getD (n+1) 0=x1 at c1 b1 ⊢
   generalize m.getD (n+2) 0=x2 at c2 b2 ⊢
   generalize m.getD (n+3) 0=x3 at c3 b3 ⊢
   obtain⟨p0,q0⟩:=b0
   obtain⟨p1,q1⟩:=b1
   obtain⟨p2,q2⟩:=b2
   obtain⟨p3,q3⟩:=b3
   generalize hX:loadB 13 x0 x1 x2 x3=X
   have HX:=Lib.hid hX
   clear hX
   have hS:=Lib.hid s
   clear hc s
   go_enter Try.func50,Try.ntmps50
   go_wp2_with(first
    |(go_at_call 75;refine(size_any _ _).mono ?_;rintro e w1 ⟨rfl,rfl⟩;rw [hS.out])
    |(go_at_call 53;refine(there_any _ _ _ _ 4 _ (by omega) (by omega) (by omega) (by omega) (by omega)).mono ?_;rintro e w1 ⟨rfl,rfl⟩;rw [hth]))
   refine wp_loop_rounds 5 ?_
   repeat any_goals (rw [rounds_succ];go_wp2)
   all_goals
    go_ret2
    refine⟨?_,rfl⟩
    show Ending.returned (.tuple #[.int .u32 _, .bool true])=_
    rw [←HX.out]
    rw [or0 x0 p0 q0,or8 x0 x1 p0 (by omega) p1 q1,or16 _ x2 (by omega) (by omega) p2 q2,or24 _ x3 (by omega) (by omega) p3 q3];exact ret_tup rfl
  ·
   have s:sizeI 14=1:=rfl
   rw [s] at hin hth
   have hn:(n:Int)+(1 - 1)≤4294967295:=by unfold thereB at hth;simp at hth;omega
   obtain⟨b,o,rfl,hbB,hc⟩:=hA.at_ (n:=n) (by omega)
   have c0:=hc n (by omega)
   have b0:=hb.getD n
   have b1:=hb.getD (n+1)
   have b2:=hb.getD (n+2)
   have b3:=hb.getD (n+3)
   have c1:1>1→w.cell? ⟨b,o+(n+1),none⟩=some (.int .u8 (m.getD (n+1) 0)):=fun h=>hc (n+1) (by omega)
   have c2:1>2→w.cell? ⟨b,o+(n+2),none⟩=some (.int .u8 (m.getD (n+2) 0)):=fun h=>hc (n+2) (by omega)
   have c3:1>3→w.cell? ⟨b,o+(n+3),none⟩=some (.int .u8 (m.getD (n+3) 0)):=fun h=>hc (n+3) (by omega)
   have hL:loadW m 14 n=loadB 14 (m.getD n 0) (m.getD (n+1) 0) (m.getD (n+2) 0) (m.getD (n+3) 0):=rfl
   rw [hL]
   clear hL
   generalize m.getD n 0=x0 at c0 b0 ⊢
   generalize m.getD (n+1) 0=x1 at c1 b1 ⊢
   generalize m.getD (n+2) 0=x2 at c2 b2 ⊢
   generalize m.getD (n+3) 0=x3 at c3 b3 ⊢
   obtain⟨p0,q0⟩:=b0
   obtain⟨p1,q1⟩:=b1
   obtain⟨p2,q2⟩:=b2
   obtain⟨p3,q3⟩:=b3
   generalize hX:loadB 14 x0 x1 x2 x3=X
   have HX:=Lib.hid hX
   clear hX
   have hS:=Lib.hid s
   clear hc s
   go_enter Try.func50,Try.ntmps50
   go_wp2_with(first
    |(go_at_call 75;refine(size_any _ _).mono ?_;rintro e w1 ⟨rfl,rfl⟩;rw [hS.out])
    |(go_at_call 53;refine(there_any _ _ _ _ 1 _ (by omega) (by omega) (by omega) (by omega) (by omega)).mono ?_;rintro e w1 ⟨rfl,rfl⟩;rw [hth]))
   refine wp_loop_rounds 2 ?_
   repeat any_goals (rw [rounds_succ];go_wp2)
   all_goals
    go_ret2
    refine⟨?_,rfl⟩
    show Ending.returned (.tuple #[.int .u32 _, .bool true])=_
    rw [←HX.out]
    rw [or0 x0 p0 q0];exact ret_tup rfl
  ·
   have s:sizeI 15=2:=rfl
   rw [s] at hin hth
   have hn:(n:Int)+(2 - 1)≤4294967295:=by unfold thereB at hth;simp at hth;omega
   obtain⟨b,o,rfl,hbB,hc⟩:=hA.at_ (n:=n) (by omega)
   have c0:=hc n (by omega)
   have b0:=hb.getD n
   have b1:=hb.getD (n+1)
   have b2:=hb.getD (n+2)
   have b3:=hb.getD (n+3)
   have c1:2>1→w.cell? ⟨b,o+(n+1),none⟩=some (.int .u8 (m.getD (n+1) 0)):=fun h=>hc (n+1) (by omega)
   have c2:2>2→w.cell? ⟨b,o+(n+2),none⟩=some (.int .u8 (m.getD (n+2) 0)):=fun h=>hc (n+2) (by omega)
   have c3:2>3→w.cell? ⟨b,o+(n+3),none⟩=some (.int .u8 (m.getD (n+3) 0)):=fun h=>hc (n+3) (by omega)
   have hL:loadW m 15 n=loadB 15 (m.getD n 0) (m.getD (n+1) 0) (m.getD (n+2) 0) (m.getD (n+3) 0):=rfl
   rw [hL]
   clear hL
   generalize m.getD n 0=x0 at c0 b0 ⊢
   generalize m.getD (n+1) 0=x1 at c1 b1 ⊢
   generalize m.getD (n+2) 0=x2 at c2 b2 ⊢
   generalize m.getD (n+3) 0=x3 at c3 b3 ⊢
   obtain⟨p0,q0⟩:=b0
   obtain⟨p1,q1⟩:=b1
   obtain⟨p2,q2⟩:=b2
   obtain⟨p3,q3⟩:=b3
   generalize hX:loadB 15 x0 x1 x2 x3=X
   have HX:=Lib.hid hX
   clear hX
   have hS:=Lib.hid s
   clear hc s
   go_enter Try.func50,Try.ntmps50
   go_wp2_with(first
    |(go_at_call 75;refine(size_any _ _).mono ?_;rintro e w1 ⟨rfl,rfl⟩;rw [hS.out])
    |(go_at_call 53;refine(there_any _ _ _ _ 2 _ (by omega) (by omega) (by omega) (by omega) (by omega)).mono ?_;rintro e w1 ⟨rfl,rfl⟩;rw [hth]))
   refine wp_loop_rounds 3 ?_
   repeat any_goals (rw [rounds_succ];go_wp2)
   all_goals
    go_ret2
    refine⟨?_,rfl⟩
    show Ending.returned (.tuple #[.int .u32 _, .bool true])=_
    rw [←HX.out]
    rw [or0 x0 p0 q0,or8 x0 x1 p0 (by omega) p1 q1];exact ret_tup rfl
 ·have e:loadP m op n=(0,false):=by unfold loadP;rw [if_neg hok]
  rw [e]
  clear e
  by_cases ho:16≤op∧op≤18
  ·obtain⟨o1,o2⟩:=ho
   clear hok
   go_enter Try.func50,Try.ntmps50
   go_wp2_with(go_at_call 75;refine(size_any _ _).mono ?_;rintro e w1 ⟨rfl,rfl⟩)
   go_ret2
   exact⟨rfl,rfl⟩
  ·have hth:thereB m.length n (sizeI op)=false:=by
    by_cases h:11≤op∧op≤15
    ·simpa [h.1,h.2] using hok
    ·have:sizeI op=0:=by unfold sizeI;(repeat' split)<;>omega
     rw [this]
     rfl
   have s0:0≤sizeI op:=by unfold sizeI;(repeat' split)<;>omega
   have s1:sizeI op≤4:=by unfold sizeI;(repeat' split)<;>omega
   have ho':16≤op→18<op:=fun h=>by omega
   clear hok ho
   obtain⟨sz,hsz⟩:∃ z,sizeI op=z:=⟨_,rfl⟩
   rw [hsz] at hth s0 s1
   have Hsz:=Lib.hid hsz
   clear hsz
   by_cases h16:16≤op
   ·have h18:=ho' h16
    clear ho'
    go_enter Try.func50,Try.ntmps50
    go_wp2_with(first
     |(go_at_call 75;refine(size_any _ _).mono ?_;rintro e w1 ⟨rfl,rfl⟩;rw [Hsz.out])
     |(go_at_call 53;refine(there_any _ _ _ _ sz _ (by omega) (by omega) (by omega) (by omega) (by omega)).mono ?_;rintro e w1 ⟨rfl,rfl⟩;rw [hth]))
    go_ret2
    exact⟨rfl,rfl⟩
   ·clear ho'
    go_enter Try.func50,Try.ntmps50
    go_wp2_with(first
     |(go_at_call 75;refine(size_any _ _).mono ?_;rintro e w1 ⟨rfl,rfl⟩;rw [Hsz.out])
     |(go_at_call 53;refine(there_any _ _ _ _ sz _ (by omega) (by omega) (by omega) (by omega) (by omega)).mono ?_;rintro e w1 ⟨rfl,rfl⟩;rw [hth]))
    go_ret2
    exact⟨rfl,rfl⟩
theorem cut_0_6 (x:Int) (w:World) (h0:0≤x) (h1:x≤4294967295) :
  Calls Try.prog 95 #[.int .u32 x, .int .i64 0, .int .i64 6] w fun e w'=>e = .returned (.int .u32 (cutI x 0 6))∧Below w.heap.size w w':=by
 have HX:=Lib.hid (cut_eq x 0 6 1 128 (by decide) (by decide))
 have hm:=Lib.hid (show bits .and .u32 (x / 1) (128 - 1)=x / 1%128 from and_mask (x / 1) 7 (by omega) (by omega) (by omega))
 go_enter Try.func95,Try.ntmps95
 go_wp2
 refine wp_region_below (by kernel_rfl) (by kernel_rfl) ?_
 repeat'(first
  |refine wpMix_plain rfl ?_
  |(refine' wpMixW_quiet _ (fun wq hwq K hK=>?_) ?_ ?_;rotate_left 1;(· go_wp2_with(fail);all_goals exact hK _ hwq);rfl)
  |((first | refine wpMix_guardT rfl rfl rfl ?_ ?_ | refine wpMix_guardF rfl rfl rfl ?_ ?_)<;>intro hc<;>first | (cases hc;done) | ((try cases hc);simp only [Act.put,sA,sS,sZ]))
  |refine wpMix_guardU rfl rfl rfl ?_)
 all_goals
  refine wpMix_nil ?_
  intro w4 hw4
  go_wp2
  go_ret
  refine⟨?_,hw4⟩
  rw [HX.out]
  first | exact ret_int hm.out | exact ret_int (by simpa using hm.out)
theorem cut_12_14 (x:Int) (w:World) (h0:0≤x) (h1:x≤4294967295) :
  Calls Try.prog 95 #[.int .u32 x, .int .i64 12, .int .i64 14] w fun e w'=>e = .returned (.int .u32 (cutI x 12 14))∧Below w.heap.size w w':=by
 have HX:=Lib.hid (cut_eq x 12 14 4096 8 (by decide) (by decide))
 have hm:=Lib.hid (show bits .and .u32 (x / 4096) (8 - 1)=x / 4096%8 from and_mask (x / 4096) 3 (by omega) (by omega) (by omega))
 go_enter Try.func95,Try.ntmps95
 go_wp2
 refine wp_region_below (by kernel_rfl) (by kernel_rfl) ?_
 repeat'(first
  |refine wpMix_plain rfl ?_
  |(refine' wpMixW_quiet _ (fun wq hwq K hK=>?_) ?_ ?_;rotate_left 1;(· go_wp2_with(fail);all_goals exact hK _ hwq);rfl)
  |((first | refine wpMix_guardT rfl rfl rfl ?_ ?_ | refine wpMix_guardF rfl rfl rfl ?_ ?_)<;>intro hc<;>first | (cases hc;done) | ((try cases hc);simp only [Act.put,sA,sS,sZ]))
  |refine wpMix_guardU rfl rfl rfl ?_)
 all_goals
  refine wpMix_nil ?_
  intro w4 hw4
  go_wp2
  go_ret
  refine⟨?_,hw4⟩
  rw [HX.out]
  first | exact ret_int hm.out | exact ret_int (by simpa using hm.out)
theorem cut_25_31 (x:Int) (w:World) (h0:0≤x) (h1:x≤4294967295) :
  Calls Try.prog 95 #[.int .u32 x, .int .i64 25, .int .i64 31] w fun e w'=>e = .returned (.int .u32 (cutI x 25 31))∧Below w.heap.size w w':=by
 have HX:=Lib.hid (cut_eq x 25 31 33554432 128 (by decide) (by decide))
 have hm:=Lib.hid (show bits .and .u32 (x / 33554432) (128 - 1)=x / 33554432%128 from and_mask (x / 33554432) 7 (by omega) (by omega) (by omega))
 go_enter Try.func95,Try.ntmps95
 go_wp2
 refine wp_region_below (by kernel_rfl) (by kernel_rfl) ?_
 repeat'(first
  |refine wpMix_plain rfl ?_
  |(refine' wpMixW_quiet _ (fun wq hwq K hK=>?_) ?_ ?_;rotate_left 1;(· go_wp2_with(fail);all_goals exact hK _ hwq);rfl)
  |((first | refine wpMix_guardT rfl rfl rfl ?_ ?_ | refine wpMix_guardF rfl rfl rfl ?_ ?_)<;>intro hc<;>first | (cases hc;done) | ((try cases hc);simp only [Act.put,sA,sS,sZ]))
  |refine wpMix_guardU rfl rfl rfl ?_)
 all_goals
  refine wpMix_nil ?_
  intro w4 hw4
  go_wp2
  go_ret
  refine⟨?_,hw4⟩
  rw [HX.out]
  first | exact ret_int hm.out | exact ret_int (by simpa using hm.out)
theorem cut_7_11 (x:Int) (w:World) (h0:0≤x) (h1:x≤4294967295) :
  Calls Try.prog 95 #[.int .u32 x, .int .i64 7, .int .i64 11] w fun e w'=>e = .returned (.int .u32 (cutI x 7 11))∧Below w.heap.size w w':=by
 have HX:=Lib.hid (cut_eq x 7 11 128 32 (by decide) (by decide))
 have hm:=Lib.hid (show bits .and .u32 (x / 128) (32 - 1)=x / 128%32 from and_mask (x / 128) 5 (by omega) (by omega) (by omega))
 go_enter Try.func95,Try.ntmps95
 go_wp2
 refine wp_region_below (by kernel_rfl) (by kernel_rfl) ?_
 repeat'(first
  |refine wpMix_plain rfl ?_
  |(refine' wpMixW_quiet _ (fun wq hwq K hK=>?_) ?_ ?_;rotate_left 1;(· go_wp2_with(fail);all_goals exact hK _ hwq);rfl)
  |((first | refine wpMix_guardT rfl rfl rfl ?_ ?_ | refine wpMix_guardF rfl rfl rfl ?_ ?_)<;>intro hc<;>first | (cases hc;done) | ((try cases hc);simp only [Act.put,sA,sS,sZ]))
  |refine wpMix_guardU rfl rfl rfl ?_)
 all_goals
  refine wpMix_nil ?_
  intro w4 hw4
  go_wp2
  go_ret
  refine⟨?_,hw4⟩
  rw [HX.out]
  first | exact ret_int hm.out | exact ret_int (by simpa using hm.out)
theorem cut_15_19 (x:Int) (w:World) (h0:0≤x) (h1:x≤4294967295) :
  Calls Try.prog 95 #[.int .u32 x, .int .i64 15, .int .i64 19] w fun e w'=>e = .returned (.int .u32 (cutI x 15 19))∧Below w.heap.size w w':=by
 have HX:=Lib.hid (cut_eq x 15 19 32768 32 (by decide) (by decide))
 have hm:=Lib.hid (show bits .and .u32 (x / 32768) (32 - 1)=x / 32768%32 from and_mask (x / 32768) 5 (by omega) (by omega) (by omega))
 go_enter Try.func95,Try.ntmps95
 go_wp2
 refine wp_region_below (by kernel_rfl) (by kernel_rfl) ?_
 repeat'(first
  |refine wpMix_plain rfl ?_
  |(refine' wpMixW_quiet _ (fun wq hwq K hK=>?_) ?_ ?_;rotate_left 1;(· go_wp2_with(fail);all_goals exact hK _ hwq);rfl)
  |((first | refine wpMix_guardT rfl rfl rfl ?_ ?_ | refine wpMix_guardF rfl rfl rfl ?_ ?_)<;>intro hc<;>first | (cases hc;done) | ((try cases hc);simp only [Act.put,sA,sS,sZ]))
  |refine wpMix_guardU rfl rfl rfl ?_)
 all_goals
  refine wpMix_nil ?_
  intro w4 hw4
  go_wp2
  go_ret
  refine⟨?_,hw4⟩
  rw [HX.out]
  first | exact ret_int hm.out | exact ret_int (by simpa using hm.out)
theorem cut_20_24 (x:Int) (w:World) (h0:0≤x) (h1:x≤4294967295) :
  Calls Try.prog 95 #[.int .u32 x, .int .i64 20, .int .i64 24] w fun e w'=>e = .returned (.int .u32 (cutI x 20 24))∧Below w.heap.size w w':=by
 have HX:=Lib.hid (cut_eq x 20 24 1048576 32 (by decide) (by decide))
 have hm:=Lib.hid (show bits .and .u32 (x / 1048576) (32 - 1)=x / 1048576%32 from and_mask (x / 1048576) 5 (by omega) (by omega) (by omega))
 go_enter Try.func95,Try.ntmps95
 go_wp2
 refine wp_region_below (by kernel_rfl) (by kernel_rfl) ?_
 repeat'(first
  |refine wpMix_plain rfl ?_
  |(refine' wpMixW_quiet _ (fun wq hwq K hK=>?_) ?_ ?_;rotate_left 1;(· go_wp2_with(fail);all_goals exact hK _ hwq);rfl)
  |((first | refine wpMix_guardT rfl rfl rfl ?_ ?_ | refine wpMix_guardF rfl rfl rfl ?_ ?_)<;>intro hc<;>first | (cases hc;done) | ((try cases hc);simp only [Act.put,sA,sS,sZ]))
  |refine wpMix_guardU rfl rfl rfl ?_)
 all_goals
  refine wpMix_nil ?_
  intro w4 hw4
  go_wp2
  go_ret
  refine⟨?_,hw4⟩
  rw [HX.out]
  first | exact ret_int hm.out | exact ret_int (by simpa using hm.out)
theorem cut_31_31 (x:Int) (w:World) (h0:0≤x) (h1:x≤4294967295) :
  Calls Try.prog 95 #[.int .u32 x, .int .i64 31, .int .i64 31] w fun e w'=>e = .returned (.int .u32 (cutI x 31 31))∧Below w.heap.size w w':=by
 have HX:=Lib.hid (cut_eq x 31 31 2147483648 2 (by decide) (by decide))
 have hm:=Lib.hid (show bits .and .u32 (x / 2147483648) (2 - 1)=x / 2147483648%2 from and_mask (x / 2147483648) 1 (by omega) (by omega) (by omega))
 go_enter Try.func95,Try.ntmps95
 go_wp2
 refine wp_region_below (by kernel_rfl) (by kernel_rfl) ?_
 repeat'(first
  |refine wpMix_plain rfl ?_
  |(refine' wpMixW_quiet _ (fun wq hwq K hK=>?_) ?_ ?_;rotate_left 1;(· go_wp2_with(fail);all_goals exact hK _ hwq);rfl)
  |((first | refine wpMix_guardT rfl rfl rfl ?_ ?_ | refine wpMix_guardF rfl rfl rfl ?_ ?_)<;>intro hc<;>first | (cases hc;done) | ((try cases hc);simp only [Act.put,sA,sS,sZ]))
  |refine wpMix_guardU rfl rfl rfl ?_)
 all_goals
  refine wpMix_nil ?_
  intro w4 hw4
  go_wp2
  go_ret
  refine⟨?_,hw4⟩
  rw [HX.out]
  first | exact ret_int hm.out | exact ret_int (by simpa using hm.out)
theorem cut_12_19 (x:Int) (w:World) (h0:0≤x) (h1:x≤4294967295) :
  Calls Try.prog 95 #[.int .u32 x, .int .i64 12, .int .i64 19] w fun e w'=>e = .returned (.int .u32 (cutI x 12 19))∧Below w.heap.size w w':=by
 have HX:=Lib.hid (cut_eq x 12 19 4096 256 (by decide) (by decide))
 have hm:=Lib.hid (show bits .and .u32 (x / 4096) (256 - 1)=x / 4096%256 from and_mask (x / 4096) 8 (by omega) (by omega) (by omega))
 go_enter Try.func95,Try.ntmps95
 go_wp2
 refine wp_region_below (by kernel_rfl) (by kernel_rfl) ?_
 repeat'(first
  |refine wpMix_plain rfl ?_
  |(refine' wpMixW_quiet _ (fun wq hwq K hK=>?_) ?_ ?_;rotate_left 1;(· go_wp2_with(fail);all_goals exact hK _ hwq);rfl)
  |((first | refine wpMix_guardT rfl rfl rfl ?_ ?_ | refine wpMix_guardF rfl rfl rfl ?_ ?_)<;>intro hc<;>first | (cases hc;done) | ((try cases hc);simp only [Act.put,sA,sS,sZ]))
  |refine wpMix_guardU rfl rfl rfl ?_)
 all_goals
  refine wpMix_nil ?_
  intro w4 hw4
  go_wp2
  go_ret
  refine⟨?_,hw4⟩
  rw [HX.out]
  first | exact ret_int hm.out | exact ret_int (by simpa using hm.out)
theorem cut_20_20 (x:Int) (w:World) (h0:0≤x) (h1:x≤4294967295) :
  Calls Try.prog 95 #[.int .u32 x, .int .i64 20, .int .i64 20] w fun e w'=>e = .returned (.int .u32 (cutI x 20 20))∧Below w.heap.size w w':=by
 have HX:=Lib.hid (cut_eq x 20 20 1048576 2 (by decide) (by decide))
 have hm:=Lib.hid (show bits .and .u32 (x / 1048576) (2 - 1)=x / 1048576%2 from and_mask (x / 1048576) 1 (by omega) (by omega) (by omega))
 go_enter Try.func95,Try.ntmps95
 go_wp2
 refine wp_region_below (by kernel_rfl) (by kernel_rfl) ?_
 repeat'(first
  |refine wpMix_plain rfl ?_
  |(refine' wpMixW_quiet _ (fun wq hwq K hK=>?_) ?_ ?_;rotate_left 1;(· go_wp2_with(fail);all_goals exact hK _ hwq);rfl)
  |((first | refine wpMix_guardT rfl rfl rfl ?_ ?_ | refine wpMix_guardF rfl rfl rfl ?_ ?_)<;>intro hc<;>first | (cases hc;done) | ((try cases hc);simp only [Act.put,sA,sS,sZ]))
  |refine wpMix_guardU rfl rfl rfl ?_)
 all_goals
  refine wpMix_nil ?_
  intro w4 hw4
  go_wp2
  go_ret
  refine⟨?_,hw4⟩
  rw [HX.out]
  first | exact ret_int hm.out | exact ret_int (by simpa using hm.out)
theorem cut_21_30 (x:Int) (w:World) (h0:0≤x) (h1:x≤4294967295) :
  Calls Try.prog 95 #[.int .u32 x, .int .i64 21, .int .i64 30] w fun e w'=>e = .returned (.int .u32 (cutI x 21 30))∧Below w.heap.size w w':=by
 have HX:=Lib.hid (cut_eq x 21 30 2097152 1024 (by decide) (by decide))
 have hm:=Lib.hid (show bits .and .u32 (x / 2097152) (1024 - 1)=x / 2097152%1024 from and_mask (x / 2097152) 10 (by omega) (by omega) (by omega))
 go_enter Try.func95,Try.ntmps95
 go_wp2
 refine wp_region_below (by kernel_rfl) (by kernel_rfl) ?_
 repeat'(first
  |refine wpMix_plain rfl ?_
  |(refine' wpMixW_quiet _ (fun wq hwq K hK=>?_) ?_ ?_;rotate_left 1;(· go_wp2_with(fail);all_goals exact hK _ hwq);rfl)
  |((first | refine wpMix_guardT rfl rfl rfl ?_ ?_ | refine wpMix_guardF rfl rfl rfl ?_ ?_)<;>intro hc<;>first | (cases hc;done) | ((try cases hc);simp only [Act.put,sA,sS,sZ]))
  |refine wpMix_guardU rfl rfl rfl ?_)
 all_goals
  refine wpMix_nil ?_
  intro w4 hw4
  go_wp2
  go_ret
  refine⟨?_,hw4⟩
  rw [HX.out]
  first | exact ret_int hm.out | exact ret_int (by simpa using hm.out)
theorem cut_20_31 (x:Int) (w:World) (h0:0≤x) (h1:x≤4294967295) :
  Calls Try.prog 95 #[.int .u32 x, .int .i64 20, .int .i64 31] w fun e w'=>e = .returned (.int .u32 (cutI x 20 31))∧Below w.heap.size w w':=by
 have HX:=Lib.hid (cut_eq x 20 31 1048576 4096 (by decide) (by decide))
 have hm:=Lib.hid (show bits .and .u32 (x / 1048576) (4096 - 1)=x / 1048576%4096 from and_mask (x / 1048576) 12 (by omega) (by omega) (by omega))
 go_enter Try.func95,Try.ntmps95
 go_wp2
 refine wp_region_below (by kernel_rfl) (by kernel_rfl) ?_
 repeat'(first
  |refine wpMix_plain rfl ?_
  |(refine' wpMixW_quiet _ (fun wq hwq K hK=>?_) ?_ ?_;rotate_left 1;(· go_wp2_with(fail);all_goals exact hK _ hwq);rfl)
  |((first | refine wpMix_guardT rfl rfl rfl ?_ ?_ | refine wpMix_guardF rfl rfl rfl ?_ ?_)<;>intro hc<;>first | (cases hc;done) | ((try cases hc);simp only [Act.put,sA,sS,sZ]))
  |refine wpMix_guardU rfl rfl rfl ?_)
 all_goals
  refine wpMix_nil ?_
  intro w4 hw4
  go_wp2
  go_ret
  refine⟨?_,hw4⟩
  rw [HX.out]
  first | exact ret_int hm.out | exact ret_int (by simpa using hm.out)
theorem cut_7_7 (x:Int) (w:World) (h0:0≤x) (h1:x≤4294967295) :
  Calls Try.prog 95 #[.int .u32 x, .int .i64 7, .int .i64 7] w fun e w'=>e = .returned (.int .u32 (cutI x 7 7))∧Below w.heap.size w w':=by
 have HX:=Lib.hid (cut_eq x 7 7 128 2 (by decide) (by decide))
 have hm:=Lib.hid (show bits .and .u32 (x / 128) (2 - 1)=x / 128%2 from and_mask (x / 128) 1 (by omega) (by omega) (by omega))
 go_enter Try.func95,Try.ntmps95
 go_wp2
 refine wp_region_below (by kernel_rfl) (by kernel_rfl) ?_
 repeat'(first
  |refine wpMix_plain rfl ?_
  |(refine' wpMixW_quiet _ (fun wq hwq K hK=>?_) ?_ ?_;rotate_left 1;(· go_wp2_with(fail);all_goals exact hK _ hwq);rfl)
  |((first | refine wpMix_guardT rfl rfl rfl ?_ ?_ | refine wpMix_guardF rfl rfl rfl ?_ ?_)<;>intro hc<;>first | (cases hc;done) | ((try cases hc);simp only [Act.put,sA,sS,sZ]))
  |refine wpMix_guardU rfl rfl rfl ?_)
 all_goals
  refine wpMix_nil ?_
  intro w4 hw4
  go_wp2
  go_ret
  refine⟨?_,hw4⟩
  rw [HX.out]
  first | exact ret_int hm.out | exact ret_int (by simpa using hm.out)
theorem cut_25_30 (x:Int) (w:World) (h0:0≤x) (h1:x≤4294967295) :
  Calls Try.prog 95 #[.int .u32 x, .int .i64 25, .int .i64 30] w fun e w'=>e = .returned (.int .u32 (cutI x 25 30))∧Below w.heap.size w w':=by
 have HX:=Lib.hid (cut_eq x 25 30 33554432 64 (by decide) (by decide))
 have hm:=Lib.hid (show bits .and .u32 (x / 33554432) (64 - 1)=x / 33554432%64 from and_mask (x / 33554432) 6 (by omega) (by omega) (by omega))
 go_enter Try.func95,Try.ntmps95
 go_wp2
 refine wp_region_below (by kernel_rfl) (by kernel_rfl) ?_
 repeat'(first
  |refine wpMix_plain rfl ?_
  |(refine' wpMixW_quiet _ (fun wq hwq K hK=>?_) ?_ ?_;rotate_left 1;(· go_wp2_with(fail);all_goals exact hK _ hwq);rfl)
  |((first | refine wpMix_guardT rfl rfl rfl ?_ ?_ | refine wpMix_guardF rfl rfl rfl ?_ ?_)<;>intro hc<;>first | (cases hc;done) | ((try cases hc);simp only [Act.put,sA,sS,sZ]))
  |refine wpMix_guardU rfl rfl rfl ?_)
 all_goals
  refine wpMix_nil ?_
  intro w4 hw4
  go_wp2
  go_ret
  refine⟨?_,hw4⟩
  rw [HX.out]
  first | exact ret_int hm.out | exact ret_int (by simpa using hm.out)
theorem cut_8_11 (x:Int) (w:World) (h0:0≤x) (h1:x≤4294967295) :
  Calls Try.prog 95 #[.int .u32 x, .int .i64 8, .int .i64 11] w fun e w'=>e = .returned (.int .u32 (cutI x 8 11))∧Below w.heap.size w w':=by
 have HX:=Lib.hid (cut_eq x 8 11 256 16 (by decide) (by decide))
 have hm:=Lib.hid (show bits .and .u32 (x / 256) (16 - 1)=x / 256%16 from and_mask (x / 256) 4 (by omega) (by omega) (by omega))
 go_enter Try.func95,Try.ntmps95
 go_wp2
 refine wp_region_below (by kernel_rfl) (by kernel_rfl) ?_
 repeat'(first
  |refine wpMix_plain rfl ?_
  |(refine' wpMixW_quiet _ (fun wq hwq K hK=>?_) ?_ ?_;rotate_left 1;(· go_wp2_with(fail);all_goals exact hK _ hwq);rfl)
  |((first | refine wpMix_guardT rfl rfl rfl ?_ ?_ | refine wpMix_guardF rfl rfl rfl ?_ ?_)<;>intro hc<;>first | (cases hc;done) | ((try cases hc);simp only [Act.put,sA,sS,sZ]))
  |refine wpMix_guardU rfl rfl rfl ?_)
 all_goals
  refine wpMix_nil ?_
  intro w4 hw4
  go_wp2
  go_ret
  refine⟨?_,hw4⟩
  rw [HX.out]
  first | exact ret_int hm.out | exact ret_int (by simpa using hm.out)
theorem signed_21 (x:Int) (w:World) (h0:0≤x) (h1:x<2097152) :
  Calls Try.prog 96 #[.int .u32 x, .int .i64 21] w fun e w'=>e = .returned (.int .i32 (sgnI x 21))∧w=w':=by
 have HX:=Lib.hid (show sgnI x 21=if x<1048576 then x else x - 2097152 by unfold sgnI;rw [show(2:Int) ^ (21 - 1)=1048576 by decide,show(2:Int) ^ 21=2097152 by decide])
 go_enter Try.func96,Try.ntmps96
 go_wp2
 go_ret
 refine⟨?_,rfl⟩
 rw [HX.out]
 refine ret_int ?_
 show wrap32 (x*2048) / 2048=if x<1048576 then x else x - 2097152
 unfold wrap32
 split<;>omega
theorem signed_13 (x:Int) (w:World) (h0:0≤x) (h1:x<8192) :
  Calls Try.prog 96 #[.int .u32 x, .int .i64 13] w fun e w'=>e = .returned (.int .i32 (sgnI x 13))∧w=w':=by
 have HX:=Lib.hid (show sgnI x 13=if x<4096 then x else x - 8192 by unfold sgnI;rw [show(2:Int) ^ (13 - 1)=4096 by decide,show(2:Int) ^ 13=8192 by decide])
 go_enter Try.func96,Try.ntmps96
 go_wp2
 go_ret
 refine⟨?_,rfl⟩
 rw [HX.out]
 refine ret_int ?_
 show wrap32 (x*524288) / 524288=if x<4096 then x else x - 8192
 unfold wrap32
 split<;>omega
theorem signed_12 (x:Int) (w:World) (h0:0≤x) (h1:x<4096) :
  Calls Try.prog 96 #[.int .u32 x, .int .i64 12] w fun e w'=>e = .returned (.int .i32 (sgnI x 12))∧w=w':=by
 have HX:=Lib.hid (show sgnI x 12=if x<2048 then x else x - 4096 by unfold sgnI;rw [show(2:Int) ^ (12 - 1)=2048 by decide,show(2:Int) ^ 12=4096 by decide])
 go_enter Try.func96,Try.ntmps96
 go_wp2
 go_ret
 refine⟨?_,rfl⟩
 rw [HX.out]
 refine ret_int ?_
 show wrap32 (x*1048576) / 1048576=if x<2048 then x else x - 4096
 unfold wrap32
 split<;>omega
theorem up_any (op first form low mid:Int) (g g2 n:Nat) (w:World) (h0:0≤op - first) (h1:op - first<n) (h2:0≤first) (h3:op≤100) (hg:w.cell? ⟨g,0,none⟩=some (.int .i64 op)) (hm:w.cell? ⟨g2,(op - first).toNat,none⟩=some (.int .u32 mid)) :
  Calls Try.prog 94 #[.int .i64 first, .int .i64 form, .int .u32 low, .slice (some ⟨g2,0,none⟩) n n, .pointer (some ⟨g,0,none⟩)] w
   fun e w'=>e = .returned (.tuple #[.agg #[.int .i64 form, .int .u32 low, .int .u32 mid, .int .u32 0], .bool true])∧Below w.heap.size w w':=by
 obtain⟨k,hk⟩:=Int.eq_ofNat_of_zero_le h0
 rw [hk] at hm h1
 simp only [Int.toNat_natCast] at hm
 have zg:=World.block_lt_of_cell? _ _ hg
 have zm:=World.block_lt_of_cell? _ _ hm
 dsimp only at zg zm
 go_enter Try.func94,Try.ntmps94
 go_wp2
 exact bodyPost_ret (v := .tuple #[.agg #[.int .i64 form, .int .u32 low, .int .u32 mid, .int .u32 0], .bool true]) (by simp [results,Try.results94,go_sem]) rfl ⟨rfl,(Below.refl _ _).alloc (Nat.le_refl _) _⟩
end Go.Proofs.Ytapgojgcmlnbgac
