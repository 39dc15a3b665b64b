/- Parts of a proof. -/
import Derived.Test.YtapgojgcmlnbgacProg
import Derived.Test.YtapgojgcmlnbgacK00
import Derived.Test.YtapgojgcmlnbgacK02
import Derived.Test.YtapgojgcmlnbgacK01
import Derived.WalkLawsBesides
import Derived.Lib.Hide
set_option linter.unusedSimpArgs false
set_option linter.unusedVariables false
set_option maxRecDepth 100000
set_option maxHeartbeats 16000000
namespace Go.Proofs.Ytapgojgcmlnbgac
open Go.RowKit
theorem wtruth_any (b:Bool) (w:World):Calls Try.prog 89 #[.bool b] w fun e w'=>e = .returned (.int .u32 (if b=true then 1 else 0))∧w=w':=by
 cases b
 all_goals
  go_enter Try.func89,Try.ntmps89
  go_wp2
  go_ret
  exact⟨rfl,rfl⟩
theorem high_any (a b:Int) (w:World) (ha0 : -2147483648≤a) (ha1:a≤2147483647) (hb0 : -4294967296≤b) (hb1:b≤4294967296) :
  Calls Try.prog 90 #[.int .i64 a, .int .i64 b] w fun e w'=>e = .returned (.int .u32 (a*b / 4294967296%4294967296))∧w=w':=by
 obtain⟨h1,h2⟩:=mul_abs (a:=a) (b:=b) (A:=2147483648) (B:=4294967296) (by omega) (by omega)
 generalize hX:a*b / 4294967296%4294967296=X
 have HX:=Lib.hid hX
 clear hX
 go_enter Try.func90,Try.ntmps90
 go_wp2
 go_ret
 refine⟨?_,rfl⟩
 show Ending.returned (.int .u32 _)=_
 rw [←HX.out]
 refine ret_int ?_
 simp only [IntKind.wrap_u64,wrap64]
 generalize a*b=p at h1 h2 ⊢
 omega
theorem mul32_any (a b:Int) (w:World) (ha0:0≤a) (ha1:a≤4294967295) (hb0:0≤b) (hb1:b≤4294967295) :
  Calls Try.prog 91 #[.int .u32 a, .int .u32 b] w fun e w'=>e = .returned (.tuple #[.int .u32 (a*b / 4294967296), .int .u32 (a*b%4294967296)])∧w=w':=by
 obtain⟨h1,h2⟩:=mul_abs (a:=a) (b:=b) (A:=4294967295) (B:=4294967295) (by omega) (by omega)
 have h3:=Int.mul_nonneg ha0 hb0
 go_enter Try.func91,Try.ntmps91
 go_wp2
 go_ret2
 refine⟨?_,rfl⟩
 show Ending.returned (.tuple #[.int .u32 _, .int .u32 _])=_
 rfl
theorem divide_any (a b:Int) (w:World) (ha0 : -2147483648≤a) (ha1:a≤2147483647) (hb0 : -2147483648≤b) (hb1:b≤2147483647) :
  Calls Try.prog 97 #[.int .i32 a, .int .i32 b] w fun e w'=>e = .returned (.tuple #[.int .i32 (divP a b).1, .int .i32 (divP a b).2])∧Below w.heap.size w w':=by
 by_cases h:b=0
 ·subst h
  go_enter Try.func97,Try.ntmps97
  go_wp2
  go_ret2
  exact⟨rfl,Below.refl _ _⟩
 by_cases h':b = -1
 ·subst h'
  go_enter Try.func97,Try.ntmps97
  go_wp2
  go_ret2
  exact⟨rfl,Below.refl _ _⟩
 ·have e:divP a b=(a.tdiv b,a.tmod b):=by unfold divP;rw [if_neg h,if_neg h']
  rw [e]
  clear e
  obtain⟨t0,t1⟩:=tdiv_in a b ha0 ha1 h h'
  go_enter Try.func97,Try.ntmps97
  go_wp2
  refine wp_region_below (by kernel_rfl) (by kernel_rfl) ?_
  repeat'(first
   |refine wpMix_plain rfl ?_
   |(refine' wpMixW_quiet _ (fun wq hwq K hK=>?_) ?_ ?_;rotate_left 1;(· obtain⟨hcq,hfq⟩:=bcell hwq;go_wp2_with(fail);all_goals exact hK _ hwq);rfl)
   |((first | refine wpMix_guardT rfl rfl rfl ?_ ?_ | refine wpMix_guardF rfl rfl rfl ?_ ?_)<;>intro hc<;>first | (cases hc;done) | ((try cases hc);simp only [Act.put,sA,sS,sZ]))
   |refine wpMix_guardU rfl rfl rfl ?_)
  all_goals
   refine wpMix_nil ?_
   intro w4 hw4
   go_wp2
   go_ret2
   refine⟨?_,hw4⟩
   show Ending.returned (.tuple #[.int .i32 _, .int .i32 _])=_
   rfl
theorem quotient_any (op a b:Int) (w:World) (ha0:0≤a) (ha1:a≤4294967295) (hb0:0≤b) (hb1:b≤4294967295) :
  Calls Try.prog 92 #[.int .i64 op, .int .u32 a, .int .u32 b] w fun e w'=>e = .returned (.int .u32 (quotP op a b))∧Below w.heap.size w w':=by
 have l1:=sg_lo ha0 ha1
 have l2:=sg_hi ha0 ha1
 have l3:=sg_lo hb0 hb1
 have l4:=sg_hi hb0 hb1
 have hA:=wrap32_sg ha0 ha1
 have hB:=wrap32_sg hb0 hb1
 generalize hX:quotP op a b=X
 have HX:=Lib.hid hX
 clear hX
 by_cases h:op=42
 ·subst h
  go_enter Try.func92,Try.ntmps92
  go_wp2_with(go_at_call 97;(first | with_reducible refine(divide_any _ _ _ l1 l2 l3 l4).mono ?_ | with_reducible refine(divide_any _ 0 _ l1 l2 (by omega) (by omega)).mono ?_);rintro e w1 ⟨rfl,hbw⟩)
  all_goals
   go_ret
   refine⟨?_,hbw⟩
   show Ending.returned (.int .u32 _)=_
   rw [←HX.out]
   refine ret_int ?_
  exact divP_q hb0 hb1
 by_cases h:op=44
 ·subst h
  go_enter Try.func92,Try.ntmps92
  go_wp2_with(go_at_call 97;(first | with_reducible refine(divide_any _ _ _ l1 l2 l3 l4).mono ?_ | with_reducible refine(divide_any _ 0 _ l1 l2 (by omega) (by omega)).mono ?_);rintro e w1 ⟨rfl,hbw⟩)
  all_goals
   go_ret
   refine⟨?_,hbw⟩
   show Ending.returned (.int .u32 _)=_
   rw [←HX.out]
   refine ret_int ?_
  exact divP_r ha0 ha1 hb0 hb1
 by_cases h:op=43
 ·subst h
  by_cases h':b=0
  ·subst h'
   clear hB
   go_enter Try.func92,Try.ntmps92
   go_wp2_with(go_at_call 97;(first | with_reducible refine(divide_any _ _ _ l1 l2 l3 l4).mono ?_ | with_reducible refine(divide_any _ 0 _ l1 l2 (by omega) (by omega)).mono ?_);rintro e w1 ⟨rfl,hbw⟩)
   all_goals
    go_ret
    refine⟨?_,hbw⟩
    show Ending.returned (.int .u32 _)=_
    rw [←HX.out]
    refine ret_int ?_
   all_goals
    rfl
  ·have h2:1≤b:=by omega
   go_enter Try.func92,Try.ntmps92
   go_wp2_with(go_at_call 97;(first | with_reducible refine(divide_any _ _ _ l1 l2 l3 l4).mono ?_ | with_reducible refine(divide_any _ 0 _ l1 l2 (by omega) (by omega)).mono ?_);rintro e w1 ⟨rfl,hbw⟩)
   all_goals
    go_ret
    refine⟨?_,hbw⟩
    show Ending.returned (.int .u32 _)=_
    rw [←HX.out]
    refine ret_int ?_
   all_goals
    unfold quotP
    simp [*]
 by_cases h:op=45
 ·subst h
  by_cases h':b=0
  ·subst h'
   clear hB
   go_enter Try.func92,Try.ntmps92
   go_wp2_with(go_at_call 97;(first | with_reducible refine(divide_any _ _ _ l1 l2 l3 l4).mono ?_ | with_reducible refine(divide_any _ 0 _ l1 l2 (by omega) (by omega)).mono ?_);rintro e w1 ⟨rfl,hbw⟩)
   all_goals
    go_ret
    refine⟨?_,hbw⟩
    show Ending.returned (.int .u32 _)=_
    rw [←HX.out]
    refine ret_int ?_
   all_goals
    rfl
  ·have h2:1≤b:=by omega
   go_enter Try.func92,Try.ntmps92
   go_wp2_with(go_at_call 97;(first | with_reducible refine(divide_any _ _ _ l1 l2 l3 l4).mono ?_ | with_reducible refine(divide_any _ 0 _ l1 l2 (by omega) (by omega)).mono ?_);rintro e w1 ⟨rfl,hbw⟩)
   all_goals
    go_ret
    refine⟨?_,hbw⟩
    show Ending.returned (.int .u32 _)=_
    rw [←HX.out]
    refine ret_int ?_
   all_goals
    unfold quotP
    simp [*]
 ·
  go_enter Try.func92,Try.ntmps92
  go_wp2_with(go_at_call 97;(first | with_reducible refine(divide_any _ _ _ l1 l2 l3 l4).mono ?_ | with_reducible refine(divide_any _ 0 _ l1 l2 (by omega) (by omega)).mono ?_);rintro e w1 ⟨rfl,hbw⟩)
  all_goals
   go_ret
   refine⟨?_,hbw⟩
   show Ending.returned (.int .u32 _)=_
   rw [←HX.out]
   refine ret_int ?_
  unfold quotP
  simp [*]
theorem alu_any (op a b:Int) (w:World) (ha0:0≤a) (ha1:a≤4294967295) (hb0:0≤b) (hb1:b≤4294967295) :
  Calls Try.prog 77 #[.int .i64 op, .int .u32 a, .int .u32 b] w fun e w'=>e = .returned (.int .u32 (aluP op a b))∧Below w.heap.size w w':=by
 have l1:=sg_lo ha0 ha1
 have l2:=sg_hi ha0 ha1
 have l3:=sg_lo hb0 hb1
 have l4:=sg_hi hb0 hb1
 have hA:=wrap32_sg ha0 ha1
 have hB:=wrap32_sg hb0 hb1
 have hM:=and31 b hb0 hb1
 generalize hX:aluP op a b=X
 have HX:=Lib.hid hX
 clear hX
 by_cases h:op=28
 ·subst h
  go_enter Try.func77,Try.ntmps77
  go_wp2_with(first
   |(go_at_call 89;(with_reducible refine(wtruth_any _ _).mono ?_);rintro e w1 ⟨rfl,rfl⟩)
   |(go_at_call 90;(with_reducible refine(high_any _ _ _ l1 l2 (by omega) (by omega)).mono ?_);rintro e w1 ⟨rfl,rfl⟩)
   |(go_at_call 91;(with_reducible refine(mul32_any a b _ ha0 ha1 hb0 hb1).mono ?_);rintro e w1 ⟨rfl,rfl⟩)
   |(go_at_call 92;(with_reducible refine(quotient_any _ a b _ ha0 ha1 hb0 hb1).mono ?_);rintro e w1 ⟨rfl,hbw⟩))
  all_goals
   go_ret
   refine⟨?_,by first | exact Below.refl _ _ | exact hbw⟩
   show Ending.returned (.int .u32 _)=_
   rw [←HX.out]
   refine ret_int ?_
  all_goals
   unfold aluP
   simp [*]
 by_cases h:op=29
 ·subst h
  go_enter Try.func77,Try.ntmps77
  go_wp2_with(first
   |(go_at_call 89;(with_reducible refine(wtruth_any _ _).mono ?_);rintro e w1 ⟨rfl,rfl⟩)
   |(go_at_call 90;(with_reducible refine(high_any _ _ _ l1 l2 (by omega) (by omega)).mono ?_);rintro e w1 ⟨rfl,rfl⟩)
   |(go_at_call 91;(with_reducible refine(mul32_any a b _ ha0 ha1 hb0 hb1).mono ?_);rintro e w1 ⟨rfl,rfl⟩)
   |(go_at_call 92;(with_reducible refine(quotient_any _ a b _ ha0 ha1 hb0 hb1).mono ?_);rintro e w1 ⟨rfl,hbw⟩))
  all_goals
   go_ret
   refine⟨?_,by first | exact Below.refl _ _ | exact hbw⟩
   show Ending.returned (.int .u32 _)=_
   rw [←HX.out]
   refine ret_int ?_
  all_goals
   unfold aluP
   simp [*]
 by_cases h:op=37
 ·subst h
  go_enter Try.func77,Try.ntmps77
  go_wp2_with(first
   |(go_at_call 89;(with_reducible refine(wtruth_any _ _).mono ?_);rintro e w1 ⟨rfl,rfl⟩)
   |(go_at_call 90;(with_reducible refine(high_any _ _ _ l1 l2 (by omega) (by omega)).mono ?_);rintro e w1 ⟨rfl,rfl⟩)
   |(go_at_call 91;(with_reducible refine(mul32_any a b _ ha0 ha1 hb0 hb1).mono ?_);rintro e w1 ⟨rfl,rfl⟩)
   |(go_at_call 92;(with_reducible refine(quotient_any _ a b _ ha0 ha1 hb0 hb1).mono ?_);rintro e w1 ⟨rfl,hbw⟩))
  all_goals
   go_ret
   refine⟨?_,by first | exact Below.refl _ _ | exact hbw⟩
   show Ending.returned (.int .u32 _)=_
   rw [←HX.out]
   refine ret_int ?_
  all_goals
   unfold aluP
   simp [*]
 by_cases h:op=36
 ·subst h
  go_enter Try.func77,Try.ntmps77
  go_wp2_with(first
   |(go_at_call 89;(with_reducible refine(wtruth_any _ _).mono ?_);rintro e w1 ⟨rfl,rfl⟩)
   |(go_at_call 90;(with_reducible refine(high_any _ _ _ l1 l2 (by omega) (by omega)).mono ?_);rintro e w1 ⟨rfl,rfl⟩)
   |(go_at_call 91;(with_reducible refine(mul32_any a b _ ha0 ha1 hb0 hb1).mono ?_);rintro e w1 ⟨rfl,rfl⟩)
   |(go_at_call 92;(with_reducible refine(quotient_any _ a b _ ha0 ha1 hb0 hb1).mono ?_);rintro e w1 ⟨rfl,hbw⟩))
  all_goals
   go_ret
   refine⟨?_,by first | exact Below.refl _ _ | exact hbw⟩
   show Ending.returned (.int .u32 _)=_
   rw [←HX.out]
   refine ret_int ?_
  all_goals
   unfold aluP
   simp [*]
 by_cases h:op=33
 ·subst h
  go_enter Try.func77,Try.ntmps77
  go_wp2_with(first
   |(go_at_call 89;(with_reducible refine(wtruth_any _ _).mono ?_);rintro e w1 ⟨rfl,rfl⟩)
   |(go_at_call 90;(with_reducible refine(high_any _ _ _ l1 l2 (by omega) (by omega)).mono ?_);rintro e w1 ⟨rfl,rfl⟩)
   |(go_at_call 91;(with_reducible refine(mul32_any a b _ ha0 ha1 hb0 hb1).mono ?_);rintro e w1 ⟨rfl,rfl⟩)
   |(go_at_call 92;(with_reducible refine(quotient_any _ a b _ ha0 ha1 hb0 hb1).mono ?_);rintro e w1 ⟨rfl,hbw⟩))
  all_goals
   go_ret
   refine⟨?_,by first | exact Below.refl _ _ | exact hbw⟩
   show Ending.returned (.int .u32 _)=_
   rw [←HX.out]
   refine ret_int ?_
  all_goals
   unfold aluP
   simp [*]
 by_cases h:op=30
 ·subst h
  go_enter Try.func77,Try.ntmps77
  go_wp2_with(first
   |(go_at_call 89;(with_reducible refine(wtruth_any _ _).mono ?_);rintro e w1 ⟨rfl,rfl⟩)
   |(go_at_call 90;(with_reducible refine(high_any _ _ _ l1 l2 (by omega) (by omega)).mono ?_);rintro e w1 ⟨rfl,rfl⟩)
   |(go_at_call 91;(with_reducible refine(mul32_any a b _ ha0 ha1 hb0 hb1).mono ?_);rintro e w1 ⟨rfl,rfl⟩)
   |(go_at_call 92;(with_reducible refine(quotient_any _ a b _ ha0 ha1 hb0 hb1).mono ?_);rintro e w1 ⟨rfl,hbw⟩))
  all_goals
   go_ret
   refine⟨?_,by first | exact Below.refl _ _ | exact hbw⟩
   show Ending.returned (.int .u32 _)=_
   rw [←HX.out]
   refine ret_int ?_
  all_goals
   unfold aluP
   simp [*]
 by_cases h:op=34
 ·subst h
  go_enter Try.func77,Try.ntmps77
  go_wp2_with(first
   |(go_at_call 89;(with_reducible refine(wtruth_any _ _).mono ?_);rintro e w1 ⟨rfl,rfl⟩)
   |(go_at_call 90;(with_reducible refine(high_any _ _ _ l1 l2 (by omega) (by omega)).mono ?_);rintro e w1 ⟨rfl,rfl⟩)
   |(go_at_call 91;(with_reducible refine(mul32_any a b _ ha0 ha1 hb0 hb1).mono ?_);rintro e w1 ⟨rfl,rfl⟩)
   |(go_at_call 92;(with_reducible refine(quotient_any _ a b _ ha0 ha1 hb0 hb1).mono ?_);rintro e w1 ⟨rfl,hbw⟩))
  all_goals
   go_ret
   refine⟨?_,by first | exact Below.refl _ _ | exact hbw⟩
   show Ending.returned (.int .u32 _)=_
   rw [←HX.out]
   refine ret_int ?_
  all_goals
   unfold aluP
   simp [*]
 by_cases h:op=35
 ·subst h
  go_enter Try.func77,Try.ntmps77
  go_wp2_with(first
   |(go_at_call 89;(with_reducible refine(wtruth_any _ _).mono ?_);rintro e w1 ⟨rfl,rfl⟩)
   |(go_at_call 90;(with_reducible refine(high_any _ _ _ l1 l2 (by omega) (by omega)).mono ?_);rintro e w1 ⟨rfl,rfl⟩)
   |(go_at_call 91;(with_reducible refine(mul32_any a b _ ha0 ha1 hb0 hb1).mono ?_);rintro e w1 ⟨rfl,rfl⟩)
   |(go_at_call 92;(with_reducible refine(quotient_any _ a b _ ha0 ha1 hb0 hb1).mono ?_);rintro e w1 ⟨rfl,hbw⟩))
  all_goals
   go_ret
   refine⟨?_,by first | exact Below.refl _ _ | exact hbw⟩
   show Ending.returned (.int .u32 _)=_
   rw [←HX.out]
   refine ret_int ?_
  all_goals
   unfold aluP
   simp [*]
 by_cases h:op=31
 ·subst h
  go_enter Try.func77,Try.ntmps77
  go_wp2_with(first
   |(go_at_call 89;(with_reducible refine(wtruth_any _ _).mono ?_);rintro e w1 ⟨rfl,rfl⟩)
   |(go_at_call 90;(with_reducible refine(high_any _ _ _ l1 l2 (by omega) (by omega)).mono ?_);rintro e w1 ⟨rfl,rfl⟩)
   |(go_at_call 91;(with_reducible refine(mul32_any a b _ ha0 ha1 hb0 hb1).mono ?_);rintro e w1 ⟨rfl,rfl⟩)
   |(go_at_call 92;(with_reducible refine(quotient_any _ a b _ ha0 ha1 hb0 hb1).mono ?_);rintro e w1 ⟨rfl,hbw⟩))
  all_goals
   go_ret
   refine⟨?_,by first | exact Below.refl _ _ | exact hbw⟩
   show Ending.returned (.int .u32 _)=_
   rw [←HX.out]
   refine ret_int ?_
  all_goals
   unfold aluP
   simp [*]
 by_cases h:op=32
 ·subst h
  go_enter Try.func77,Try.ntmps77
  go_wp2_with(first
   |(go_at_call 89;(with_reducible refine(wtruth_any _ _).mono ?_);rintro e w1 ⟨rfl,rfl⟩)
   |(go_at_call 90;(with_reducible refine(high_any _ _ _ l1 l2 (by omega) (by omega)).mono ?_);rintro e w1 ⟨rfl,rfl⟩)
   |(go_at_call 91;(with_reducible refine(mul32_any a b _ ha0 ha1 hb0 hb1).mono ?_);rintro e w1 ⟨rfl,rfl⟩)
   |(go_at_call 92;(with_reducible refine(quotient_any _ a b _ ha0 ha1 hb0 hb1).mono ?_);rintro e w1 ⟨rfl,hbw⟩))
  all_goals
   go_ret
   refine⟨?_,by first | exact Below.refl _ _ | exact hbw⟩
   show Ending.returned (.int .u32 _)=_
   rw [←HX.out]
   refine ret_int ?_
  all_goals
   unfold aluP
   simp [*]
 by_cases h:op=38
 ·subst h
  go_enter Try.func77,Try.ntmps77
  go_wp2_with(first
   |(go_at_call 89;(with_reducible refine(wtruth_any _ _).mono ?_);rintro e w1 ⟨rfl,rfl⟩)
   |(go_at_call 90;(with_reducible refine(high_any _ _ _ l1 l2 (by omega) (by omega)).mono ?_);rintro e w1 ⟨rfl,rfl⟩)
   |(go_at_call 91;(with_reducible refine(mul32_any a b _ ha0 ha1 hb0 hb1).mono ?_);rintro e w1 ⟨rfl,rfl⟩)
   |(go_at_call 92;(with_reducible refine(quotient_any _ a b _ ha0 ha1 hb0 hb1).mono ?_);rintro e w1 ⟨rfl,hbw⟩))
  all_goals
   go_ret
   refine⟨?_,by first | exact Below.refl _ _ | exact hbw⟩
   show Ending.returned (.int .u32 _)=_
   rw [←HX.out]
   refine ret_int ?_
  all_goals
   unfold aluP
   simp [*]
 by_cases h:op=39
 ·subst h
  go_enter Try.func77,Try.ntmps77
  go_wp2_with(first
   |(go_at_call 89;(with_reducible refine(wtruth_any _ _).mono ?_);rintro e w1 ⟨rfl,rfl⟩)
   |(go_at_call 90;(with_reducible refine(high_any _ _ _ l1 l2 (by omega) (by omega)).mono ?_);rintro e w1 ⟨rfl,rfl⟩)
   |(go_at_call 91;(with_reducible refine(mul32_any a b _ ha0 ha1 hb0 hb1).mono ?_);rintro e w1 ⟨rfl,rfl⟩)
   |(go_at_call 92;(with_reducible refine(quotient_any _ a b _ ha0 ha1 hb0 hb1).mono ?_);rintro e w1 ⟨rfl,hbw⟩))
  all_goals
   go_ret
   refine⟨?_,by first | exact Below.refl _ _ | exact hbw⟩
   show Ending.returned (.int .u32 _)=_
   rw [←HX.out]
   refine ret_int ?_
  all_goals
   unfold aluP
   simp [*]
 by_cases h:op=40
 ·subst h
  go_enter Try.func77,Try.ntmps77
  go_wp2_with(first
   |(go_at_call 89;(with_reducible refine(wtruth_any _ _).mono ?_);rintro e w1 ⟨rfl,rfl⟩)
   |(go_at_call 90;(with_reducible refine(high_any _ _ _ l1 l2 (by omega) (by omega)).mono ?_);rintro e w1 ⟨rfl,rfl⟩)
   |(go_at_call 91;(with_reducible refine(mul32_any a b _ ha0 ha1 hb0 hb1).mono ?_);rintro e w1 ⟨rfl,rfl⟩)
   |(go_at_call 92;(with_reducible refine(quotient_any _ a b _ ha0 ha1 hb0 hb1).mono ?_);rintro e w1 ⟨rfl,hbw⟩))
  all_goals
   go_ret
   refine⟨?_,by first | exact Below.refl _ _ | exact hbw⟩
   show Ending.returned (.int .u32 _)=_
   rw [←HX.out]
   refine ret_int ?_
  all_goals
   unfold aluP
   simp [*]
 by_cases h:op=41
 ·subst h
  go_enter Try.func77,Try.ntmps77
  go_wp2_with(first
   |(go_at_call 89;(with_reducible refine(wtruth_any _ _).mono ?_);rintro e w1 ⟨rfl,rfl⟩)
   |(go_at_call 90;(with_reducible refine(high_any _ _ _ l1 l2 (by omega) (by omega)).mono ?_);rintro e w1 ⟨rfl,rfl⟩)
   |(go_at_call 91;(with_reducible refine(mul32_any a b _ ha0 ha1 hb0 hb1).mono ?_);rintro e w1 ⟨rfl,rfl⟩)
   |(go_at_call 92;(with_reducible refine(quotient_any _ a b _ ha0 ha1 hb0 hb1).mono ?_);rintro e w1 ⟨rfl,hbw⟩))
  all_goals
   go_ret
   refine⟨?_,by first | exact Below.refl _ _ | exact hbw⟩
   show Ending.returned (.int .u32 _)=_
   rw [←HX.out]
   refine ret_int ?_
  all_goals
   unfold aluP
   simp [*]
 ·
  go_enter Try.func77,Try.ntmps77
  go_wp2_with(first
   |(go_at_call 89;(with_reducible refine(wtruth_any _ _).mono ?_);rintro e w1 ⟨rfl,rfl⟩)
   |(go_at_call 90;(with_reducible refine(high_any _ _ _ l1 l2 (by omega) (by omega)).mono ?_);rintro e w1 ⟨rfl,rfl⟩)
   |(go_at_call 91;(with_reducible refine(mul32_any a b _ ha0 ha1 hb0 hb1).mono ?_);rintro e w1 ⟨rfl,rfl⟩)
   |(go_at_call 92;(with_reducible refine(quotient_any _ a b _ ha0 ha1 hb0 hb1).mono ?_);rintro e w1 ⟨rfl,hbw⟩))
  all_goals
   go_ret
   refine⟨?_,by first | exact Below.refl _ _ | exact hbw⟩
   show Ending.returned (.int .u32 _)=_
   rw [←HX.out]
   refine ret_int ?_
  show quotP op a b=aluP op a b
  unfold aluP quotP
  simp only [*,if_false]
theorem holds_any (op a b:Int) (w:World) (ha0:0≤a) (ha1:a≤4294967295) (hb0:0≤b) (hb1:b≤4294967295) :
  Calls Try.prog 76 #[.int .i64 op, .int .u32 a, .int .u32 b] w fun e w'=>e = .returned (.bool (holdsP op a b))∧w=w':=by
 have hA:=wrap32_sg ha0 ha1
 have hB:=wrap32_sg hb0 hb1
 generalize hX:holdsP op a b=X
 have HX:=Lib.hid hX
 clear hX
 by_cases h:op=5
 ·subst h
  go_enter Try.func76,Try.ntmps76
  go_wp2
  go_ret
  refine⟨?_,rfl⟩
  rw [←HX.out]
  refine ret_bool ?_
  rw [Bool.eq_iff_iff]
  simp [holdsP]
 by_cases h:op=6
 ·subst h
  go_enter Try.func76,Try.ntmps76
  go_wp2
  go_ret
  refine⟨?_,rfl⟩
  rw [←HX.out]
  refine ret_bool ?_
  rw [Bool.eq_iff_iff]
  simp [holdsP]
 by_cases h:op=7
 ·subst h
  go_enter Try.func76,Try.ntmps76
  go_wp2
  go_ret
  refine⟨?_,rfl⟩
  rw [←HX.out]
  refine ret_bool ?_
  rw [Bool.eq_iff_iff]
  simp [holdsP]
 by_cases h:op=8
 ·subst h
  go_enter Try.func76,Try.ntmps76
  go_wp2
  go_ret
  refine⟨?_,rfl⟩
  rw [←HX.out]
  refine ret_bool ?_
  rw [Bool.eq_iff_iff]
  simp [holdsP]
 by_cases h:op=9
 ·subst h
  go_enter Try.func76,Try.ntmps76
  go_wp2
  go_ret
  refine⟨?_,rfl⟩
  rw [←HX.out]
  refine ret_bool ?_
  rw [Bool.eq_iff_iff]
  simp [holdsP]
 by_cases h:op=10
 ·subst h
  go_enter Try.func76,Try.ntmps76
  go_wp2
  go_ret
  refine⟨?_,rfl⟩
  rw [←HX.out]
  refine ret_bool ?_
  rw [Bool.eq_iff_iff]
  simp [holdsP]
 ·
  go_enter Try.func76,Try.ntmps76
  go_wp2
  go_ret
  refine⟨?_,rfl⟩
  rw [←HX.out]
  refine ret_bool ?_
  unfold holdsP
  simp [*]
end Go.Proofs.Ytapgojgcmlnbgac
