/- Parts of a proof. -/
import Derived.Test.YtapgojgcmlnbgacK08
import Derived.Test.YtapgojgcmlnbgacK01
import Derived.Test.YtapgojgcmlnbgacK03
import Derived.Test.YtapgojgcmlnbgacK04
set_option linter.unusedSimpArgs false
set_option linter.unusedVariables false
set_option maxRecDepth 100000
set_option maxHeartbeats 16000000
namespace Go.Proofs.Ytapgojgcmlnbgac
open Go.RowKit
theorem read_any (op form x:Int) (w:World) (hf:0≤form) (hf':form≤7) (h0:0≤x) (h1:x≤4294967295) :
  Calls Try.prog 88 #[.int .i64 op, .int .i64 form, .int .u32 x] w fun e w'=>e = .returned (.agg (readP op form x).cells)∧Below w.heap.size w w':=by
 obtain rfl | rfl | rfl | rfl | rfl | rfl | rfl | rfl:form=0∨form=1∨form=2∨form=3∨form=4∨form=5∨form=6∨form=7:=by omega
 ·exact read_0 op x w h0 h1
 ·exact read_1 op x w h0 h1
 ·exact read_2 op x w h0 h1
 ·exact read_3 op x w h0 h1
 ·exact read_4 op x w h0 h1
 ·exact read_5 op x w h0 h1
 ·exact read_6 op x w h0 h1
 ·exact read_7 op x w h0 h1
theorem formOf_bd (op:Int):0≤formOf op∧formOf op≤7:=by unfold formOf;(repeat' split)<;>omega
def insZ:Ins:=⟨0,0,0,0,0⟩
theorem built_ins0:Try.prog.built 68 []=some #[.int .i64 0, .int .i64 0, .int .i64 0, .int .i64 0, .int .i32 0]:=by kernel_rfl
theorem decode_any (x:Int) (w:World) (h0:0≤x) (h1:x≤4294967295) :
  Calls Try.prog 68 #[.int .u32 x] w fun e w'=>e = .returned (.tuple #[.agg ((decP x).getD insZ).cells, .bool (decP x).isSome])∧Below w.heap.size w w':=by
 generalize hX:decP x=X
 have HX:Hid (findP x 48 1=X):=Lib.hid hX
 clear hX
 go_enter Try.func68,Try.ntmps68
 go_wp2_with(fail)
 go_loopw [4] (fun v wr=>∃ n:Nat,v = .int .i64 ((n:Int)+1)∧n≤48∧Below w.heap.size w wr∧Blk wr w.heap.size 68 insZ.cells∧Hid (findP x (48 - n) ((n:Int)+1)=X)) (fun v _=>50 - (intOf v).toNat)
 case atStart=>exact⟨0,rfl,by omega,(Below.refl _ _).alloc (Nat.le_refl _) _,Blk.new w _ _,HX⟩
 case round=>
  obtain⟨n,rfl,hn,hb,hR,HR⟩:=hrel
  by_cases hlt:n<48
  ·obtain⟨k,hk,l0,l1,m0,m1,u0,u1,hf,_⟩:=kind_ok ((n:Int)+1) (by omega) (by omega)
   have hstep:findP x (48 - n) ((n:Int)+1)=if tellsB k x=true then some (readP ((n:Int)+1) k.form x) else findP x (48 - (n+1)) ((n:Int)+1+1):=by
    rw [show 48 - n=(48 - (n+1))+1 by omega]
    show(match kindP ((n:Int)+1) with | some k=>_ | none=>_)=_
    rw [hk]
   have CO:=Lib.hid (fun W=>dof_any ((n:Int)+1) k hk W)
   have CT:=Lib.hid (fun W=>tells_any k x W h0 h1 l0 l1 u0 u1)
   have CR:=Lib.hid (fun W=>read_any ((n:Int)+1) k.form x W (by rw [hf];exact(formOf_bd _).1) (by rw [hf];exact(formOf_bd _).2) h0 h1)
   obtain⟨form,low,mid,up⟩:=k
   clear hk l0 l1 m0 m1 u0 u1 hf
   rcases ht:tellsB ⟨form,low,mid,up⟩ x with _ | _
   ·rw [ht] at hstep CT
    have HR2:Hid (findP x (48 - (n+1)) (((n+1:Nat):Int)+1)=X):=by
     have h:=HR.out
     rw [hstep,if_neg (by decide)] at h
     exact Lib.hid (by simpa using h)
    clear HR hstep ht CR
    go_wp2_with(first
     |(go_at_call 86;(with_reducible refine(CO.out _).mono ?_);rintro e w1 ⟨rfl,hb1⟩;replace hR:=(hR.ext hb1).alloc (.cells #[.int .i64 form, .int .u32 low, .int .u32 mid, .int .u32 up] 154);replace hb:=(hb.trans (hb1.mono hb.size)).alloc (Nat.le_trans hb.size hb1.size) (.cells #[.int .i64 form, .int .u32 low, .int .u32 mid, .int .u32 up] 154);clear hb1)
     |(go_at_call 87;(with_reducible refine(CT.out _).mono ?_);rintro e w2 ⟨rfl,hb2⟩;replace hR:=hR.ext hb2;replace hb:=hb.trans (hb2.mono hb.size);clear hb2))
    go_roundw
    case rel=>exact⟨n+1,by go_num,by omega,hb,hR,HR2⟩
    case measure=>simp [intOf];omega
   ·rw [ht] at hstep CT
    have hX:X=some (readP ((n:Int)+1) form x):=by
     have h:=HR.out
     rw [hstep,if_pos rfl] at h
     exact h.symm
    dsimp only at CR
    generalize readP ((n:Int)+1) form x=i at CR hX
    subst hX
    clear HR hstep ht
    go_upto_region 5 with(go_at_call 86;(with_reducible refine(CO.out _).mono ?_);rintro e w1 ⟨rfl,hb1⟩;replace hR:=(hR.ext hb1).alloc (.cells #[.int .i64 form, .int .u32 low, .int .u32 mid, .int .u32 up] 154);replace hb:=(hb.trans (hb1.mono hb.size)).alloc (Nat.le_trans hb.size hb1.size) (.cells #[.int .i64 form, .int .u32 low, .int .u32 mid, .int .u32 up] 154);clear hb1)
    have hK:=Blk.new w1 154 #[.int .i64 form, .int .u32 low, .int .u32 mid, .int .u32 up]
    go_upto_region 6 with(go_at_call 87;(with_reducible refine(CT.out _).mono ?_);rintro e w2 ⟨rfl,hb2⟩;replace hR:=hR.ext hb2;replace hb:=hb.trans (hb2.mono hb.size);replace hK:=hK.ext hb2;clear hb2)
    have hKc:=hK.cell
    have zK:=hK.lt
    go_wp2_with(first
     |(go_at_call 88;(with_reducible refine(CR.out _).mono ?_);rintro e w3 ⟨rfl,hb3⟩;replace hR:=hR.ext hb3;replace hb:=hb.trans (hb3.mono hb.size))
     |(refine wpList_store_all rfl 68 _ _ rfl w.heap.size i.cells rfl rfl 68 _ hR ins_info rfl ins_one ?_;intro w5 hB5 hg5;have hBc:=hB5.cell))
    exact bodyPost_ret (v := .tuple #[.agg i.cells, .bool true]) (by simp [results,Try.results68,go_sem,hBc]) rfl ⟨rfl,below_grown hb hg5 hb.size (Nat.le_refl _)⟩
  ·obtain rfl:n=48:=by omega
   have hX:X=none:=HR.out.symm
   subst hX
   clear HR
   go_wp2_with(first
    |(refine wpList_build_to rfl 68 _ rfl [] ?_ _ built_ins0 ?_;kernel_rfl)
    |(refine wpList_store_all rfl 68 _ _ rfl w.heap.size insZ.cells rfl rfl 68 _ hR ins_info rfl ins_one ?_;intro w5 hB5 hg5;have hBc:=hB5.cell))
   exact bodyPost_ret (v := .tuple #[.agg insZ.cells, .bool false]) (by simp [results,Try.results68,go_sem,hBc]) rfl ⟨rfl,below_grown hb hg5 hb.size (Nat.le_refl _)⟩
theorem mask_hi1 (a:Nat) (ha:a<4294967296):a &&& 4294967294=a - a%2:=by
 have e:a - a%2=(a >>> 1) <<< 1:=by rw [Nat.shiftRight_eq_div_pow,Nat.shiftLeft_eq];omega
 have m:4294967294=(2 ^ 31 - 1) <<< 1:=by decide
 rw [e,m]
 apply Nat.eq_of_testBit_eq
 intro i
 rw [Nat.testBit_and,Nat.testBit_shiftLeft,Nat.testBit_shiftLeft,Nat.testBit_shiftRight,Nat.testBit_two_pow_sub_one]
 by_cases h:1≤i
 ·rw [show 1+(i - 1)=i by omega]
  by_cases h2:i - 1<31
  ·simp [h,h2]
  ·have:a.testBit i=false:=Nat.testBit_lt_two_pow (Nat.lt_of_lt_of_le ha (Nat.pow_le_pow_right (n:=2) (i:=32) (by omega) (by omega)))
   simp [this]
 ·simp [h]
theorem andNot1 (x:Int) (h0:0≤x) (h1:x≤4294967295):bits .andNot .u32 x 1=x - x%2:=by
 obtain⟨n,rfl⟩:=Int.eq_ofNat_of_zero_le h0
 have h:=u32_andNot_nat n 1 (by omega) (by omega)
 rw [show 4294967295 - 1=4294967294 by decide,mask_hi1 n (by omega)] at h
 have h':bits .andNot .u32 (n:Int) 1=((n - n%2:Nat):Int):=h
 rw [h']
 omega
theorem and_u64 (x:Int) (k:Nat) (M:Int) (hk:k≤32) (hM:((2 ^ k - 1:Nat):Int)=M) (h0:0≤x) (h1:x≤4294967295):bits .and .u64 x M=x%((2 ^ k:Nat):Int):=by
 subst hM
 obtain⟨n,rfl⟩:=Int.eq_ofNat_of_zero_le h0
 have hp:2 ^ k≤2 ^ 32:=Nat.pow_le_pow_right (by omega) hk
 have hp0:=Nat.two_pow_pos k
 have hx:n &&& (2 ^ k - 1)<2 ^ 64:=Nat.and_lt_two_pow _ (by omega)
 have e1:(BitVec.ofInt 64 (n:Int)).toNat=n:=by
  rw [BitVec.ofInt_natCast,BitVec.toNat_ofNat];exact Nat.mod_eq_of_lt (by omega)
 have e2:(BitVec.ofInt 64 ((2 ^ k - 1:Nat):Int)).toNat=2 ^ k - 1:=by
  rw [BitVec.ofInt_natCast,BitVec.toNat_ofNat];exact Nat.mod_eq_of_lt (by omega)
 show IntKind.u64.wrap ((BitVec.ofInt 64 (n:Int) &&& BitVec.ofInt 64 ((2 ^ k - 1:Nat):Int)).toNat:Int)=_
 rw [BitVec.toNat_and,e1,e2,Nat.and_two_pow_sub_one_eq_mod]
 have hr:n%2 ^ k<2 ^ k:=Nat.mod_lt _ hp0
 rw [←Int.natCast_emod]
 generalize n%2 ^ k=r at hr ⊢
 have hr2:r<2 ^ 32:=Nat.lt_of_lt_of_le hr hp
 simp [IntKind.wrap,IntKind.bits,IntKind.signed]
 omega
theorem bytes_any (op:Int) (w:World) (h:16≤op∧op≤18):Calls Try.prog 52 #[.int .i64 op] w fun e w'=>e = .returned (.int .i64 (bytesI op))∧w=w':=by
 obtain rfl | rfl | rfl:op=16∨op=17∨op=18:=by omega
 all_goals
  go_enter Try.func52,Try.ntmps52
  go_wp2
  go_ret
  exact⟨rfl,rfl⟩
theorem low_any (x many:Int) (w:World) (h:many=1∨many=2∨many=4) (h0:0≤x) (h1:x≤4294967295):Calls Try.prog 54 #[.int .u32 x, .int .i64 many] w fun e w'=>e = .returned (.int .u32 (lowI x many))∧w=w':=by
 have e1:=and_u64 x 8 255 (by omega) (by decide) h0 h1
 have e2:=and_u64 x 16 65535 (by omega) (by decide) h0 h1
 have e4:=and_u64 x 32 4294967295 (by omega) (by decide) h0 h1
 rcases h with rfl | rfl | rfl
 all_goals
  go_enter Try.func54,Try.ntmps54
  go_wp2
  go_ret
  refine⟨ret_int ?_,rfl⟩
  unfold lowI
  first | rfl | (simp;done) | (simp;omega)
theorem immediate_any (op:Int) (w:World) (h:19≤op∧op≤27):Calls Try.prog 78 #[.int .i64 op] w fun e w'=>e = .returned (.int .i64 (immOp op))∧w=w':=by
 have built_i:Try.prog.built 162 [(0, .int .i64 28),(1, .int .i64 31),(2, .int .i64 32),(3, .int .i64 33),(4, .int .i64 36),(5, .int .i64 37),(6, .int .i64 30),(7, .int .i64 34),(8, .int .i64 35)]=some #[.int .i64 28, .int .i64 31, .int .i64 32, .int .i64 33, .int .i64 36, .int .i64 37, .int .i64 30, .int .i64 34, .int .i64 35]:=by kernel_rfl
 have ix0:∀ w,(Instr.index 162 (.agg #[.int .i64 28, .int .i64 31, .int .i64 32, .int .i64 33, .int .i64 36, .int .i64 37, .int .i64 30, .int .i64 34, .int .i64 35]) (.int .i64 0)).run Try.prog w = .ok (.int .i64 28) w:=fun _=>by kernel_rfl
 have ix1:∀ w,(Instr.index 162 (.agg #[.int .i64 28, .int .i64 31, .int .i64 32, .int .i64 33, .int .i64 36, .int .i64 37, .int .i64 30, .int .i64 34, .int .i64 35]) (.int .i64 1)).run Try.prog w = .ok (.int .i64 31) w:=fun _=>by kernel_rfl
 have ix2:∀ w,(Instr.index 162 (.agg #[.int .i64 28, .int .i64 31, .int .i64 32, .int .i64 33, .int .i64 36, .int .i64 37, .int .i64 30, .int .i64 34, .int .i64 35]) (.int .i64 2)).run Try.prog w = .ok (.int .i64 32) w:=fun _=>by kernel_rfl
 have ix3:∀ w,(Instr.index 162 (.agg #[.int .i64 28, .int .i64 31, .int .i64 32, .int .i64 33, .int .i64 36, .int .i64 37, .int .i64 30, .int .i64 34, .int .i64 35]) (.int .i64 3)).run Try.prog w = .ok (.int .i64 33) w:=fun _=>by kernel_rfl
 have ix4:∀ w,(Instr.index 162 (.agg #[.int .i64 28, .int .i64 31, .int .i64 32, .int .i64 33, .int .i64 36, .int .i64 37, .int .i64 30, .int .i64 34, .int .i64 35]) (.int .i64 4)).run Try.prog w = .ok (.int .i64 36) w:=fun _=>by kernel_rfl
 have ix5:∀ w,(Instr.index 162 (.agg #[.int .i64 28, .int .i64 31, .int .i64 32, .int .i64 33, .int .i64 36, .int .i64 37, .int .i64 30, .int .i64 34, .int .i64 35]) (.int .i64 5)).run Try.prog w = .ok (.int .i64 37) w:=fun _=>by kernel_rfl
 have ix6:∀ w,(Instr.index 162 (.agg #[.int .i64 28, .int .i64 31, .int .i64 32, .int .i64 33, .int .i64 36, .int .i64 37, .int .i64 30, .int .i64 34, .int .i64 35]) (.int .i64 6)).run Try.prog w = .ok (.int .i64 30) w:=fun _=>by kernel_rfl
 have ix7:∀ w,(Instr.index 162 (.agg #[.int .i64 28, .int .i64 31, .int .i64 32, .int .i64 33, .int .i64 36, .int .i64 37, .int .i64 30, .int .i64 34, .int .i64 35]) (.int .i64 7)).run Try.prog w = .ok (.int .i64 34) w:=fun _=>by kernel_rfl
 have ix8:∀ w,(Instr.index 162 (.agg #[.int .i64 28, .int .i64 31, .int .i64 32, .int .i64 33, .int .i64 36, .int .i64 37, .int .i64 30, .int .i64 34, .int .i64 35]) (.int .i64 8)).run Try.prog w = .ok (.int .i64 35) w:=fun _=>by kernel_rfl
 obtain rfl | rfl | rfl | rfl | rfl | rfl | rfl | rfl | rfl:op=19∨op=20∨op=21∨op=22∨op=23∨op=24∨op=25∨op=26∨op=27:=by omega
 all_goals
  go_enter Try.func78,Try.ntmps78
  go_wp2_with(refine wpList_build_to rfl 162 _ rfl [(0, .int .i64 28),(1, .int .i64 31),(2, .int .i64 32),(3, .int .i64 33),(4, .int .i64 36),(5, .int .i64 37),(6, .int .i64 30),(7, .int .i64 34),(8, .int .i64 35)] rfl _ built_i ?_)
  go_ret
  exact⟨rfl,rfl⟩
theorem gives_any (i:Ins) (w:World):Calls Try.prog 39 #[.agg i.cells] w fun e w'=>e = .returned (.bool (givesP i))∧Below w.heap.size w w':=by
 obtain⟨op,rd,rs1,rs2,imm⟩:=i
 generalize hX:givesP ⟨op,rd,rs1,rs2,imm⟩=X
 have HX:=Lib.hid hX
 clear hX
 go_enter Try.func39,Try.ntmps39
 go_wp2
 all_goals
  go_ret
  refine⟨ret_bool ?_,(Below.refl _ _).alloc (Nat.le_refl _) _⟩
  rw [←HX.out,Bool.eq_iff_iff]
  unfold givesP
  simp at *
  try omega
theorem trap_any (c:Com) (cause:Int) (w:World):Calls Try.prog 51 #[.agg c.cells, .int .i64 cause] w fun e w'=>e = .returned (.agg (trapC c.pc cause).cells)∧Below w.heap.size w w':=by
 obtain⟨c0,c1,c2,c3,c4,c5,c6,c7,c8,c9,c10⟩:=c
 dsimp only
 go_enter Try.func51,Try.ntmps51
 go_upto_region 1 with(fail)
 go_simp
 refine wp_gen fun wa hq=>?_
 have hB:Blk wa w.heap.size 65 #[.int .u32 c0, .int .u32 c1, .int .i64 c2, .int .i64 c3, .int .i64 c4, .int .u32 c5, .int .u32 c6, .int .i64 c7, .int .u32 c8, .bool c9, .int .u32 c10]:=by rw [hq];exact(Blk.new w _ _).alloc _
 have hR:Blk wa (w.heap.size+1) 65 #[.int .u32 0, .int .u32 0, .int .i64 0, .int .i64 0, .int .i64 0, .int .u32 0, .int .u32 0, .int .i64 0, .int .u32 0, .bool false, .int .u32 0]:=by rw [hq];exact Blk.newAt (w.alloc _) 65 _ (by simp)
 have hb:Below w.heap.size w wa:=by rw [hq];exact((Below.refl _ _).alloc (Nat.le_refl _) _).alloc (by simp) _
 clear hq
 have d0:=hB.cell 0
 have zB:=hB.lt
 go_wp2_with(refine wpList_store_all rfl 65 _ _ rfl (w.heap.size+1) #[.int .u32 c0, .int .u32 c0, .int .i64 2, .int .i64 cause, .int .i64 0, .int .u32 0, .int .u32 0, .int .i64 0, .int .u32 0, .bool false, .int .u32 0] rfl rfl 65 _ hR com_info rfl com_one ?_;intro w5 hB5 hg5)
 exact bodyPost_ret (v := .agg (trapC c0 cause).cells) (results_blk rfl _ _ (w.heap.size+1) 65 _ _ rfl hB5 Try.underlying65 rfl com_info) rfl ⟨rfl,below_grown hb hg5 hb.size (Nat.le_succ _)⟩
theorem ret_two {k:IntKind} {x y:Int} {X:Int×Int} (h:X=(x,y)):Ending.returned (.tuple #[.int k x, .int k y])=Ending.returned (.tuple #[.int k X.1, .int k X.2]):=by rw [h]
theorem reckon_any (i:Ins) (pc a b:Int) (w:World) (ha0:0≤a) (ha1:a≤4294967295) (hb0:0≤b) (hb1:b≤4294967295) :
  Calls Try.prog 55 #[.agg i.cells, .int .u32 pc, .int .u32 a, .int .u32 b] w fun e w'=>e = .returned (.tuple #[.int .u32 (reckonP i pc a b).1, .int .u32 (reckonP i pc a b).2])∧Below w.heap.size w w':=by
 obtain⟨op,rd,rs1,rs2,imm⟩:=i
 have hN:=andNot1 ((a+imm%4294967296)%4294967296) (by omega) (by omega)
 generalize hX:reckonP ⟨op,rd,rs1,rs2,imm⟩ pc a b=X
 have HX:=Lib.hid hX
 clear hX
 go_enter Try.func55,Try.ntmps55
 go_upto_region 1 with(fail)
 go_simp
 refine wp_gen fun wa hq=>?_
 have hB:Blk wa w.heap.size 68 #[.int .i64 op, .int .i64 rd, .int .i64 rs1, .int .i64 rs2, .int .i32 imm]:=by rw [hq];exact Blk.new w _ _
 have hb:Below w.heap.size w wa:=by rw [hq];exact(Below.refl _ _).alloc (Nat.le_refl _) _
 clear hq
 have d0:=hB.cell 0
 have d4:=hB.cell 4
 have zB:=hB.lt
 go_wp2_with(first
  |(go_at_call 76;(with_reducible refine(holds_any op a b _ ha0 ha1 hb0 hb1).mono ?_);rintro e w2 ⟨rfl,rfl⟩)
  |(go_at_call 78;(with_reducible refine(immediate_any op _ (by simp at *;omega)).mono ?_);rintro e w2 ⟨rfl,rfl⟩)
  |(go_at_call 77;(with_reducible refine(alu_any (immOp op) a (imm%4294967296) _ ha0 ha1 (by omega) (by omega)).mono ?_);rintro e w2 ⟨rfl,hb2⟩;replace hb:=hb.trans (hb2.mono hb.size))
  |(go_at_call 77;(with_reducible refine(alu_any op a b _ ha0 ha1 hb0 hb1).mono ?_);rintro e w2 ⟨rfl,hb2⟩;replace hb:=hb.trans (hb2.mono hb.size)))
 all_goals
  go_ret2
  refine⟨ret_two ?_,hb⟩
  rw [←HX.out]
  clear HX d0 d4 hB
  simp at *
  unfold reckonP
  dsimp only
  (repeat' split)<;>first | (exfalso;omega) | (simp [u32];done) | (simp [u32];omega) | (simp [u32, *];done) | (exfalso;simp_all;done)
theorem fetch_any (A:Option Addr) (cap:Nat) (m:List Int) (pc:Int) (w:World) (h0:0≤pc) (h1:pc≤4294967295) (hl:m.length≤9223372036854775807) (hb:Bytes m) (hA:IntsAt w w.heap.size .u8 A m) :
  Calls Try.prog 38 #[.slice A m.length cap, .int .u32 pc] w fun e w'=>e = .returned (.tuple #[.agg (fetchP m pc).1.cells, .int .i64 (fetchP m pc).2])∧Below w.heap.size w w':=by
 generalize hX:fetchP m pc=X
 have HX:=Lib.hid hX
 clear hX
 have hx:=loadP_bd hb 13 pc
 have CL:=Lib.hid (fun W hW=>load_any A cap m 13 pc W h0 h1 hl hb hW)
 have HX2:Hid (X=if (loadP m 13 pc).2=true then (match decP (loadP m 13 pc).1 with | some i=>((i,0):Ins×Int) | none=>(insN,2)) else (insN,1)):=Lib.hid HX.out.symm
 clear HX
 generalize loadP m 13 pc=L at *
 obtain⟨x,ok⟩:=L
 dsimp only at hx CL HX2
 have CD:=Lib.hid (fun W=>decode_any x W hx.1 hx.2)
 go_enter Try.func38,Try.ntmps38
 go_upto_region 1 with(fail)
 go_simp
 refine wp_gen fun wa hq=>?_
 have hB:Blk wa w.heap.size 68 insZ.cells:=by rw [hq];exact Blk.new w _ _
 have hbl:Below w.heap.size w wa:=by rw [hq];exact(Below.refl _ _).alloc (Nat.le_refl _) _
 have hA2:IntsAt wa wa.heap.size .u8 A m:=(hA.below hbl).mono hbl.size
 clear hq
 rcases ok with _ | _
 ·have hX:X=(insN,1):=HX2.out
  subst hX
  clear HX2
  go_wp2_with(first
   |(go_at_call 50;(with_reducible refine(CL.out _ hA2).mono ?_);rintro e w2 ⟨rfl,rfl⟩)
   |(refine wpList_store_all rfl 68 _ _ rfl w.heap.size insN.cells rfl rfl 68 _ hB ins_info rfl ins_one ?_;intro w5 hB5 hg5;have hBc:=hB5.cell))
  exact bodyPost_ret (v := .tuple #[.agg insN.cells, .int .i64 1]) (by simp [results,Try.results38,go_sem,hBc]) rfl ⟨rfl,below_grown hbl hg5 hbl.size (Nat.le_refl _)⟩
 ·rcases hd:decP x with _ | i
  ·have hX:X=(insN,2):=by have h:=HX2.out;rw [hd] at h;exact h
   subst hX
   rw [hd] at CD
   clear HX2
   go_upto_region 5 with(first
    |(go_at_call 50;(with_reducible refine(CL.out _ hA2).mono ?_);rintro e w2 ⟨rfl,rfl⟩)
    |(go_at_call 68;(with_reducible refine(CD.out _).mono ?_);rintro e w3 ⟨rfl,hb3⟩;replace hbl:=hbl.trans (hb3.mono hbl.size);replace hB:=hB.ext hb3))
   try go_simp
   refine wp_gen fun wb hq=>?_
   have hB2:Blk wb w.heap.size 68 insZ.cells:=by rw [hq];exact hB.alloc _
   have hI:Blk wb w3.heap.size 68 insZ.cells:=by rw [hq];exact Blk.new w3 _ _
   have hbl2:Below w.heap.size w wb:=by rw [hq];exact hbl.alloc hbl.size _
   clear hq
   go_wp2_with(first
    |(refine wpList_load_all rfl 68 _ rfl w3.heap.size rfl 68 _ _ hI Try.underlying68 rfl ins_info ?_)
    |(refine wpList_store_all rfl 68 _ _ rfl w.heap.size insN.cells rfl rfl 68 _ hB2 ins_info rfl ins_one ?_;intro w5 hB5 hg5;have hBc:=hB5.cell))
   exact bodyPost_ret (v := .tuple #[.agg insN.cells, .int .i64 2]) (by simp [results,Try.results38,go_sem,hBc]) rfl ⟨rfl,below_grown hbl2 hg5 hbl2.size (Nat.le_refl _)⟩
  ·have hX:X=(i,0):=by have h:=HX2.out;rw [hd] at h;exact h
   subst hX
   rw [hd] at CD
   replace CD:Hid (∀ W,Calls Try.prog 68 #[.int .u32 x] W fun e w'=>e = .returned (.tuple #[.agg i.cells, .bool true])∧Below W.heap.size W w'):=CD
   clear HX2
   go_upto_region 5 with(first
    |(go_at_call 50;(with_reducible refine(CL.out _ hA2).mono ?_);rintro e w2 ⟨rfl,rfl⟩)
    |(go_at_call 68;(with_reducible refine(CD.out _).mono ?_);rintro e w3 ⟨rfl,hb3⟩;replace hbl:=hbl.trans (hb3.mono hbl.size);replace hB:=hB.ext hb3))
   try go_simp
   refine wp_gen fun wb hq=>?_
   have hB2:Blk wb w.heap.size 68 insZ.cells:=by rw [hq];exact hB.alloc _
   have hI:Blk wb w3.heap.size 68 i.cells:=by rw [hq];exact Blk.new w3 _ _
   have hbl2:Below w.heap.size w wb:=by rw [hq];exact hbl.alloc hbl.size _
   clear hq
   go_wp2_with(first
    |(refine wpList_load_all rfl 68 _ rfl w3.heap.size rfl 68 _ _ hI Try.underlying68 rfl ins_info ?_)
    |(refine wpList_store_all rfl 68 _ _ rfl w.heap.size i.cells rfl rfl 68 _ hB2 ins_info rfl ins_one ?_;intro w5 hB5 hg5;have hBc:=hB5.cell))
   exact bodyPost_ret (v := .tuple #[.agg i.cells, .int .i64 0]) (by simp [results,Try.results38,go_sem,hBc]) rfl ⟨rfl,below_grown hbl2 hg5 hbl2.size (Nat.le_refl _)⟩
end Go.Proofs.Ytapgojgcmlnbgac
