/- Parts of a proof. -/
import Derived.Test.YtapgojgcmlnbgacGreatK07
import Derived.Test.YtapgojgcmlnbgacGreatK03
import Derived.Test.YtapgojgcmlnbgacGreatK00
import Derived.Test.YtapgojgcmlnbgacGreatK06
import Derived.Test.YtapgojgcmlnbgacGreatK04
set_option linter.unusedSimpArgs false
set_option linter.unusedVariables false
set_option maxRecDepth 100000
set_option maxHeartbeats 16000000
namespace Go.Proofs.YtapgojgcmlnbgacGreat
open Go.RowKit
theorem Iz (i:Ins) (w:World):Calls Tryz.prog 39 #[.agg i.cells] w fun e w'=>e = .returned (.bool (Bs i))∧Below w.heap.size w w':=by
 have hb:=(Below.refl w.heap.size w).alloc (Nat.le_refl _) (.cells i.cells 73)
 have hx:Bs i=(decide (11≤i.op)&&decide (i.op≤15)):=rfl
 rw [hx]
 obtain⟨op,rd,r1,r2,im⟩:=i
 dsimp only
 by_cases h1:11≤op
 ·have e1:decide (11≤op)=true:=decide_eq_true h1
  rw [e1]
  by_cases h2:op≤15
  ·have e2:decide (op≤15)=true:=decide_eq_true h2
   rw [e2]
   go_enter Tryz.func39,Tryz.ntmps39
   go_wp2_with(fail)
   go_ret
   exact⟨rfl,hb⟩
  ·have e2:decide (op≤15)=false:=decide_eq_false h2
   rw [e2]
   go_enter Tryz.func39,Tryz.ntmps39
   go_wp2_with(fail)
   go_ret
   exact⟨rfl,hb⟩
 ·have e1:decide (11≤op)=false:=decide_eq_false h1
  rw [e1]
  go_enter Tryz.func39,Tryz.ntmps39
  go_wp2_with(fail)
  go_ret
  exact⟨rfl,hb⟩
theorem Mj (i:Ins) (w:World):Calls Tryz.prog 45 #[.agg i.cells] w fun e w'=>e = .returned (.bool (Ba i))∧Below w.heap.size w w':=by
 have hb:=(Below.refl w.heap.size w).alloc (Nat.le_refl _) (.cells i.cells 73)
 have hx:Ba i=(decide (16≤i.op)&&decide (i.op≤18)):=rfl
 rw [hx]
 obtain⟨op,rd,r1,r2,im⟩:=i
 dsimp only
 by_cases h1:16≤op
 ·have e1:decide (16≤op)=true:=decide_eq_true h1
  rw [e1]
  by_cases h2:op≤18
  ·have e2:decide (op≤18)=true:=decide_eq_true h2
   rw [e2]
   go_enter Tryz.func45,Tryz.ntmps45
   go_wp2_with(fail)
   go_ret
   exact⟨rfl,hb⟩
  ·have e2:decide (op≤18)=false:=decide_eq_false h2
   rw [e2]
   go_enter Tryz.func45,Tryz.ntmps45
   go_wp2_with(fail)
   go_ret
   exact⟨rfl,hb⟩
 ·have e1:decide (16≤op)=false:=decide_eq_false h1
  rw [e1]
  go_enter Tryz.func45,Tryz.ntmps45
  go_wp2_with(fail)
  go_ret
  exact⟨rfl,hb⟩
theorem Iw (i:Ins) (w:World):Calls Tryz.prog 37 #[.agg i.cells] w fun e w'=>e = .returned (.bool (Be i))∧Below w.heap.size w w':=by
 have hb:=(Below.refl w.heap.size w).alloc (Nat.le_refl _) (.cells i.cells 73)
 have hx:Be i=(decide (i.op=47) || decide (i.op=48)):=rfl
 rw [hx]
 obtain⟨op,rd,r1,r2,im⟩:=i
 dsimp only
 by_cases h1:op=47
 ·subst h1
  go_enter Tryz.func37,Tryz.ntmps37
  go_wp2_with(fail)
  go_ret
  exact⟨rfl,hb⟩
 ·have e1:(op==47)=false:=by simpa using h1
  have e1':decide (op=47)=false:=decide_eq_false h1
  rw [e1']
  by_cases h2:op=48
  ·subst h2
   go_enter Tryz.func37,Tryz.ntmps37
   go_wp2_with(fail)
   go_ret
   exact⟨rfl,hb⟩
  ·have e2:(op==48)=false:=by simpa using h2
   have e2':decide (op=48)=false:=decide_eq_false h2
   rw [e2']
   go_enter Tryz.func37,Tryz.ntmps37
   go_wp2_with(fail)
   go_ret
   exact⟨rfl,hb⟩
theorem Vb (op:Int) (w:World) (h0:11≤op) (h1:op≤15):Calls Tryz.prog 70 #[.int .i64 op] w fun e w'=>e = .returned (.int .i64 (loadBytes op))∧w=w':=by
 have built_b:Tryz.prog.built 166 [(0, .int .i64 1),(1, .int .i64 2),(2, .int .i64 4),(3, .int .i64 1),(4, .int .i64 2)]=some #[.int .i64 1, .int .i64 2, .int .i64 4, .int .i64 1, .int .i64 2]:=by kernel_rfl
 have ix0:∀ w,(Instr.index 166 (.agg #[.int .i64 1, .int .i64 2, .int .i64 4, .int .i64 1, .int .i64 2]) (.int .i64 0)).run Tryz.prog w = .ok (.int .i64 1) w:=fun _=>by kernel_rfl
 have ix1:∀ w,(Instr.index 166 (.agg #[.int .i64 1, .int .i64 2, .int .i64 4, .int .i64 1, .int .i64 2]) (.int .i64 1)).run Tryz.prog w = .ok (.int .i64 2) w:=fun _=>by kernel_rfl
 have ix2:∀ w,(Instr.index 166 (.agg #[.int .i64 1, .int .i64 2, .int .i64 4, .int .i64 1, .int .i64 2]) (.int .i64 2)).run Tryz.prog w = .ok (.int .i64 4) w:=fun _=>by kernel_rfl
 have ix3:∀ w,(Instr.index 166 (.agg #[.int .i64 1, .int .i64 2, .int .i64 4, .int .i64 1, .int .i64 2]) (.int .i64 3)).run Tryz.prog w = .ok (.int .i64 1) w:=fun _=>by kernel_rfl
 have ix4:∀ w,(Instr.index 166 (.agg #[.int .i64 1, .int .i64 2, .int .i64 4, .int .i64 1, .int .i64 2]) (.int .i64 4)).run Tryz.prog w = .ok (.int .i64 2) w:=fun _=>by kernel_rfl
 obtain rfl | rfl | rfl | rfl | rfl:op=11∨op=12∨op=13∨op=14∨op=15:=by omega
 all_goals
  go_enter Tryz.func70,Tryz.ntmps70
  go_wp2_with(refine Ao rfl 166 _ rfl [(0, .int .i64 1),(1, .int .i64 2),(2, .int .i64 4),(3, .int .i64 1),(4, .int .i64 2)] rfl _ built_b ?_)
  go_ret
  exact⟨rfl,rfl⟩
section
variable {B:Nat} {w:World} {g:Nat} {C:Core} {L:Lay} {ps:List Nat} {cs:Array Value}
theorem extract_eq {cs D:Array Value} {off n:Nat} (hs:off+n≤cs.size) (hD:D.size=n) (h:∀ i,i<n→cs[off+i]? = D[i]?):cs.extract off (off+n)=D:=by
 apply Array.ext_getElem?
 intro i
 rw [Array.getElem?_extract]
 by_cases hi:i<n
 ·rw [if_pos (by omega),h i hi]
 ·rw [if_neg (by omega),Array.getElem?_eq_none (by omega)]
theorem Ak.tabX (h:Ak cs C L) (hs:C.table.size=64):cs.extract 44 (44+64)=C.table:=extract_eq (by rw [h.size];omega) hs h.tab
theorem Ak.namesX (h:Ak cs C L) (hl:C.names.regs.length=32):cs.extract 108 (108+34)=Ag C.names.phys C.names.regs L.freeA C.names.free.length L.freeCap:=extract_eq (by rw [h.size];omega) (B5 _ _ _ _ _ hl) h.names
theorem Ak.regsX (h:Ak cs C L) (hl:C.hart.regs.length=32):cs.extract 4 (4+32)=(C.hart.regs.map (Value.int .u32)).toArray:=
 extract_eq (by rw [h.size];omega) (by simp [hl]) fun i hi=>by
  rw [h.hart i (by omega),Al.cells_reg (by rw [hl];exact hi)]
  simp [List.getD,List.getElem?_eq_getElem (show i<C.hart.regs.length by rw [hl];exact hi)]
theorem Hy:(Tryz.prog.info? 52).map (·.size)=some 64:=by kernel_rfl
theorem M1:(Tryz.prog.info? 55).map (·.size)=some 34:=by kernel_rfl
theorem Ro:(Tryz.prog.info? 25).map (·.size)=some 32:=by kernel_rfl
theorem Ay:(Tryz.prog.info? 73).map (·.size)=some 5:=by kernel_rfl
theorem Wo:(Tryz.prog.info? 67).map (·.size)=some 11:=by kernel_rfl
theorem Uop.insX (u:Uop):u.cells.extract 5 (5+5)=u.ins.cells:=rfl
theorem Uop.comX (u:Uop):u.cells.extract 16 (16+11)=u.commit.cells:=rfl
theorem Uop.size (u:Uop):u.cells.size=27:=rfl
theorem Nl {cs vs:Array Value} {off n:Nat} (hs:cs.size=340) (ho:off+n≤340) (hv:vs.size=n):(splice cs off vs.toList).size=340∧(∀ i,i<n→(splice cs off vs.toList)[off+i]? = vs[i]?)∧∀ j,j<off∨off+n≤j→(splice cs off vs.toList)[j]? = cs[j]? := by
 have hl:off+vs.toList.length≤cs.size:=by rw [hs];simpa [hv] using ho
 refine⟨by rw [H8 _ _ _ hl,hs],fun i hi=>?_,fun j hj=>?_⟩
 ·rw [Fa _ _ _ hl,if_neg (by omega),if_pos (by simp [hv];omega)]
  simp
 ·rw [Fa _ _ _ hl]
  rcases hj with hj | hj
  ·rw [if_pos hj]
  ·rw [if_neg (by omega),if_neg (by simp [hv];omega)]
end
theorem Rm (a b c:Int) (w:World):Calls Tryz.prog 9 #[.agg #[.int .i64 a, .int .i64 b, .int .i64 c]] w fun e w'=>e = .returned (.bool (decide (1≤a)&&decide (a≤32)&&decide (33≤b)&&decide (b≤96)&&decide (1≤c)&&decide (c≤4)))∧Below w.heap.size w w':=by
 have hb:=(Below.refl w.heap.size w).alloc (Nat.le_refl _) (.cells #[.int .i64 a, .int .i64 b, .int .i64 c] 23)
 by_cases q1:1≤a
 rotate_left
 ·have e1:decide (1≤a)=false:=decide_eq_false q1
  clear q1
  rw [e1]
  go_enter Tryz.func9,Tryz.ntmps9
  go_wp2_with(fail)
  go_ret
  exact⟨rfl,hb⟩
 have e1:decide (1≤a)=true:=decide_eq_true q1
 by_cases q2:a≤32
 rotate_left
 ·have e2:decide (a≤32)=false:=decide_eq_false q2
  clear q1 q2
  rw [e1,e2]
  go_enter Tryz.func9,Tryz.ntmps9
  go_wp2_with(fail)
  go_ret
  exact⟨rfl,hb⟩
 have e2:decide (a≤32)=true:=decide_eq_true q2
 by_cases q3:33≤b
 rotate_left
 ·have e3:decide (33≤b)=false:=decide_eq_false q3
  clear q1 q2 q3
  rw [e1,e2,e3]
  go_enter Tryz.func9,Tryz.ntmps9
  go_wp2_with(fail)
  go_ret
  exact⟨rfl,hb⟩
 have e3:decide (33≤b)=true:=decide_eq_true q3
 by_cases q4:b≤96
 rotate_left
 ·have e4:decide (b≤96)=false:=decide_eq_false q4
  clear q1 q2 q3 q4
  rw [e1,e2,e3,e4]
  go_enter Tryz.func9,Tryz.ntmps9
  go_wp2_with(fail)
  go_ret
  exact⟨rfl,hb⟩
 have e4:decide (b≤96)=true:=decide_eq_true q4
 by_cases q5:1≤c
 rotate_left
 ·have e5:decide (1≤c)=false:=decide_eq_false q5
  clear q1 q2 q3 q4 q5
  rw [e1,e2,e3,e4,e5]
  go_enter Tryz.func9,Tryz.ntmps9
  go_wp2_with(fail)
  go_ret
  exact⟨rfl,hb⟩
 have e5:decide (1≤c)=true:=decide_eq_true q5
 by_cases q6:c≤4
 rotate_left
 ·have e6:decide (c≤4)=false:=decide_eq_false q6
  clear q1 q2 q3 q4 q5 q6
  rw [e1,e2,e3,e4,e5,e6]
  go_enter Tryz.func9,Tryz.ntmps9
  go_wp2_with(fail)
  go_ret
  exact⟨rfl,hb⟩
 have e6:decide (c≤4)=true:=decide_eq_true q6
 clear q1 q2 q3 q4 q5 q6
 rw [e1,e2,e3,e4,e5,e6]
 go_enter Tryz.func9,Tryz.ntmps9
 go_wp2_with(fail)
 go_ret
 exact⟨rfl,hb⟩
end Go.Proofs.YtapgojgcmlnbgacGreat
namespace Go.Proofs.YtapgojgcmlnbgacGreat
open Go Go.RowKit
def Ah4 (a b c:Int):Bool:=decide (1≤a)&&decide (a≤32)&&decide (33≤b)&&decide (b≤96)&&decide (1≤c)&&decide (c≤4)
def Hw (a b c:Int) (h:Al) (m k:Nat) (cycles:Int):Int:=
 if Ah4 a b c=false∨Ir h=false∨4096<m then 2 else if 3000<k then 1 else if cycles<0∨6000<cycles then 3 else 0
def K3:Array Value:=Bu (.slice none 0 0) Jf (.slice none 0 0) 0 0 0
theorem K8 {a b c:Int}:(Tryz.prog.info? 23).map (·.size)=some (#[.int .i64 a, .int .i64 b, .int .i64 c]:Array Value).size:=by kernel_rfl
theorem I1 {cs:Array Value} (hz:cs.size=40):(Tryz.prog.info? 32).map (·.size)=some cs.size:=by rw [hz];kernel_rfl
theorem R7:K3.size=40:=rfl
theorem Ab2:K3.all (·.oneCell')=true:=by kernel_rfl
theorem Wt:Tryz.prog.built 32 []=some K3:=by kernel_rfl
theorem O8 {w:World} {g:Nat} {cs:Array Value} (hz:cs.size=40) (hB:Blk w g 32 cs):(loadVar 32 ⟨g,0,none⟩).run Tryz.prog w = .ok (.agg cs) w:=by
 rw [G5 w g 0 32 32 cs cs.size _ hB Tryz.underlying32 rfl (I1 hz) (by omega),I9 _ _ rfl]
theorem K5 {P:Program} {ops:Array Oper} {Q:Exit→Act→World→Prop} {a:Act} {w:World} {rest:List Oper} {o:Oper} (hw:Region.wanted o (yielded ops a.tmps)=true)
  (h:∀ K:Act→World→Prop,(∀ a w,wpList P ops Q rest a w→K a w)→o.wp P a w K Q):wpList P ops Q (o::rest) a w:=by
 unfold wpList
 rw [if_pos hw]
 exact Or.inl (h _ fun _ _ h=>h)
theorem Aih (a b c:Int) (h:Al) (A:Option Addr) (cap:Nat) (m:Nat) (A2:Option Addr) (cap2:Nat) (k:Nat) (cycles:Int) (w:World) (hh:h.regs.length=32) (hl:m≤140737488351232) (hl2:k≤4611686018427387904) (s0 : -9223372036854775808≤cycles) (s1:cycles≤9223372036854775807) (hno:Hw a b c h m k cycles≠0) :
  Calls Tryz.prog 4 #[.agg #[.int .i64 a, .int .i64 b, .int .i64 c], .agg h.cells, .slice A m cap, .slice A2 k cap2, .int .i64 cycles] w fun e w'=>e = .returned (.tuple #[.agg K3, .int .i64 (Hw a b c h m k cycles)])∧Below w.heap.size w w':=by
 have CC:=Lib.hid (fun W=>Rm a b c W)
 have CM:=Lib.hid (fun W=>Zc h W hh)
 obtain⟨X,hx⟩:∃ X,Hw a b c h m k cycles=X:=⟨_,rfl⟩
 rw [hx] at hno ⊢
 unfold Hw Ah4 at hx
 generalize (decide (1≤a)&&decide (a≤32)&&decide (33≤b)&&decide (b≤96)&&decide (1≤c)&&decide (c≤4))=mc at *
 rcases mc with _ | _
 focus
  obtain rfl:X=2:=by rw [←hx,if_pos (Or.inl rfl)]
  clear hx hno
 rotate_left 1
 rcases hm:Ir h with _ | _
 focus
  rw [hm] at CM hx
  obtain rfl:X=2:=by rw [←hx,if_pos (Or.inr (Or.inl rfl))]
  clear hx hno hm
 rotate_left 1
 rw [hm] at CM hx
 by_cases hN:4096<m
 focus
  obtain rfl:X=2:=by rw [←hx,if_pos (Or.inr (Or.inr hN))]
  have f1:decide ((4096:Int)<(m:Int))=true:=decide_eq_true (by omega)
  clear hx hno hm hN
 rotate_left 1
 rw [if_neg (by simp;omega)] at hx
 have f1:decide ((4096:Int)<(m:Int))=false:=decide_eq_false (by omega)
 by_cases hK:3000<k
 focus
  obtain rfl:X=1:=by rw [←hx,if_pos hK]
  have f2:decide ((3000:Int)<(k:Int))=true:=decide_eq_true (by omega)
  clear hx hno hm hK
 rotate_left 1
 rw [if_neg hK] at hx
 have f2:decide ((3000:Int)<(k:Int))=false:=decide_eq_false (by omega)
 by_cases hs:cycles<0
 focus
  obtain rfl:X=3:=by rw [←hx,if_pos (Or.inl hs)]
  have f3:decide (cycles<0)=true:=decide_eq_true hs
  clear hx hno hm hs hN hK
 rotate_left 1
 by_cases hs2:6000<cycles
 focus
  obtain rfl:X=3:=by rw [←hx,if_pos (Or.inr hs2)]
  have f3:decide (cycles<0)=false:=decide_eq_false hs
  have f4:decide (6000<cycles)=true:=decide_eq_true hs2
  clear hx hno hm hs hs2 hN hK
 rotate_left 1
 exact absurd (by rw [←hx,if_neg (by omega)]) hno
 all_goals
  go_enter Tryz.func4,Tryz.ntmps4
  go_upto_region 1 with(fail)
  go_simp
  refine Au fun wa hq=>?_
  have hC:Blk wa w.heap.size 23 #[.int .i64 a, .int .i64 b, .int .i64 c]:=by rw [hq];exact((Blk.new w _ _).alloc _).alloc _
  have hH:Blk wa (w.heap.size+1) 27 h.cells:=by rw [hq];exact(Blk.newAt (w.alloc _) 27 _ (by simp)).alloc _
  have hR:Blk wa (w.heap.size+2) 32 K3:=by rw [hq];exact Blk.newAt ((w.alloc _).alloc _) 32 _ (by simp)
  have hbl:Below w.heap.size w wa:=by rw [hq];exact(((Below.refl _ _).alloc (Nat.le_refl _) _).alloc (by simp) _).alloc (by simp;omega) _
  clear hq
  go_wp2_with(first
   |(refine Ac rfl 23 _ rfl w.heap.size rfl 23 _ _ hC Tryz.underlying23 rfl K8 ?_)
   |(go_at_call 9;(with_reducible refine(CC.out _).mono ?_);rintro e w1 ⟨rfl,hb1⟩;replace hbl:=hbl.trans (hb1.mono hbl.size);replace hR:=hR.ext hb1;replace hH:=hH.ext hb1;clear hb1)
   |(refine K5 rfl fun K hK=>?_;refine Eb 27 _ rfl (w.heap.size+1) rfl 27 _ _ hH Tryz.underlying27 rfl (B7 hh) ?_;refine hK _ _ ?_)
   |(go_at_call 10;(with_reducible refine(CM.out _).mono ?_);rintro e w2 ⟨rfl,hb2⟩;replace hbl:=hbl.trans (hb2.mono hbl.size);replace hR:=hR.ext hb2;clear hb2)
   |(refine Ao rfl 32 _ rfl [] rfl _ Wt ?_)
   |(refine Ab rfl 32 _ _ rfl (w.heap.size+2) K3 rfl rfl 32 _ hR (I1 R7) rfl Ab2 ?_;intro w6 hB6 hg6))
  refine bodyPost_ret (Ed rfl rfl rfl (O8 R7 hB6)) rfl ?_
  exact⟨rfl,below_grown hbl hg6 hbl.size (by omega)⟩
end Go.Proofs.YtapgojgcmlnbgacGreat
namespace Go.Proofs.YtapgojgcmlnbgacGreat
open Go
structure UF (u:Uop):Prop where
 a:0≤u.a∧u.a<96
 b:0≤u.b∧u.b<96
 dest:0≤u.dest∧u.dest<96
 old:0<u.dest→0≤u.old∧u.old<96
 rd:0≤u.ins.rd∧u.ins.rd≤31
 rs1:0≤u.ins.rs1∧u.ins.rs1≤31
 rs2:0≤u.ins.rs2∧u.ins.rs2≤31
 pc:0≤u.pc∧u.pc≤4294967295
 next:0≤u.next∧u.next≤4294967295
 seq:0≤u.seq
 com:u.state=2→u.commit.Wf
theorem Aib {N:A1} (hg:Dp N) {u:Uop} (h:NOk N u) (hd:0<u.dest):0≤u.old∧u.old<96:=by
 have:=h.dst hd
 rw [this.2.2.2]
 exact hg.reg_range (by omega)
theorem Inv.uf {C:Core} (h:Inv C):∀ u∈C.ops,UF u:=by
 intro u hu
 obtain⟨L,R,e⟩:=List.append_of_mem hu
 obtain⟨N,hgN,_,hcN,_⟩:=h.names
 have hO:=h.ops L u R e
 rw [e] at hcN
 obtain⟨K,_,hK,hNk,_⟩:=Gc hcN hgN rfl
 obtain⟨q1,q2,q3⟩:=Kc hcN hgN hO
 have hins:(0≤u.ins.rd∧u.ins.rd≤31)∧(0≤u.ins.rs1∧u.ins.rs1≤31)∧0≤u.ins.rs2∧u.ins.rs2≤31:=by
  by_cases hc:u.cause=0
  ·exact(Iu (Inv.insOk hO hc)).2
  ·have hf:=hO.fetch
   rcases Ks (known L) C.mem u.seq u.pc with⟨h1,_⟩ | ⟨_,h2⟩
   ·rw [←hf] at h1;exact absurd h1 hc
   ·rw [←hf] at h2
    have h2:u.ins=Fs:=h2
    rw [h2]
    decide
 refine⟨q1,q2,q3,Aib hK hNk,hins.1,hins.2.1,hins.2.2,hO.pc,hO.next,hO.seq.1,fun hs=>?_⟩
 by_cases hc:u.cause=0
 ·rw [hO.com hc hs]
  exact Pv h hins.1 hO.pc
 ·rw [(hO.fault hc).2.1]
  have:=hO.cause
  exact Ka hO.pc (by omega)
theorem P8 (op:Int):0≤loadBytes op∧loadBytes op≤4:=by
 unfold loadBytes
 generalize (op - 11).toNat=k
 match k with
 |0=>decide
 |1=>decide
 |2=>decide
 |3=>decide
 |4=>decide
 |k+5=>simp [List.getD]
theorem acc_wf {words:List Int} {u:Uop} (h:UF u) (hs:u.seq≤9223372036854775807):(Bn words u).Wf:=by
 have hz:=h.seq
 unfold Bn
 split
 ·rename_i hk
  have h2:u.state=2:=by unfold Bc at hk;simp at hk;exact hk.1.2
  have hw:=h.com h2
  have hm:=hw.many
  unfold G7
  exact⟨hw.at_.1,hw.at_.2,hw.data.1,hw.data.2,by show -9223372036854775808≤u.seq;omega,hs,by show -9223372036854775808≤u.commit.many;omega,by show u.commit.many≤9223372036854775807;omega⟩
 ·split
  ·have hm:=P8 u.ins.op
   have hb:=Dc (Us words u.a+u.ins.imm)
   exact⟨hb.1,hb.2,Int.le_refl 0,(by show(0:Int)≤4294967295;omega),by show -9223372036854775808≤u.seq;omega,hs,by show -9223372036854775808≤loadBytes u.ins.op;omega,by show loadBytes u.ins.op≤9223372036854775807;omega⟩
  ·exact⟨Int.le_refl 0,(by show(0:Int)≤4294967295;omega),Int.le_refl 0,(by show(0:Int)≤4294967295;omega),by show -9223372036854775808≤u.seq;omega,hs,(by show(-9223372036854775808:Int)≤0;omega),(by show(0:Int)≤9223372036854775807;omega)⟩
theorem Bt.free_len {M:A1}:∀ {L:List Uop} {N:A1},Bt N L M→M.free.length≤N.free.length
 |[],_,h=>by cases h;exact Nat.le_refl _
 |u::L,N,h=>by
  have:=Bt.free_len h.2
  have h2:(Dm N u).free.length≤N.free.length:=by
   unfold Dm
   split
   ·simp
   ·exact Nat.le_refl _
  omega
theorem Inv.free_len {C:Core} (h:Inv C):C.names.free.length≤64:=by
 obtain⟨N,hg,hl,hc,_⟩:=h.names
 have h1:=hc.free_len
 have h2:=hg.phys
 have h3:=hg.len
 unfold A1.all at hl
 rw [List.length_append,h3] at hl
 omega
theorem Tm {α β:Type} (p:α→Bool) (f:α→β) (l:List α):((l.filter p).map f).length≤l.length:=by
 rw [List.length_map]
 exact List.length_filter_le _ _
theorem Inv.lens {C:Core} (h:Inv C):C.ops.length≤32∧C.slots.length≤32∧C.access.length≤32:=by
 have h1:=h.len
 have h2:=h.cfg.1
 refine⟨by omega,by rw [h.slots,List.length_map];omega,?_⟩
 rw [h.access]
 have:=Tm Bm (Bn C.words) C.ops
 omega
theorem Inv.acc_wf {C:Core} (h:Inv C) (hs:C.seq≤9223372036854775807):∀ a∈C.access,a.Wf:=by
 intro a ha
 rw [h.access] at ha
 obtain⟨u,hu,rfl⟩:=List.mem_map.1 ha
 have hu:=(List.mem_filter.1 hu).1
 refine Go.Proofs.YtapgojgcmlnbgacGreat.acc_wf (h.uf u hu) ?_
 obtain⟨L,R,e⟩:=List.append_of_mem hu
 have:=(h.ops L u R e).seq
 omega
theorem Ady {C:Core} (hs:C.slots=C.ops.map B6) (seq:Int):∀ s∈Lc C.slots seq,∃ k:Nat,Je C.ops s=(k:Int)∧k<C.ops.length:=by
 intro s hm
 unfold Lc at hm
 rw [List.mem_reverse,List.mem_map] at hm
 obtain⟨x,hx,rfl⟩:=hm
 have hx:=(List.mem_filter.1 hx).1
 rw [hs] at hx
 obtain⟨u,hu,rfl⟩:=List.mem_map.1 hx
 rcases E9 (fun v:Uop=>decide (v.seq=u.seq)) C.ops 0 with⟨h1,h2⟩ | ⟨i,x,h1,h2,_⟩
 ·have:=h2 u hu
  simp at this
 ·exact⟨i,by
   show Db (fun v:Uop=>decide (v.seq=u.seq)) C.ops ((0:Nat):Int)=_
   rw [h1,Nat.zero_add],(List.getElem?_eq_some_iff.1 h2).1⟩
theorem Af8 {ops:List Uop} {s:Int} (h:∃ u∈ops,u.seq=s):∃ k:Nat,Je ops s=(k:Int)∧k<ops.length:=by
 obtain⟨u,hu,rfl⟩:=h
 rcases E9 (fun v:Uop=>decide (v.seq=u.seq)) ops 0 with⟨h1,h2⟩ | ⟨i,x,h1,h2,_⟩
 ·have:=h2 u hu
  simp at this
 ·exact⟨i,by
   show Db (fun v:Uop=>decide (v.seq=u.seq)) ops ((0:Nat):Int)=_
   rw [h1,Nat.zero_add],(List.getElem?_eq_some_iff.1 h2).1⟩
theorem Nu {l:List Acc} {s:Int} (h:∃ a∈l,a.seq=s):∃ k:Nat,Jm l s=(k:Int)∧k<l.length:=by
 obtain⟨u,hu,rfl⟩:=h
 rcases E9 (fun v:Acc=>decide (v.seq=u.seq)) l 0 with⟨h1,h2⟩ | ⟨i,x,h1,h2,_⟩
 ·have:=h2 u hu
  simp at this
 ·exact⟨i,by
   show Db (fun v:Acc=>decide (v.seq=u.seq)) l ((0:Nat):Int)=_
   rw [h1,Nat.zero_add],(List.getElem?_eq_some_iff.1 h2).1⟩
theorem Sb (l:List Acc) (seq:Int):∀ (r:List Acc),(Iq l seq r).2=true→∃ a∈l,a.seq=(Iq l seq r).1
 |[],h=>by cases h
 |s::r,h=>by
  unfold Iq at h ⊢
  split at h
  ·rename_i hs
   rw [if_pos hs]
   rw [Afm] at h ⊢
   rcases(Nh (R8 s) (·.seq) l (0,false)).1 h with⟨h1,_⟩ | ⟨a,ha,_,h2⟩
   ·cases h1
   ·exact⟨a,ha,h2.symm⟩
  ·rename_i hs
   rw [if_neg hs]
   exact Sb l seq r h
theorem Y4 {ops:List Uop} {acc:List Acc} (hacc:∀ a∈acc,∃ u∈ops,u.seq=a.seq) (seq at_ many:Int) (h:(ops.foldl (Dl seq at_ many) (I3 acc seq)).2=true) :
  ∃ k:Nat,Je ops (ops.foldl (Dl seq at_ many) (I3 acc seq)).1=(k:Int)∧k<ops.length:=by
 rw [Vz] at h ⊢
 refine Af8 ?_
 rcases(Nh (Aaf seq at_ many) (·.seq) ops (I3 acc seq)).1 h with⟨h1,h2⟩ | ⟨u,hu,_,h2⟩
 ·obtain⟨a,ha,e⟩:=Sb acc seq acc h1
  obtain⟨u,hu,e2⟩:=hacc a ha
  exact⟨u,hu,by rw [h2,e2,e];rfl⟩
 ·exact⟨u,hu,h2.symm⟩
theorem Aco {ops:List Uop} {g:Uop→Acc} (hg:∀ v,(g v).seq=v.seq):∀ a∈(ops.filter Bm).map g,∃ u∈ops,u.seq=a.seq:=by
 intro a ha
 obtain⟨u,hu,rfl⟩:=List.mem_map.1 ha
 exact⟨u,(List.mem_filter.1 hu).1,(hg u).symm⟩
theorem Sp {ops:List Uop} {g:Uop→Acc} (hg:∀ v,(g v).seq=v.seq) {u:Uop} (hu:u∈ops) (hm:Bm u=true):∃ a∈(ops.filter Bm).map g,a.seq=u.seq:=
 ⟨g u,List.mem_map.2 ⟨u,List.mem_filter.2 ⟨hu,hm⟩,rfl⟩,hg u⟩
structure Bd (C:Core) (N:Int):Prop where
 seq:0≤C.seq∧C.seq≤N
 taken:0≤C.taken∧C.taken≤N
 backs:0≤C.backs∧C.backs≤N
 coms:(C.commits.length:Int)≤N
 cycles:0≤C.cycles∧C.cycles≤N
theorem Bd.mono {C:Core} {N M:Int} (h:Bd C N) (hm:N≤M):Bd C M:=
 ⟨⟨h.seq.1,by have:=h.seq.2;omega⟩,⟨h.taken.1,by have:=h.taken.2;omega⟩,⟨h.backs.1,by have:=h.backs.2;omega⟩,by have:=h.coms;omega,⟨h.cycles.1,by have:=h.cycles.2;omega⟩⟩
structure Cn (C C':Core):Prop where
 seq:C'.seq=C.seq
 taken:C'.taken=C.taken
 backs:C'.backs=C.backs
 coms:C'.commits=C.commits
 cycles:C'.cycles=C.cycles
theorem Bd.same {C C':Core} {N:Int} (h:Bd C N) (k:Cn C C'):Bd C' N:=
 ⟨by rw [k.seq];exact h.seq,by rw [k.taken];exact h.taken,by rw [k.backs];exact h.backs,by rw [k.coms];exact h.coms,by rw [k.cycles];exact h.cycles⟩
theorem Bd.back {C:Core} {N:Int} (h:Bd C N) (s pc:Int):Bd (F8 C s pc) (N+1):=
 ⟨⟨h.seq.1,by have:=h.seq.2;show C.seq≤N+1;omega⟩,⟨h.taken.1,by have:=h.taken.2;show C.taken≤N+1;omega⟩,by have:=h.backs;show 0≤C.backs+1∧C.backs+1≤N+1;omega,by have:=h.coms;show(C.commits.length:Int)≤N+1;omega,⟨h.cycles.1,by have:=h.cycles.2;show C.cycles≤N+1;omega⟩⟩
theorem Bd.stored {C:Core} {N:Int} (h:Bd C N) (k:Nat):Bd (Fc C k) (N+1):=by
 unfold Fc
 dsimp only
 split
 ·refine Bd.back ?_ _ _
  exact h.same ⟨rfl,rfl,rfl,rfl,rfl⟩
 ·refine Bd.mono (N:=N) ?_ (by omega)
  exact h.same ⟨rfl,rfl,rfl,rfl,rfl⟩
theorem Wh (C:Core) (d x:Int):Cn C (Dk C d x):=by
 unfold Dk
 split<;>exact⟨rfl,rfl,rfl,rfl,rfl⟩
theorem Cn.trans {A B C:Core} (h:Cn A B) (k:Cn B C):Cn A C:=
 ⟨k.seq.trans h.seq,k.taken.trans h.taken,k.backs.trans h.backs,k.coms.trans h.coms,k.cycles.trans h.cycles⟩
theorem Bd.complete {C:Core} {N:Int} (h:Bd C N) (k:Nat):Bd (B9 C k) (N+2):=by
 unfold B9
 dsimp only
 generalize (if Bs (C.op k).ins=true then Mq C (C.op k) else (Cl (C.op k).ins (Eg C (C.op k)) C.mem,C.access))=l
 have h1:Cn C { C with access:=l.2 }:=⟨rfl,rfl,rfl,rfl,rfl⟩
 have h2:=h1.trans (Wh { C with access:=l.2 } (C.op k).dest l.1.value)
 generalize Dk { C with access:=l.2 } (C.op k).dest l.1.value=c1 at *
 have h3:Cn C (Et { c1 with ops:=C.ops.set k { C.op k with commit:=l.1 } } k):=h2.trans ⟨rfl,rfl,rfl,rfl,rfl⟩
 generalize Et { c1 with ops:=C.ops.set k { C.op k with commit:=l.1 } } k=c2 at *
 have hb:=h.same h3
 split
 ·refine Bd.mono (N:=N+1) ?_ (by omega)
  have:=hb.back ((C.op k).seq+1) (C.op k).pc
  exact this.same ⟨rfl,rfl,rfl,rfl,rfl⟩
 ·have hc:Bd (if (((C.op k).guessed&&decide (C.word (C.op k).dest≠l.1.value)) || decide (l.1.next≠(C.op k).next))=true then F8 { c2 with ops:=c2.ops.set k { c2.op k with next:=l.1.next } } ((C.op k).seq+1) l.1.next else c2) (N+1):=by
   split
   ·refine Bd.back ?_ _ _
    exact hb.same ⟨rfl,rfl,rfl,rfl,rfl⟩
   ·exact hb.mono (by omega)
  generalize (if (((C.op k).guessed&&decide (C.word (C.op k).dest≠l.1.value)) || decide (l.1.next≠(C.op k).next))=true then F8 { c2 with ops:=c2.ops.set k { c2.op k with next:=l.1.next } } ((C.op k).seq+1) l.1.next else c2)=c3 at *
  split
  ·exact(hc.stored k).mono (by omega)
  ·exact hc.mono (by omega)
theorem X4 (C:Core) (k:Nat) (now head:Int):Cn C (Cf C k now head).2:=by
 unfold Cf
 dsimp only
 split
 ·exact⟨rfl,rfl,rfl,rfl,rfl⟩
 split
 ·exact⟨rfl,rfl,rfl,rfl,rfl⟩
 split
 ·split
  ·have:=Wh { C with script:=C.script.tail } (C.op k).dest (u32 ((K4 (Pf C.table (C.op k).pc) (C.op k).pc).1+H3 C.script / 64))
   exact⟨this.seq,this.taken,this.backs,this.coms,this.cycles⟩
  ·exact⟨rfl,rfl,rfl,rfl,rfl⟩
 ·exact⟨rfl,rfl,rfl,rfl,rfl⟩
theorem Bd.fetch {C:Core} {N:Int} (h:Bd C N):Bd (Bz C).2 (N+1):=by
 have key:∀ C':Core,C'.seq=C.seq+1→C'.taken=C.taken+1→C'.backs=C.backs→C'.commits=C.commits→C'.cycles=C.cycles→Bd C' (N+1):=fun C' e1 e2 e3 e4 e5=>by
  have h1:=h.seq
  have h2:=h.taken
  have h3:=h.backs
  have h4:=h.coms
  have h5:=h.cycles
  exact⟨by rw [e1];omega,by rw [e2];omega,by rw [e3];omega,by rw [e4];omega,by rw [e5];omega⟩
 unfold Bz
 split
 ·exact h.mono (by omega)
 split
 ·exact h.mono (by omega)
 ·dsimp only
  split
  ·exact key _ rfl rfl rfl rfl rfl
  ·exact key _ rfl rfl rfl rfl rfl
theorem Agk (C:Core) (u:Uop):Cn C (Kx C u):=by
 unfold Kx
 split
 ·exact⟨rfl,rfl,rfl,rfl,rfl⟩
 split<;>exact⟨rfl,rfl,rfl,rfl,rfl⟩
theorem Bd.gone {C:Core} {N:Int} (h:Bd C N):Bd (Bq C) (N+1):=by
 unfold Bq
 dsimp only
 have h1:=h.seq
 have h2:=h.taken
 have h3:=h.backs
 have h4:=h.coms
 have h5:=h.cycles
 generalize hc:({ C with ops:=C.ops.tail,hart:=Cq (C.op 0).commit C.hart,mem:=Cs (C.op 0).commit C.mem,commits:=C.commits++[(C.op 0).commit],names:=if 0<(C.op 0).dest then (Le C.names (C.op 0).old).getD A1.zero else C.names }:Core)=c1
 have hb:Bd c1 (N+1):=by
  rw [←hc]
  exact⟨by show 0≤C.seq∧C.seq≤N+1;omega,by show 0≤C.taken∧C.taken≤N+1;omega,by show 0≤C.backs∧C.backs≤N+1;omega,by show(((C.commits++[(C.op 0).commit]).length:Nat):Int)≤N+1;rw [List.length_append];simp;omega,by show 0≤C.cycles∧C.cycles≤N+1;omega⟩
 have hl:=hb.same (Agk c1 (C.op 0))
 exact hl.same ⟨rfl,rfl,rfl,rfl,rfl⟩
theorem Bd.goneP:∀ (n:Nat) {C:Core} {N:Int},Bd C N→Bd (goneP n C) (N+n)
 |0,_,_,h=>h.mono (by omega)
 |n+1,C,N,h=>by
  unfold Go.Proofs.YtapgojgcmlnbgacGreat.goneP
  split
  ·exact h.gone.mono (by omega)
  ·exact(Bd.goneP n h.gone).mono (by omega)
theorem Bd.commit {C:Core} {N:Int} (h:Bd C N) (hw:0≤C.wide∧C.wide≤4):Bd (B0 C) (N+4):=by
 unfold B0
 have:=N1 C.slots C.wide hw.1
 have h2:Bd { C with slots:=C.slots.drop (Dx C.slots C.wide) } N:=h.same ⟨rfl,rfl,rfl,rfl,rfl⟩
 exact(Bd.goneP (Dx C.slots C.wide) h2).mono (by omega)
theorem Bd.finishAll (now:Int):∀ (n k:Nat) {C:Core} {N:Int},Bd C N→Bd (finishAll n k now C) (N+2*n)
 |0,_,_,_,h=>h.mono (by omega)
 |n+1,k,C,N,h=>by
  unfold Go.Proofs.YtapgojgcmlnbgacGreat.finishAll
  split
  ·refine(Bd.finishAll now n (k+1) (N:=N+2) ?_).mono (by omega)
   split
   ·exact h.complete k
   ·exact h.mono (by omega)
  ·exact h.mono (by omega)
theorem Bd.beginAll (now:Int):∀ (n k:Nat) (s:Int) {C:Core} {N:Int},Bd C N→Bd (beginAll n k s now C) N
 |0,_,_,_,_,h=>h
 |n+1,k,s,C,N,h=>by
  unfold Go.Proofs.YtapgojgcmlnbgacGreat.beginAll
  split
  ·exact Bd.beginAll now n (k+1) _ (h.same (X4 _ _ _ _))
  ·exact h
theorem Bd.fetchAll:∀ (n:Nat) {C:Core} {N:Int},Bd C N→Bd (fetchAll n C) (N+n)
 |0,_,_,h=>h.mono (by omega)
 |n+1,C,N,h=>by
  unfold Go.Proofs.YtapgojgcmlnbgacGreat.fetchAll
  split
  ·exact(Bd.fetchAll n h.fetch).mono (by omega)
  ·exact h.fetch.mono (by omega)
structure Qq (C:Core):Prop where
 slots:C.slots=C.ops.map B6
 lens:C.ops.length≤32∧C.slots.length≤32∧C.access.length≤32
 free:C.names.free.length≤64
 uf:∀ u∈C.ops,UF u
 acc:∀ a∈C.access,∃ u∈C.ops,u.seq=a.seq
 wf:C.seq≤9223372036854775807→∀ a∈C.access,a.Wf
theorem Qq.found {C:Core} (h:Qq C) (seq:Int):∀ s∈Lc C.slots seq,∃ k:Nat,Je C.ops s=(k:Int)∧k<C.ops.length:=Ady h.slots seq
theorem Qq.undo {C:Core} (h:Qq C):∀ u∈C.ops,(0≤u.ins.rd∧u.ins.rd≤31)∧(0<u.dest→0≤u.old∧u.old<96):=fun u hu=>⟨(h.uf u hu).rd,(h.uf u hu).old⟩
theorem Inv.fine {C:Core} (h:Inv C):Qq C:=
 ⟨h.slots,h.lens,h.free_len,h.uf,by rw [h.access];exact Aco (Ez _),h.acc_wf⟩
theorem Ahu (C:Core) {u:Uop} (l:Com) (hf:UF u) (hs:u.seq≤9223372036854775807):(Ck C u l).Wf:=by
 have hz:=hf.seq
 unfold Ck
 split
 ·have hm:=P8 u.ins.op
  have hb:=Dc (C.word u.a+u.ins.imm)
  exact⟨hb.1,hb.2,Int.le_refl 0,(by show(0:Int)≤4294967295;omega),by show -9223372036854775808≤u.seq;omega,hs,by show -9223372036854775808≤loadBytes u.ins.op;omega,by show loadBytes u.ins.op≤9223372036854775807;omega⟩
 ·exact⟨Int.le_refl 0,(by show(0:Int)≤4294967295;omega),Int.le_refl 0,(by show(0:Int)≤4294967295;omega),by show -9223372036854775808≤u.seq;omega,hs,(by show(-9223372036854775808:Int)≤0;omega),(by show(0:Int)≤9223372036854775807;omega)⟩
theorem Lu {C:Core} (h:Inv C) {L R:List Uop} {u:Uop} (ho:C.ops=L++u::R) {l:Com} {u':Uop} (hu:UF u') (hs:u'.seq=u.seq):Qq (Cc C L R u l u' (Ck C u l)):=by
 have hl:(L++u'::R).length=C.ops.length:=by rw [ho];simp
 have h1:=h.lens
 have huf:=h.uf
 have huo:UF u:=huf u (by rw [ho];simp)
 have hsu:u.seq<C.seq:=(h.ops L u R ho).seq.2
 have hv:∀ v∈L++u'::R,UF v∧v.seq<C.seq:=fun v hv=>by
  rcases List.mem_append.1 hv with hv | hv
  ·obtain⟨X,Y,e⟩:=List.append_of_mem hv
   exact⟨huf v (by rw [ho];simp [hv]),(h.ops X v (Y++u::R) (by rw [ho,e];simp)).seq.2⟩
  ·rcases List.mem_cons.1 hv with rfl | hv
   ·exact⟨hu,by rw [hs];exact hsu⟩
   ·obtain⟨X,Y,e⟩:=List.append_of_mem hv
    exact⟨huf v (by rw [ho];simp [hv]),(h.ops (L++u::X) v Y (by rw [ho,e];simp)).seq.2⟩
 refine⟨rfl,⟨by show(L++u'::R).length≤32;omega,by show((L++u'::R).map B6).length≤32;rw [List.length_map];omega,?_⟩,h.free_len,fun v hv'=>(hv v hv').1,Aco (Tr C u _),fun hq a ha=>?_⟩
 ·have:=Tm Bm (gD C u (Ck C u l)) (L++u'::R)
  show(((L++u'::R).filter Bm).map (gD C u (Ck C u l))).length≤32
  omega
 ·obtain⟨v,hv',rfl⟩:=List.mem_map.1 ha
  obtain⟨q1,q2⟩:=hv v (List.mem_filter.1 hv').1
  have q3:v.seq≤9223372036854775807:=by
   have:C.seq≤9223372036854775807:=hq
   omega
  unfold gD
  split
  ·have hw:=Ahu C l huo (by have:C.seq≤9223372036854775807:=hq;omega)
   exact⟨hw.at0,hw.at1,hw.data0,hw.data1,by show -9223372036854775808≤v.seq;have:=q1.seq;omega,q3,hw.many0,hw.many1⟩
  ·exact acc_wf q1 q3
theorem Aiu {C:Core} (h:Inv C) {L R:List Uop} {u:Uop} (ho:C.ops=L++u::R):UF (uD u (Ad C L u)):=by
 have hf:=h.uf u (by rw [ho];simp)
 exact⟨hf.a,hf.b,hf.dest,hf.old,hf.rd,hf.rs1,hf.rs2,hf.pc,hf.next,hf.seq,fun _=>Pv h hf.rd hf.pc⟩
theorem UF.next' {u:Uop} (h:UF u) {n:Int} (hn:0≤n∧n≤4294967295):UF { u with next:=n }:=⟨h.a,h.b,h.dest,h.old,h.rd,h.rs1,h.rs2,h.pc,hn,h.seq,h.com⟩
theorem Qq.setacc {C:Core} (h:Qq C) {j:Nat} {a0:Acc} (hj:C.access[j]? = some a0) {c:Com} (hc:c.Wf):Qq { C with access:=C.access.set j { a0 with known:=true,at_:=c.at_,many:=c.many,data:=c.data } }:=by
 have hm0:=List.mem_of_getElem? hj
 refine⟨h.slots,⟨h.lens.1,h.lens.2.1,by show(C.access.set j _).length≤32;rw [List.length_set];exact h.lens.2.2⟩,h.free,h.uf,fun a ha=>?_,fun hq a ha=>?_⟩
 ·rcases List.mem_or_eq_of_mem_set ha with ha | rfl
  ·exact h.acc a ha
  ·exact h.acc a0 hm0
 ·rcases List.mem_or_eq_of_mem_set ha with ha | rfl
  ·exact h.wf hq a ha
  ·have h0:=h.wf hq a0 hm0
   have hm:=hc.many
   exact⟨hc.at_.1,hc.at_.2,hc.data.1,hc.data.2,h0.seq0,h0.seq1,by show -9223372036854775808≤c.many;omega,by show c.many≤9223372036854775807;omega⟩
theorem Pz {C:Core} (h:Inv C) {L R:List Uop} {u:Uop} (ho:C.ops=L++u::R) (h1:u.state=1) {l:Com×List Acc} (hl:l=if Bs u.ins=true then Mq C u else (Cl u.ins (Eg C u) C.mem,C.access)) :
  l.1=Ad C L u∧Et (Dk { C with access:=l.2,ops:=C.ops.set L.length { u with commit:=l.1 } } u.dest l.1.value) L.length=Cc C L R u (Ad C L u) (uD u (Ad C L u)) (Ck C u (Ad C L u)):=by
 have hlc:=Zh h ho h1
 rw [←hl] at hlc
 subst hlc
 clear hl
 refine⟨rfl,?_⟩
 have hsq:=h.seqs
 rw [ho] at hsq
 unfold Et
 rw [Wi]
 have e1:C.ops.set L.length { u with commit:=Ad C L u }=L++{ u with commit:=Ad C L u }::R:=by rw [ho];exact Gi
 simp only [e1]
 have e2:Core.op { C with access:=((L++uD u (Ad C L u)::R).filter Bm).map (gD C u (Ck C u (Ad C L u))),words:=if 0<u.dest then C.words.set u.dest.toNat (Ad C L u).value else C.words,there:=if 0<u.dest then C.there.set u.dest.toNat true else C.there,ops:=L++{ u with commit:=Ad C L u }::R } L.length={ u with commit:=Ad C L u }:=Core.op_at rfl
 rw [e2,Gi]
 have e3:(It C.slots u.seq).getD []=(L++uD u (Ad C L u)::R).map B6:=by
  rw [h.slots,ho,Un hsq h1 (u':=uD u (Ad C L u)) rfl rfl]
  rfl
 simp only [e3]
 rfl
theorem Ab5 {C:Core} (h:Inv C) {L R:List Uop} {u:Uop} (ho:C.ops=L++u::R) (h1:u.state=1) (hs:Ba u.ins=true) (h0:(Ad C L u).state=0):(Ad C L u).next=u.next:=by
 have hO:=h.ops L u R ho
 have hc:u.cause=0:=by
  rcases Decidable.em (u.cause=0) with hc | hc
  ·exact hc
  ·have:=(hO.fault hc).1;omega
 rw [hO.nextS hc (by rw [hs];rfl)]
 exact Vv (by rw [hs];rfl) h0
theorem Tu {C:Core} (h:Inv C) {L R:List Uop} {u:Uop} (ho:C.ops=L++u::R) (hl:Bs u.ins=false):u.guessed=false:=by
 rcases hg:u.guessed with _ | _
 ·rfl
 ·have:=((h.ops L u R ho).gs hg).2.2
  rw [hl] at this
  cases this
theorem Te (C:Core) (L R:List Uop) (u:Uop) (c:Com) (n:Int) :
  ({ Cc C L R u c (uD u c) (Ck C u c) with ops:=(Cc C L R u c (uD u c) (Ck C u c)).ops.set L.length { uD u c with next:=n } }:Core)=Cc C L R u c { uD u c with next:=n } (Ck C u c):=by
 have hset:(Cc C L R u c (uD u c) (Ck C u c)).ops.set L.length { uD u c with next:=n }=L++{ uD u c with next:=n }::R:=Gi
 rw [hset]
 unfold Cc
 have e1:(L++{ uD u c with next:=n }::R).map B6=(L++uD u c::R).map B6:=by simp [B6]
 have e2:((L++{ uD u c with next:=n }::R).filter Bm).map (gD C u (Ck C u c))=((L++uD u c::R).filter Bm).map (gD C u (Ck C u c)):=by
  rw [List.filter_append,List.filter_append,List.filter_cons,List.filter_cons]
  have:Bm { uD u c with next:=n }=Bm (uD u c):=rfl
  rw [this]
  split
  ·simp [gD,uD]
  ·rfl
 rw [e1,e2]
structure Ajq (X D D':Core) (k:Nat) (c:Com) (u:Uop) (wd:Int):Prop where
 trap:c.state≠0→X={ F8 D (u.seq+1) u.pc with still:=true }
 miss:c.state=0→Ba u.ins=false→((u.guessed&&decide (wd≠c.value)) || decide (c.next≠u.next))=true→X=F8 D' (u.seq+1) c.next
 hit:c.state=0→Ba u.ins=false→((u.guessed&&decide (wd≠c.value)) || decide (c.next≠u.next))=false→X=D
 store:c.state=0→Ba u.ins=true→c.next=u.next∧X=Fc D k
theorem Air {C:Core} (h:Inv C) {L R:List Uop} {u:Uop} (ho:C.ops=L++u::R) (h1:u.state=1) :
  Ajq (B9 C L.length) (Cc C L R u (Ad C L u) (uD u (Ad C L u)) (Ck C u (Ad C L u))) (Cc C L R u (Ad C L u) { uD u (Ad C L u) with next:=(Ad C L u).next } (Ck C u (Ad C L u))) L.length (Ad C L u) u (C.word u.dest):=by
 have he:=M4 h ho h1
 have hm:Oi C L u=((u.guessed&&decide (C.word u.dest≠(Ad C L u).value)) || decide ((Ad C L u).next≠u.next)):=rfl
 dsimp only at he
 refine⟨fun hs=>?_,fun hs hst hmi=>?_,fun hs hst hmi=>?_,fun hs hst=>?_⟩
 ·rw [he,if_pos hs]
 ·rw [he,if_neg (by rw [hs];simp),if_neg (by rw [hst];decide),hm,if_pos hmi]
 ·rw [he,if_neg (by rw [hs];simp),if_neg (by rw [hst];decide),hm,if_neg (by rw [hmi];decide)]
 ·have hn:=Ab5 h ho h1 hst hs
  have hl:Bs u.ins=false:=by
   rcases e:Bs u.ins with _ | _
   ·rfl
   ·have:=D6.1 e
    have:=Fl.1 hst
    omega
  have hg:=Tu h ho hl
  refine⟨hn,?_⟩
  rw [he,if_neg (by rw [hs];simp),if_pos hst,hm,hg,hn]
  simp
theorem Qu (c:Core) (s pc:Int):(F8 c s pc).ops.length≤c.ops.length:=List.length_filter_le _ _
theorem Aaa (c:Core) (k:Nat):(Fc c k).ops.length≤c.ops.length:=by
 unfold Fc
 dsimp only
 split
 ·exact Qu _ _ _
 ·exact Nat.le_refl _
theorem Uz (c:Core) (k:Nat):(B9 c k).ops.length≤c.ops.length:=by
 unfold B9
 dsimp only
 generalize (if Bs (c.op k).ins=true then Mq c (c.op k) else (Cl (c.op k).ins (Eg c (c.op k)) c.mem,c.access))=l
 generalize Dk { c with access:=l.2 } (c.op k).dest l.1.value=c1
 have h1:(Et { c1 with ops:=c.ops.set k { c.op k with commit:=l.1 } } k).ops.length=c.ops.length:=by
  unfold Et
  simp
 generalize Et { c1 with ops:=c.ops.set k { c.op k with commit:=l.1 } } k=c2 at *
 split
 ·exact Nat.le_trans (Qu c2 ((c.op k).seq+1) (c.op k).pc) (Nat.le_of_eq h1)
 ·have h2:(if (((c.op k).guessed&&decide (c.word (c.op k).dest≠l.1.value)) || decide (l.1.next≠(c.op k).next))=true then F8 { c2 with ops:=c2.ops.set k { c2.op k with next:=l.1.next } } ((c.op k).seq+1) l.1.next else c2).ops.length≤c.ops.length:=by
   split
   ·refine Nat.le_trans (Qu _ _ _) ?_
    show(c2.ops.set k _).length≤_
    rw [List.length_set]
    exact Nat.le_of_eq h1
   ·exact Nat.le_of_eq h1
  generalize (if (((c.op k).guessed&&decide (c.word (c.op k).dest≠l.1.value)) || decide (l.1.next≠(c.op k).next))=true then F8 { c2 with ops:=c2.ops.set k { c2.op k with next:=l.1.next } } ((c.op k).seq+1) l.1.next else c2)=c3 at *
  split
  ·exact Nat.le_trans (Aaa _ _) h2
  ·exact h2
theorem Aal (c:Core) (k:Nat) (now hd:Int):(Cf c k now hd).2.ops.length=c.ops.length:=by
 unfold Cf
 dsimp only
 split
 ·rfl
 split
 ·simp
 split
 ·split
  ·simp
  ·simp
 ·simp
def Sub (C C':Core):Prop:=∀ x∈C'.script,x∈C.script
theorem Sub.refl (C:Core):Sub C C:=fun _ h=>h
theorem Sub.trans {A B C:Core} (h:Sub A B) (k:Sub B C):Sub A C:=fun x hx=>h x (k x hx)
theorem Sub.of_eq {C C':Core} (h:C'.script=C.script):Sub C C':=fun x hx=>by rw [←h];exact hx
theorem Qk {l:List Int} {x:Int} (h:x∈l.tail):x∈l:=List.mem_of_mem_tail h
theorem Uq (c:Core) (k:Nat):(Fc c k).script=c.script:=by
 unfold Fc
 dsimp only
 split<;>rfl
theorem Oj (c:Core) (d x:Int):(Dk c d x).script=c.script:=by
 unfold Dk
 split<;>rfl
theorem Lb (c:Core) (k:Nat):(B9 c k).script=c.script:=by
 unfold B9
 dsimp only
 generalize (if Bs (c.op k).ins=true then Mq c (c.op k) else (Cl (c.op k).ins (Eg c (c.op k)) c.mem,c.access))=l
 have h0:(Dk { c with access:=l.2 } (c.op k).dest l.1.value).script=c.script:=Oj _ _ _
 generalize Dk { c with access:=l.2 } (c.op k).dest l.1.value=c1 at *
 have h1:(Et { c1 with ops:=c.ops.set k { c.op k with commit:=l.1 } } k).script=c.script:=h0
 generalize Et { c1 with ops:=c.ops.set k { c.op k with commit:=l.1 } } k=c2 at *
 split
 ·exact h1
 ·have h2:(if (((c.op k).guessed&&decide (c.word (c.op k).dest≠l.1.value)) || decide (l.1.next≠(c.op k).next))=true then F8 { c2 with ops:=c2.ops.set k { c2.op k with next:=l.1.next } } ((c.op k).seq+1) l.1.next else c2).script=c.script:=by
   split
   ·exact h1
   ·exact h1
  generalize (if (((c.op k).guessed&&decide (c.word (c.op k).dest≠l.1.value)) || decide (l.1.next≠(c.op k).next))=true then F8 { c2 with ops:=c2.ops.set k { c2.op k with next:=l.1.next } } ((c.op k).seq+1) l.1.next else c2)=c3 at *
  split
  ·exact(Uq _ _).trans h2
  ·exact h2
theorem S0 (c:Core) (k:Nat) (now hd:Int):Sub c (Cf c k now hd).2:=by
 unfold Cf
 dsimp only
 split
 ·exact Sub.refl c
 split
 ·exact Sub.of_eq rfl
 split
 ·split
  ·intro x hx
   have hx:x∈(Dk { c with script:=c.script.tail } (c.op k).dest (u32 ((K4 (Pf c.table (c.op k).pc) (c.op k).pc).1+H3 c.script / 64))).script:=hx
   rw [Oj] at hx
   exact Qk hx
  ·exact fun x hx=>Qk hx
 ·exact Sub.of_eq rfl
theorem Y5 (c:Core) (i:Ins) (pc:Int):∀ x∈(Di c i pc).2,x∈c.script:=by
 unfold Di
 dsimp only
 split
 ·exact fun x hx=>hx
 split
 ·exact fun x hx=>Qk hx
 split
 ·exact fun x hx=>Qk hx
 ·exact fun x hx=>hx
theorem O0 (c:Core):Sub c (Bz c).2:=by
 unfold Bz
 split
 ·exact Sub.refl c
 split
 ·exact Sub.refl c
 ·dsimp only
  split
  ·exact Sub.of_eq rfl
  ·exact fun x hx=>Y5 c _ _ x hx
theorem U9 (c:Core) (u:Uop):(Kx c u).script=c.script:=by
 unfold Kx
 split
 ·rfl
 split<;>rfl
theorem Nb (c:Core):(Bq c).script=c.script:=by
 unfold Bq
 dsimp only
 exact U9 _ _
theorem P6:∀ (n:Nat) (c:Core),(goneP n c).script=c.script
 |0,_=>rfl
 |n+1,c=>by
  unfold goneP
  split
  ·exact Nb c
  ·exact(P6 n _).trans (Nb c)
theorem M3 (c:Core):(B0 c).script=c.script:=P6 _ _
theorem Xl {l:List Uop} {k:Nat} (hk:k<l.length):l=l.take k++l[k]::l.drop (k+1)∧(l.take k).length=k:=by
 refine⟨?_,by simp;omega⟩
 rw [←List.drop_eq_getElem_cons hk,List.take_append_drop]
theorem Ale {c:Core} {k:Nat} (hk:k<c.ops.length):c.op k=c.ops[k]:=by
 unfold Core.op
 simp [List.getD,List.getElem?_eq_getElem hk]
structure Lp1 (X Y:Core) (k r:Nat) (now N:Int) (S:List Int):Prop where
 good:Good X
 goes:finishAll r k now X=Y
 fuel:X.ops.length≤k+r
 bd:Bd X (N+2*k)
 sub:∀ x∈X.script,x∈S
theorem Lp1.stop {X Y:Core} {k r:Nat} {now N:Int} {S:List Int} (h:Lp1 X Y k r now N S) (hk:X.ops.length≤k):Y=X:=by
 rw [←h.goes]
 cases r with
 |zero=>rfl
 |succ r=>
  unfold finishAll
  rw [if_neg (by omega)]
theorem Lp1.skip {X Y:Core} {k r:Nat} {now N:Int} {S:List Int} (h:Lp1 X Y k r now N S) (hk:k<X.ops.length) (hn:¬ ((X.op k).state=1∧(X.op k).ready≤now)):∃ r',Lp1 X Y (k+1) r' now N S:=by
 have hf:=h.fuel
 cases r with
 |zero=>omega
 |succ r=>
  refine⟨r,h.good,?_,by omega,h.bd.mono (by omega),h.sub⟩
  rw [←h.goes]
  conv=>rhs;unfold finishAll
  rw [if_pos hk,if_neg hn]
theorem Lp1.step {X Y:Core} {k r:Nat} {now N:Int} {S:List Int} (h:Lp1 X Y k r now N S) (hk:k<X.ops.length) (hy:(X.op k).state=1∧(X.op k).ready≤now):∃ r',Lp1 (B9 X k) Y (k+1) r' now N S:=by
 have hf:=h.fuel
 cases r with
 |zero=>omega
 |succ r=>
  have hl:=Uz X k
  obtain⟨e1,e2⟩:=Xl hk
  have hp:=Gf now 0 1 X (X.ops.take k) (X.ops[k]::X.ops.drop (k+1)) h.good e1
  rw [e2] at hp
  have e3:finishAll 1 k now X=B9 X k:=by
   unfold finishAll
   rw [if_pos hk,if_pos hy]
   rfl
  rw [e3] at hp
  refine⟨r,hp.good,?_,by omega,(h.bd.complete k).mono (by omega),fun x hx=>h.sub x (by rw [←Lb X k];exact hx)⟩
  rw [←h.goes]
  conv=>rhs;unfold finishAll
  rw [if_pos hk,if_pos hy]
structure Lp2 (X Y:Core) (k r:Nat) (s now N:Int) (S:List Int):Prop where
 good:Good X
 goes:beginAll r k s now X=Y
 fuel:X.ops.length≤k+r
 bd:Bd X N
 sub:∀ x∈X.script,x∈S
theorem Lp2.stop {X Y:Core} {k r:Nat} {s now N:Int} {S:List Int} (h:Lp2 X Y k r s now N S) (hk:¬ (k<X.ops.length∧s<X.wide)):Y=X:=by
 rw [←h.goes]
 cases r with
 |zero=>rfl
 |succ r=>
  unfold beginAll
  rw [if_neg hk]
theorem Lp2.step {X Y:Core} {k r:Nat} {s now N:Int} {S:List Int} (h:Lp2 X Y k r s now N S) (hk:k<X.ops.length) (hs:s<X.wide):∃ r',Lp2 (Cf X k now (X.op 0).seq).2 Y (k+1) r' (if (Cf X k now (X.op 0).seq).1=true then s+1 else s) now N S:=by
 have hf:=h.fuel
 cases r with
 |zero=>omega
 |succ r=>
  have hl:=Aal X k now (X.op 0).seq
  obtain⟨e1,e2⟩:=Xl hk
  have hg:=Ou h.good e1 now
  rw [e2] at hg
  refine⟨r,hg,?_,by omega,h.bd.same (X4 _ _ _ _),fun x hx=>h.sub x (S0 _ _ _ _ x hx)⟩
  have e:beginAll (r+1) k s now X=beginAll r (k+1) (if (Cf X k now (X.op 0).seq).1=true then s+1 else s) now (Cf X k now (X.op 0).seq).2:=by
   conv=>lhs;unfold beginAll
   rw [if_pos (show k<X.ops.length∧s<X.wide from⟨hk,hs⟩)]
  rw [←h.goes,e]
structure Lp3 (X Y:Core) (r:Nat) (N:Int) (S:List Int):Prop where
 good:Good X
 goes:fetchAll r X=Y
 bd:Bd X (N - r)
 sub:∀ x∈X.script,x∈S
theorem Lp3.step {X Y:Core} {r:Nat} {N:Int} {S:List Int} (h:Lp3 X Y (r+1) N S) (hy:(Bz X).1=true):Lp3 (Bz X).2 Y r N S:=by
 have hp:=J0 h.good 0
 refine⟨hp.good,?_,h.bd.fetch.mono (by omega),fun x hx=>h.sub x (O0 X x hx)⟩
 rw [←h.goes]
 conv=>rhs;unfold fetchAll
 rw [if_pos hy]
theorem Lp3.last {X Y:Core} {r:Nat} {N:Int} {S:List Int} (h:Lp3 X Y (r+1) N S) (hy:(Bz X).1=false):Y=(Bz X).2:=by
 rw [←h.goes]
 unfold fetchAll
 rw [if_neg (by rw [hy];decide)]
theorem V4:∀ (n:Nat) (c:Core),c.hart.regs.length=32→(goneP n c).hart.regs.length=32
 |0,_,h=>h
 |n+1,c,h=>by
  have h1:(Bq c).hart.regs.length=32:=by
   unfold Bq
   dsimp only
   rw [Ny]
   show(Cq (c.op 0).commit c.hart).regs.length=32
   unfold Cq
   split<;>simp [h]
  unfold goneP
  split
  ·exact h1
  ·exact V4 n _ h1
def Jl (l:List Int) (p:Nat):List Int:=l.take p++List.replicate (96 - p) 0
def J9 (p:Nat):List Bool:=List.replicate p true++List.replicate (96 - p) false
theorem Acg {l:List Int} (hl:l.length=32):Jl l 32=l++List.replicate 64 0:=by
 unfold Jl
 rw [List.take_of_length_le (by omega)]
theorem Aca:J9 32=List.replicate 32 true++List.replicate 64 false:=rfl
theorem Ach {l:List Int} (hl:l.length=32) {p:Nat} (hp:p≤32):(Jl l p).length=96:=by
 unfold Jl
 simp
 omega
theorem Acb {p:Nat} (hp:p≤96):(J9 p).length=96:=by
 unfold J9
 simp
 omega
theorem Aci {l:List Int} (hl:l.length=32) {p:Nat} (hp:p<32):(Jl l p).set p (l.getD p 0)=Jl l (p+1):=by
 unfold Jl
 have e:96 - p=(96 - (p+1))+1:=by omega
 have hlt:(l.take p).length=p:=by simp;omega
 rw [e,List.replicate_succ,List.set_append_right _ _ (by omega),hlt,Nat.sub_self,List.set_cons_zero,List.take_succ_eq_append_getElem (by omega),List.append_assoc]
 simp [List.getD,List.getElem?_eq_getElem (show p<l.length by omega)]
theorem Acd {p:Nat} (hp:p<96):(J9 p).set p true=J9 (p+1):=by
 unfold J9
 have e:96 - p=(96 - (p+1))+1:=by omega
 rw [e,List.replicate_succ,List.set_append_right _ _ (by simp),List.length_replicate,Nat.sub_self,List.set_cons_zero,List.replicate_succ',List.append_assoc]
 rfl
theorem Tn (now:Int) (n:Nat) {C:Core} (h:Good C):Good (finishAll n 0 now C)∧(finishAll n 0 now C).wide=C.wide:=by
 have:=Gf now 0 n C [] C.ops h rfl
 exact⟨this.good,this.mid.wide⟩
theorem Uy (now:Int) (n:Nat) (s:Int) {C:Core} (h:Good C):Good (beginAll n 0 s now C)∧(beginAll n 0 s now C).wide=C.wide:=by
 have:=Lr now n s C [] C.ops h rfl
 exact⟨this.good,this.mid.wide⟩
theorem Od (now:Int):∀ (n k:Nat) (C:Core),Sub C (finishAll n k now C)
 |0,_,C=>Sub.refl C
 |n+1,k,C=>by
  unfold finishAll
  split
  ·refine Sub.trans ?_ (Od now n (k+1) _)
   split
   ·exact Sub.of_eq (Lb C k)
   ·exact Sub.refl C
  ·exact Sub.refl C
theorem Po (now:Int):∀ (n k:Nat) (s:Int) (C:Core),Sub C (beginAll n k s now C)
 |0,_,_,C=>Sub.refl C
 |n+1,k,s,C=>by
  unfold beginAll
  split
  ·exact Sub.trans (S0 C k now _) (Po now n (k+1) _ _)
  ·exact Sub.refl C
theorem Pw:∀ (n:Nat) (C:Core),Sub C (fetchAll n C)
 |0,C=>Sub.refl C
 |n+1,C=>by
  unfold fetchAll
  split
  ·exact Sub.trans (O0 C) (Pw n _)
  ·exact O0 C
theorem Aaz (C:Core):Sub C (Ci C):=by
 unfold Ci
 dsimp only
 have h1:Sub C (B0 { C with cycles:=C.cycles+1 }):=Sub.of_eq (M3 _)
 split
 ·exact h1
 ·exact Sub.trans (Sub.trans (Sub.trans h1 (Od _ _ _ _)) (Po _ _ _ _ _)) (Pw _ _)
theorem Bd.cycle {C:Core} {N:Int} (h:Bd C N) (hG:Good C):Bd (Ci C) (N+100):=by
 have hG0:=Rc hG
 have h0:Bd { C with cycles:=C.cycles+1 } (N+1):=by
  have hh:=h.mono (M:=N+1) (by omega)
  have hc:=h.cycles
  exact⟨hh.seq,hh.taken,hh.backs,hh.coms,by show 0≤C.cycles+1∧C.cycles+1≤N+1;omega⟩
 have h1:Bd (B0 { C with cycles:=C.cycles+1 }) (N+5):=(h0.commit (by have:=hG0.inv.cfg;omega)).mono (by omega)
 obtain⟨_,_,_,hg,_,_⟩:=Oy hG0
 unfold Ci
 dsimp only
 generalize B0 { C with cycles:=C.cycles+1 }=c1 at *
 split
 ·exact h1.mono (by omega)
 ·rename_i hs
  have hG1:Good c1:=by
   rcases hg with hg | hg
   ·exact absurd hg hs
   ·exact hg
  have hl:=hG1.inv.lens.1
  have hw:=hG1.inv.cfg
  obtain⟨g2,w2⟩:=Tn C.cycles c1.ops.length hG1
  have h2:=Bd.finishAll C.cycles c1.ops.length 0 h1
  generalize Go.Proofs.YtapgojgcmlnbgacGreat.finishAll c1.ops.length 0 C.cycles c1=c2 at *
  obtain⟨g3,w3⟩:=Uy C.cycles c2.ops.length 0 g2
  have h3:=Bd.beginAll C.cycles c2.ops.length 0 0 h2
  generalize Go.Proofs.YtapgojgcmlnbgacGreat.beginAll c2.ops.length 0 0 C.cycles c2=c3 at *
  exact(Bd.fetchAll c3.wide.toNat h3).mono (by omega)
structure Lp4 (X Y:Core) (r:Nat) (N:Int) (S:List Int):Prop where
 ok:X.hart.state≠0∨∃ D,Lp X D
 goes:Dh r X=Y
 bd:Bd X N
 sub:∀ x∈X.script,x∈S
 hart:X.hart.regs.length=32
theorem Lp4.stop {X Y:Core} {r:Nat} {N:Int} {S:List Int} (h:Lp4 X Y r N S) (hs:r=0∨X.hart.state≠0):Y=X:=by
 rw [←h.goes]
 cases r with
 |zero=>rfl
 |succ r=>
  unfold Dh
  rw [if_neg (by rcases hs with hs | hs;cases hs;exact hs)]
theorem Lp4.step {X Y:Core} {r:Nat} {N:Int} {S:List Int} (h:Lp4 X Y (r+1) N S) (hs:X.hart.state=0):Good X∧Lp4 (Ci X) Y r (N+100) S∧(Ci X).cycles=X.cycles+1:=by
 obtain⟨D,hD⟩:∃ D,Lp X D:=by
  rcases h.ok with h1 | h1
  ·exact absurd hs h1
  ·exact h1
 obtain⟨k,hk,hc⟩:=Tg hD
 have hgoes:Dh r (Ci X)=Y:=by
  rw [←h.goes]
  conv=>rhs;unfold Dh
  rw [if_pos hs]
 have hl:(Ci X).hart.regs.length=32:=by
  have hr:=hk.run
  have hok:=Xi k (h:=X.hart) (m:=X.mem) ⟨hD.good.inv.hart,hD.good.inv.may,hD.good.inv.bytes⟩
  rw [hr] at hok
  exact hok.1.hart.len
 refine⟨hD.good,⟨?_,hgoes,h.bd.cycle hD.good,fun x hx=>h.sub x (Aaz X x hx),hl⟩,hk.cycles⟩
 rcases hc with⟨_,h2⟩ | ⟨_,h2⟩ | ⟨_,h2⟩
 ·exact Or.inl h2
 ·exact Or.inr ⟨_,h2⟩
 ·exact Or.inr ⟨_,h2⟩
end Go.Proofs.YtapgojgcmlnbgacGreat
namespace Go.Proofs.YtapgojgcmlnbgacGreat
open Go.RowKit
section
variable {B:Nat} {w:World} {g p:Nat} {C:Core} {L:Lay} {ps:List Nat} {cs:Array Value} {u:Uop}
theorem Np (h:Af B w g C L ps cs) (hp:Blk w p 75 u.cells) (hd1:u.dest<96) (hw:C.words.length=96) (ht:C.there.length=96) (x:Int) :
  Calls Tryz.prog 42 #[.pointer (some ⟨g,0,none⟩), .pointer (some ⟨p,0,none⟩), .int .u32 x] w fun e w'=>e = .returned (.tuple #[])∧w.grownBy w' (some g)∧∃ cs',Af B w' g (Dk C u.dest x) L ps cs':=by
 have c13:w.cell? ⟨p,13,none⟩=some (.int .i64 u.dest):=hp.cell 13
 have zp:=hp.lt
 have zg:=h.lt
 have hne:=Bo hp h.blk (by decide)
 unfold Dk
 by_cases hd:0<u.dest
 ·rw [if_pos hd]
  obtain⟨d,hdd⟩:=Int.eq_ofNat_of_zero_le (show 0≤u.dest by omega)
  rw [hdd] at c13 hd hd1 ⊢
  have hd96:d<96:=by omega
  have HI:=Lib.hid h
  clear h hp hdd
  go_enter Tryz.func42,Tryz.ntmps42
  go_upto_region 1 with(fail)
  go_simp
  refine Ae 245231 528 245759 [0,1,2,3,4,5,6,7,8,9,10,11,12,13,15,16,14,17,18] (by kernel_rfl) (by kernel_rfl) (by kernel_rfl) rfl ?_
  refine rR (fun wq hwq=>hwq.at_ zp c13) ?_
  refine oS (fun w1 hw1 K1 hK1=>?_)
  have h1:=HI.out.ext (w':=w1) (by rw [hw1];exact(Below.refl _ _).drew)
  have hg1:w.grownBy w1 (some g):=by rw [hw1];exact⟨rfl,rfl,rfl,by simp,fun _ _ _=>rfl⟩
  have k1:=h1.word hd96
  have f1:=h1.blk.frozen (142+d)
  have z1:=h1.lt
  have HI2:=Lib.hid (And.intro (h1.set _ _ (h1.cells.set_word d hd96 hw x) h1.rows) (hg1.trans (grownBy_setCell w1 ⟨g,142+d,none⟩ (.int .u32 x))))
  clear h1 hg1 hw1
  go_wp2_with(fail)
  refine hK1 undef _ (fun _=>True) trivial ?_
  simp only [Act.put,sA,sS,sZ]
  clear hK1 K1 k1 f1 z1
  refine rO ?_
  refine oS (fun w2 hw2 K1 hK1=>?_)
  rw [←hw2] at HI2
  obtain⟨h2,hg2⟩:=HI2.out
  have k1:=h2.has hd96
  have f1:=h2.blk.frozen (238+d)
  have z1:=h2.lt
  have HI3:=Lib.hid (And.intro (h2.set _ _ (h2.cells.set_there d hd96 ht true) h2.rows) (hg2.trans (grownBy_setCell w2 ⟨g,238+d,none⟩ (.bool true))))
  clear h2 hg2 HI2 hw2
  go_wp2_with(fail)
  refine hK1 undef _ (fun _=>True) trivial ?_
  simp only [Act.put,sA,sS,sZ]
  clear hK1 K1 k1 f1 z1
  refine Aj ?_
  rintro w3 hw3
  rw [←hw3] at HI3
  go_wp2_with(fail)
  refine bodyPost_end (results_none rfl _ _ _) rfl ?_
  exact⟨rfl,HI3.out.2,_,HI3.out.1⟩
 ·rw [if_neg hd]
  have e0:decide (0<u.dest)=false:=decide_eq_false hd
  have H:=Lib.hid h
  clear h hp
  generalize u.dest=d at *
  go_enter Tryz.func42,Tryz.ntmps42
  go_wp2_with(fail)
  refine bodyPost_end (results_none rfl _ _ _) rfl ?_
  exact⟨rfl,World.grownBy.refl _ _,cs,H.out⟩
end
section
variable {B:Nat} {w:World} {g p:Nat} {C:Core} {L:Lay} {ps:List Nat} {cs:Array Value} {u:Uop}
theorem Ak.any_ops (h:Ak cs C L) (l:List Uop):Ak cs { C with ops:=l } L:=
 ⟨h.size,h.window,h.phys,h.wide,h.commits,h.mem,h.cycles,h.taken,h.backs,h.script,h.slots,h.ops,h.access,h.seq,h.pc,h.still,h.hart,h.tab,h.names,h.words,h.there⟩
theorem Af.setuop (h:Af B w g C L ps cs) {i:Nat} (hp:ps[i]? = some p) (hu:Blk w p 75 u.cells) (k:Nat) (v:Value) {u':Uop} (hc:u.cells.setIfInBounds k v=u'.cells) :
  Af B (w.setCell ⟨p,k,none⟩ v) g { C with ops:=C.ops.set i u' } L ps cs:=by
 have hg:=grownBy_setCell w ⟨p,k,none⟩ v
 have hB':Blk (w.setCell ⟨p,k,none⟩ v) p 75 u'.cells:=by rw [←hc];exact hu.set k v
 exact⟨by simpa using h.low,h.blk.far (by show g≠p;exact fun e=>Bo hu h.blk (by decide) e.symm) v,h.cells.any_ops _,h.rows.uop h.low hp hg hB'⟩
theorem Cg (hu:Blk w p 75 u.cells) (hB:B≤p) {w':World} (hg:w.grownBy w' (some p)):Ah B w w':=
 Ah.grown hg fun k hk=>by cases hk;exact⟨hB,_,_,_,hu,rfl⟩
theorem Af.uop_at (h:Af B w g C L ps cs) {i:Nat} (hp:ps[i]? = some p):Blk w p 75 (C.op i).cells∧B≤p∧i<C.ops.length∧C.ops[i]? = some (C.op i):=by
 have hi:i<ps.length:=(List.getElem?_eq_some_iff.1 hp).1
 have hi2:i<C.ops.length:=by rw [←h.rows.uops.len];exact hi
 have hg:C.ops[i]? = some (C.op i):=by unfold Core.op;simp [List.getD,List.getElem?_eq_getElem hi2]
 exact⟨(h.rows.uops.at_ i _ p hg hp).1,(h.rows.uops.at_ i _ p hg hp).2,hi2,hg⟩
theorem H7 {base:Nat} {v:Value} {l:List Slt} (h:w.ownsRow base 132 2 v l.length (A8 l)):∃ A c,v = .slice A l.length c∧Cr w w.heap.size A l∧(A=none→l=[]∧c=0)∧l.length≤c∧c≤9223372036854775807:=by
 have h0:=h
 rcases h.2 with⟨rfl,hz⟩ | ⟨g,c,cur,rfl,_,_,hc,hm,_⟩
 ·have hz':=List.eq_nil_of_length_eq_zero hz
  subst hz'
  exact⟨none,0,rfl,fun h=>absurd rfl h,fun _=>⟨rfl,rfl⟩,Nat.le_refl _,by decide⟩
 ·exact⟨_,c,rfl,Cr.own h0,fun h=>(by cases h),hc,by unfold maxLen at hm;omega⟩
theorem Pi.row {l:List Slt} {seq:Int} {e:Ending} {w':World} (h:Pi w l seq e w'):Below w.heap.size w w'∧∃ v b,e = .returned (.tuple #[v, .bool b])∧w'.ownsRow w.heap.size 132 2 v ((It l seq).getD []).length (A8 ((It l seq).getD [])):=by
 unfold Pi at h
 obtain⟨hb,h⟩:=h
 refine⟨hb,?_⟩
 cases hp:It l seq with
 |none=>rw [hp] at h;exact⟨_,_,h,World.ownsRow_nil _ _ _ _⟩
 |some k=>rw [hp] at h;obtain⟨v,rfl,ho⟩:=h;exact⟨v,true,rfl,ho⟩
theorem Gp {w:World} {base base':Nat} {e:TypeId} {size:Nat} {v:Value} {n:Nat} {xs:List Value} (h:w.ownsRow base e size v n xs) (hb:base'≤base):w.ownsRow base' e size v n xs:=
 ⟨h.1,h.2.imp id fun⟨g,cap,cur,e,l,r⟩=>⟨g,cap,cur,e,Nat.le_trans hb l,r⟩⟩
theorem Af.setslots (h:Af B w g C L ps cs) {v:Value} {l:List Slt} (ho:w.ownsRow B 132 2 v l.length (A8 l)):Af B (w.setCell ⟨g,334,none⟩ v) g { C with slots:=l } { L with slots:=v } ps (cs.setIfInBounds 334 v)∧Ah B w (w.setCell ⟨g,334,none⟩ v):=
 ⟨h.set 334 v (h.cells.set_slots v l) (h.rows.slot ho),h.turned (grownBy_setCell w ⟨g,334,none⟩ v)⟩
theorem Lx (h:Af B w g C L ps cs) {k:Nat} (hp:ps[k]? = some p) (hsl:C.slots.length≤1000) :
  Calls Tryz.prog 43 #[.pointer (some ⟨g,0,none⟩), .pointer (some ⟨p,0,none⟩)] w fun e w'=>e = .returned (.tuple #[])∧Ah B w w'∧∃ L' cs',Af B w' g (Et C k) L' ps cs':=by
 obtain⟨hu,hBp,hk,hg⟩:=h.uop_at hp
 unfold Et
 generalize C.op k=u at *
 have c1:w.cell? ⟨p,1,none⟩=some (.int .i64 u.state):=hu.cell 1
 have f1:=hu.frozen 1
 have zp:=hu.lt
 have zg:=h.lt
 have h1:=h.setuop hp hu 1 (.int .i64 2) (Uop.set_state u 2)
 have hu1:Blk (w.setCell ⟨p,1,none⟩ (.int .i64 2)) p 75 (Uop.cells { u with state:=2 }):=hu.set 1 (.int .i64 2)
 have HI:=Lib.hid (And.intro h1 (And.intro hu1 (Cg hu hBp (grownBy_setCell w ⟨p,1,none⟩ (.int .i64 2)))))
 clear h1 hu1 h hu
 generalize hC1:({ C with ops:=C.ops.set k { u with state:=2 } }:Core)=C1 at HI
 have HC1:=Lib.hid hC1
 have es:C1.slots=C.slots:=by rw [←hC1]
 clear hC1
 go_enter Tryz.func43,Tryz.ntmps43
 go_upto_region 1 with(fail)
 go_simp
 clear c1 f1 zg
 generalize w.setCell ⟨p,1,none⟩ (.int .i64 2)=w1 at *
 obtain⟨h1,hu1,ht1⟩:=HI.out
 have zg:=h1.lt
 have zp1:=hu1.lt
 have c334:=h1.slots
 have c0:w1.cell? ⟨p,0,none⟩=some (.int .i64 u.seq):=hu1.cell 0
 obtain⟨A,cp,hsv,hS,hnl,hc1,hc2⟩:=H7 h1.rows.slots
 rw [hsv] at c334
 rw [es] at c334 hS hnl hc1
 have HS:=Lib.hid (And.intro hS hnl)
 clear hS hnl h1 hu1 ht1 hsv
 refine Ae 31983 272 32255 [0,1,2,3,4,5,6,7,8,9,10,11,12,13,14,15] (by kernel_rfl) (by kernel_rfl) (by kernel_rfl) rfl ?_
 refine rR (fun wq hwq=>i2 (hwq.at_ zg c334) (hwq.at_ zp1 c0)) ?_
 refine oS (fun w2 hw2 K1 hK1=>?_)
 have hb2:Below w1.heap.size w1 w2:=by rw [hw2];exact(Below.refl _ _).drew
 have hS2:=(HS.out.1.below hb2).mono hb2.size
 have CD:=Lib.hid (Af0 A cp C.slots u.seq w2 (by omega) hS2 HS.out.2)
 clear hw2 hS2
 go_wp2_with(go_at_call 78;(with_reducible refine CD.out.mono ?_);intro e w3 hD;obtain⟨hb3,v3,b3,rfl,ho3⟩:=hD.row;obtain⟨A3,c3,rfl⟩:=Bb ho3)
 refine hK1 _ _ (fun _=>True) trivial ?_
 simp only [Act.put,sA,sS,sZ]
 clear hK1 K1 CD hD
 have hb13:=hb2.trans (hb3.mono hb2.size)
 have h3:=HI.out.1.ext hb13
 have ho3':=Gp ho3 (base':=B) (Nat.le_trans HI.out.1.low hb2.size)
 have k3:=h3.slots
 have f3:=h3.blk.frozen 334
 have z3:=h3.lt
 have HJ:=Lib.hid (And.intro (h3.setslots ho3').1 (HI.out.2.2.trans ((Ah.below hb13).trans (h3.setslots ho3').2)))
 clear h3 ho3 ho3' HI hb13 hb2 hb3 HS
 refine rO ?_
 refine oS (fun w4 hw4 K1 hK1=>?_)
 subst hw4
 go_wp2_with(fail)
 refine hK1 undef _ (fun _=>True) trivial ?_
 simp only [Act.put,sA,sS,sZ]
 clear hK1 K1
 refine Aj ?_
 rintro w5 hw5
 rw [←hw5] at HJ
 go_wp2_with(fail)
 refine bodyPost_end (results_none rfl _ _ _) rfl ?_
 have hj:=HJ.out.1
 rw [←HC1.out] at hj
 exact⟨rfl,HJ.out.2,_,_,hj⟩
end
theorem Rt {h:Al} (hl:h.regs.length=32) {i:Nat} (hi:i<32) (x:Int):h.cells.setIfInBounds i (.int .u32 x)=Al.cells { h with regs:=h.regs.set i x }:=by
 unfold Al.cells
 rw [List.setIfInBounds_toArray,List.set_append_left _ _ (by simp [hl];exact hi),List.map_set]
theorem Zb {l r:List Int} (hl:l.length=32) (hr:r.length=32) (pc st ca:Int):splice (Al.cells ⟨l,pc,st,ca⟩) 0 (r.map (Value.int .u32))=Al.cells ⟨r,pc,st,ca⟩:=by
 have hz:(Al.cells ⟨l,pc,st,ca⟩).size=35:=Al.cells_size hl
 have hz2:(Al.cells ⟨r,pc,st,ca⟩).size=35:=Al.cells_size hr
 have hlen:0+(r.map (Value.int .u32)).length≤(Al.cells ⟨l,pc,st,ca⟩).size:=by rw [hz];simp [hr]
 apply Array.ext_getElem?
 intro i
 rw [Fa _ _ _ hlen,if_neg (by omega)]
 by_cases hi:i<32
 ·rw [if_pos (by simp [hr];exact hi),Nat.sub_zero,Al.cells_reg (by show i<r.length;rw [hr];exact hi),List.getElem?_map]
  simp [List.getD,List.getElem?_eq_getElem (show i<r.length by rw [hr];exact hi)]
 ·rw [if_neg (by simp [hr];omega)]
  unfold Al.cells
  rw [List.getElem?_toArray,List.getElem?_toArray,List.getElem?_append_right (by simp [hl];omega),List.getElem?_append_right (by simp [hr];omega)]
  simp [hl,hr]
section
variable {B:Nat} {w:World} {g p:Nat} {C:Core} {L:Lay} {ps:List Nat} {cs:Array Value} {u:Uop}
theorem Zw (h:Af B w g C L ps cs) (hp:Blk w p 75 u.cells) (hl:C.hart.regs.length=32) (h1:0≤u.ins.rs1∧u.ins.rs1≤31) (h2:0≤u.ins.rs2∧u.ins.rs2≤31) (ha:0≤u.a∧u.a<96) (hb:0≤u.b∧u.b<96) :
  Calls Tryz.prog 38 #[.pointer (some ⟨g,0,none⟩), .pointer (some ⟨p,0,none⟩)] w fun e w'=>∃ b,e = .returned (.pointer (some ⟨b,0,none⟩))∧w.heap.size≤b∧Below w.heap.size w w'∧Blk w' b 27 (Eg C u).cells:=by
 have c3:w.cell? ⟨p,3,none⟩=some (.int .u32 u.pc):=hp.cell 3
 have zp:=hp.lt
 have zg:=h.lt
 have hne:=Bo hp h.blk (by decide)
 unfold Eg Core.word
 obtain⟨r1,e1⟩:=Int.eq_ofNat_of_zero_le h1.1
 obtain⟨r2,e2⟩:=Int.eq_ofNat_of_zero_le h2.1
 obtain⟨a,e3⟩:=Int.eq_ofNat_of_zero_le ha.1
 obtain⟨b,e4⟩:=Int.eq_ofNat_of_zero_le hb.1
 have c7:w.cell? ⟨p,7,none⟩=some (.int .i64 u.ins.rs1):=hp.cell 7
 have c8:w.cell? ⟨p,8,none⟩=some (.int .i64 u.ins.rs2):=hp.cell 8
 have c11:w.cell? ⟨p,11,none⟩=some (.int .i64 u.a):=hp.cell 11
 have c12:w.cell? ⟨p,12,none⟩=some (.int .i64 u.b):=hp.cell 12
 rw [e1] at c7 h1 ⊢
 rw [e2] at c8 h2 ⊢
 rw [e3] at c11 ha ⊢
 rw [e4] at c12 hb ⊢
 simp only [Int.toNat_natCast]
 have ka:=h.word (d:=a) (by omega)
 have kb:=h.word (d:=b) (by omega)
 generalize C.words.getD a 0=xa at *
 generalize C.words.getD b 0=xb at *
 generalize u.pc=pc at *
 have hX:=h.cells.regsX hl
 have hBg:=h.blk
 have hsz:=h.cells.size
 generalize C.hart.regs=l at *
 have built_h:Tryz.prog.built 27 [(1, .int .u32 pc)]=some (Al.cells ⟨List.replicate 32 0,pc,0,0⟩):=by kernel_rfl
 have hr1:r1<32:=by omega
 have hr2:r2<32:=by omega
 have ha96:a<96:=by omega
 have hb96:b<96:=by omega
 have Hp:=Lib.hid hp
 have HBg:=Lib.hid hBg
 clear h hp h1 h2 ha hb e1 e2 e3 e4
 go_enter Tryz.func38,Tryz.ntmps38
 go_upto_region 2 with(refine Ao rfl 27 _ rfl [(1, .int .u32 pc)] rfl _ built_h ?_)
 go_simp
 refine Au fun wa hq=>?_
 have hb1:Below w.heap.size w wa:=by rw [hq];exact(Below.refl _ _).alloc (Nat.le_refl _) _
 have hB1:Blk wa w.heap.size 27 (Al.cells ⟨List.replicate 32 0,pc,0,0⟩):=by rw [hq];exact Blk.new w 27 (Al.cells ⟨List.replicate 32 0,pc,0,0⟩)
 clear hq c3
 have hBga:=hBg.ext hb1
 have zga:=hBga.lt
 have hsz1:(Al.cells ⟨List.replicate 32 0,pc,0,0⟩).size=35:=rfl
 have hRone:(l.map (Value.int .u32)).toArray.all (·.oneCell')=true:=by
  rw [Array.all_eq_true_iff_forall_mem]
  intro v hv
  simp only [List.mem_toArray,List.mem_map] at hv
  obtain⟨x,_,rfl⟩:=hv
  rfl
 have hRsz:(Tryz.prog.info? 25).map (·.size)=some (l.map (Value.int .u32)).toArray.size:=by rw [Ro];simp [hl]
 have HX:=Lib.hid hX
 have hRs32:(l.map (Value.int .u32)).toArray.size=32:=by simp [hl]
 obtain⟨R,hR⟩:∃ R,R=(l.map (Value.int .u32)).toArray:=⟨_,rfl⟩
 rw [←hR] at HX hRone hRsz hRs32
 have HR:=Lib.hid hR
 clear hX hR
 generalize hH0:Al.cells ⟨List.replicate 32 0,pc,0,0⟩=H0 at hB1 hsz1
 have HH0:=Lib.hid hH0
 clear hH0
 go_upto_region 3 with(first
  |(refine Am rfl 25 _ rfl g 4 rfl 62 cs 32 _ hBga Tryz.underlying25 rfl Ro (by omega) ?_;rw [HX.out])
  |(refine Co rfl 25 _ _ rfl w.heap.size 0 R rfl rfl 27 H0 hB1 hRsz (by omega) hRone ?_;intro w2 hB2 hg2))
 go_simp
 rw [HR.out,←HH0.out] at hB2
 have hB2:Blk w2 w.heap.size 27 (Al.cells ⟨l,pc,0,0⟩):=by rw [←Zb (l:=List.replicate 32 0) rfl hl pc 0 0];exact hB2
 have hb2:Below w.heap.size w w2:=below_grown hb1 hg2 hb1.size (Nat.le_refl _)
 replace c7:=(hb2.cell (p:=⟨p,7,none⟩) zp).trans c7
 replace c8:=(hb2.cell (p:=⟨p,8,none⟩) zp).trans c8
 replace c11:=(hb2.cell (p:=⟨p,11,none⟩) zp).trans c11
 replace c12:=(hb2.cell (p:=⟨p,12,none⟩) zp).trans c12
 replace ka:=(hb2.cell (p:=⟨g,142+a,none⟩) zg).trans ka
 replace kb:=(hb2.cell (p:=⟨g,142+b,none⟩) zg).trans kb
 replace zp:=Nat.lt_of_lt_of_le zp hb2.size
 replace zg:=Nat.lt_of_lt_of_le zg hb2.size
 clear hg2 hB1 hb1 hBga zga HR HH0 HX hRone hRsz hRs32 hsz1 hBg HBg Hp built_h hsz
 refine Ae 128277477343 571541536 128849018879 [0,1,2,3,4,5,6,7,8,9,10,11,12,13,14,15,16,17,18,19,20,21,22,23,24,25,26,27,28,29,30,31,32,34,35,33,36,37] (by kernel_rfl) (by kernel_rfl) (by kernel_rfl) rfl ?_
 refine rR (fun wq hwq=>i2 (hwq.at_ zp c7) (i2 (hwq.at_ zp c8) (i2 (hwq.at_ zp c11) (i2 (hwq.at_ zp c12) (i2 (hwq.at_ zg ka) (hwq.at_ zg kb)))))) ?_
 clear c7 c8 c11 c12 ka kb
 refine oS (fun w3 hw3 K1 hK1=>?_)
 have hb3:Below w2.heap.size w2 w3:=by rw [hw3];exact(Below.refl _ _).drew
 have hB3:=hB2.ext hb3
 have hb3':=hb2.trans (hb3.mono hb2.size)
 have k1:=hB3.cell r1
 rw [Al.cells_reg (by show r1<l.length;rw [hl];exact hr1)] at k1
 have f1:=hB3.frozen r1
 have z1:=hB3.lt
 have hB4:=hB3.set r1 (.int .u32 xa)
 rw [Rt hl hr1] at hB4
 have HJ:=Lib.hid (And.intro hB4 (Ai (u := .int .u32 xa) (off:=r1) (Nat.le_refl w.heap.size) hb3'))
 clear hw3 hB3 hB4 hb3' hb3 hB2 hb2
 go_wp2_with(fail)
 refine hK1 undef _ (fun _=>True) trivial ?_
 simp only [Act.put,sA,sS,sZ]
 clear hK1 K1 k1 f1 z1
 refine rO ?_
 refine oS (fun w4 hw4 K1 hK1=>?_)
 rw [←hw4] at HJ
 obtain⟨hB4,hb4⟩:=HJ.out
 have hl4:(l.set r1 xa).length=32:=by simp [hl]
 have k1:=hB4.cell r2
 rw [Al.cells_reg (by show r2<(l.set r1 xa).length;rw [hl4];exact hr2)] at k1
 have f1:=hB4.frozen r2
 have z1:=hB4.lt
 have hB5:=hB4.set r2 (.int .u32 xb)
 rw [Rt hl4 hr2] at hB5
 have HJ2:=Lib.hid (And.intro hB5 (Ai (u := .int .u32 xb) (off:=r2) (Nat.le_refl w.heap.size) hb4))
 clear hw4 hB4 hb4 HJ hB5
 go_wp2_with(fail)
 refine hK1 undef _ (fun _=>True) trivial ?_
 simp only [Act.put,sA,sS,sZ]
 clear hK1 K1 k1 f1 z1
 refine Aj ?_
 rintro w5 hw5
 rw [←hw5] at HJ2
 go_wp2_with(fail)
 go_ret
 exact⟨_,rfl,Nat.le_refl _,HJ2.out.2,HJ2.out.1⟩
end
theorem Bl {w w':World} (h:Below w.heap.size w w') (row:Option Nat):w.grownBy w' row:=⟨h.os,h.tape,h.output,h.size,fun k hk _=>h.block k hk⟩
section
variable {B:Nat} {w:World} {g p:Nat} {C:Core} {L:Lay} {ps:List Nat} {cs:Array Value} {u:Uop}
theorem Ru (l:List Int):0≤H3 l:=by
 unfold H3
 split
 ·exact Int.le_refl _
 ·omega
theorem Tq (h:Af B w g C L ps cs) (hp:Blk w p 75 u.cells) (ht:Fe C.table) (h0:0≤u.pc∧u.pc≤4294967295) :
  Calls Tryz.prog 54 #[.pointer (some ⟨g,0,none⟩), .pointer (some ⟨p,0,none⟩)] w fun e w'=>e = .returned (.int .u32 (Di C u.ins u.pc).1)∧w.grownBy w' (some g)∧∃ L' cs',Af B w' g { C with script:=(Di C u.ins u.pc).2 } L' ps cs':=by
 have c3:w.cell? ⟨p,3,none⟩=some (.int .u32 u.pc):=hp.cell 3
 have c5:w.cell? ⟨p,5,none⟩=some (.int .i64 u.ins.op):=hp.cell 5
 have c9:w.cell? ⟨p,9,none⟩=some (.int .i32 u.ins.imm):=hp.cell 9
 have CP3:=Lib.hid (show u.cells[3]? = some (.int .u32 u.pc) from rfl)
 have CP9:=Lib.hid (show u.cells[9]? = some (.int .i32 u.ins.imm) from rfl)
 have zp:=hp.lt
 have hne:=Bo hp h.blk (by decide)
 have hT:=h.cells.tabX ht.size
 have hsz:=h.cells.size
 obtain⟨_,hca⟩:=ht.cnt_of u.pc
 have CB:=Lib.hid (fun W=>Aar C.table (M2 C.table u.pc) u.pc W h0.1 h0.2 ht.size hca)
 have HC:∀ (W:World),Af B W g C L ps cs→Calls Tryz.prog 47 #[.pointer (some ⟨g,0,none⟩)] W fun e w'=>e = .returned (.int .i64 (H3 C.script))∧W.grownBy w' (some g)∧∃ L' cs',Af B w' g { C with script:=C.script.tail } L' ps cs':=fun W h=>Ta h
 have hn0:=Ru C.script
 have HI:=Lib.hid h
 have HP:=Lib.hid hp
 have HB:=Lib.hid h.blk
 have HT:=Lib.hid hT
 have HC:=Lib.hid HC
 unfold Di
 dsimp only
 clear hT h hp hca
 generalize M2 C.table u.pc=t at *
 obtain⟨lv,tg⟩:=t
 dsimp only at CB ⊢
 generalize u.ins.op=op at *
 generalize u.ins.imm=im at *
 generalize u.pc=pc at *
 generalize H3 C.script=n at *
 by_cases q3:op=3
 focus
  subst q3
  rw [if_pos rfl]
 rotate_left 1
 focus
  have q3':(op==3)=false:=by simpa using q3
  rw [if_neg q3]
  by_cases q4:op=4
  focus
   subst q4
   rw [if_pos rfl]
   by_cases q1:n%4=1
   focus
    rw [if_pos q1]
    have q1':(n%4==1)=true:=by simpa using q1
   rotate_left 1
   focus
    rw [if_neg q1]
    have q1':(n%4==1)=false:=by simpa using q1
   rotate_left 1
  rotate_left 2
  focus
   have q4':(op==4)=false:=by simpa using q4
   rw [if_neg q4]
   by_cases q5:5≤op∧op≤10
   focus
    obtain⟨q5a,q5b⟩:=q5
    have e5:decide (5≤op)=true:=decide_eq_true q5a
    have e6:decide (op≤10)=true:=decide_eq_true q5b
    rw [if_pos ⟨q5a,q5b⟩]
    generalize hlv:decide (2≤lv)=lb at *
    by_cases q1:n%3=1
    focus
     have q1':(n%3==1)=true:=by simpa using q1
     rw [decide_eq_true q1]
     rcases lb with _ | _
     focus
      clear hlv
     rotate_left 1
     focus
      clear hlv
     rotate_left 1
    rotate_left 2
    focus
     have q1':(n%3==1)=false:=by simpa using q1
     rw [decide_eq_false q1]
     rcases lb with _ | _
     focus
      clear hlv
     rotate_left 1
     focus
      clear hlv
     rotate_left 1
    rotate_left 2
   rotate_left 4
   focus
    rw [if_neg q5]
    have q5':op<5∨(5≤op∧10<op):=by omega
    clear q5
    rcases q5' with q5 | ⟨q5,q6⟩
    focus
     have e5:decide (5≤op)=false:=decide_eq_false (by omega)
    rotate_left 1
    focus
     have e5:decide (5≤op)=true:=decide_eq_true q5
     have e6:decide (op≤10)=false:=decide_eq_false (by omega)
    rotate_left 1
   rotate_left 2
  rotate_left 6
 rotate_left 8
 all_goals
  go_enter Tryz.func54,Tryz.ntmps54
  go_upto_region 2 with(fail)
  go_simp
  refine Ae 15991 136 16127 [0,1,2,3,4,5,6,7,8,9,10,11,12,13] (by kernel_rfl) (by kernel_rfl) (by kernel_rfl) rfl ?_
  repeat'(first
   |refine rZ ?_
   |(refine' oR _ (by decide) (by decide) (by decide) (fun wq hwq K hK=>?_) ?_ ?_;rotate_left 1;(· have k3:=hwq.at_ zp c3;first | ((refine Ax 52 _ rfl g 44 rfl 62 cs 64 _ (HB.out.ext hwq) Tryz.underlying52 rfl Hy (by omega) ?_;rw [HT.out];exact hK)) | (go_wp2_with(fail);all_goals exact hK));rfl)
   |fail)
  refine oS (fun w1 hw1 K1 hK1=>?_)
  have hb1:Below w.heap.size w w1:=by rw [hw1];exact(Below.refl _ _).drew
  clear hw1
  go_wp2_with(go_at_call 92;(with_reducible refine(CB.out w1).mono ?_);rintro e w2 ⟨rfl,hb2⟩)
  refine hK1 _ _ (fun _=>True) trivial ?_
  simp only [Act.put,sA,sS,sZ]
  clear hK1 K1
  refine rO ?_
  refine Aj ?_
  rintro w3 rfl
  replace hb2:=hb1.trans (hb2.mono hb1.size)
  clear hb1
  replace c3:=(hb2.cell (p:=⟨p,3,none⟩) zp).trans c3
  replace c5:=(hb2.cell (p:=⟨p,5,none⟩) zp).trans c5
  replace c9:=(hb2.cell (p:=⟨p,9,none⟩) zp).trans c9
  replace zp:=Nat.lt_of_lt_of_le zp hb2.size
  have HI2:=Lib.hid (HI.out.ext hb2)
  have HP2:=Lib.hid (HP.out.ext hb2)
  clear HB HT CB HI HP
 ·go_upto_region 5 with(fail)
  go_simp
  refine Ae 3831 264 4095 [0,1,2,3,4,5,6,7,8,9,10,11] (by kernel_rfl) (by kernel_rfl) (by kernel_rfl) rfl ?_
  refine rR (fun wq hwq=>i2 (hwq.at_ zp c3) (hwq.at_ zp c9)) ?_
  refine Aj ?_
  rintro w4 rfl
  go_wp2_with(fail)
  go_ret
  exact⟨Ca (by unfold u32;omega),Bl (hb2.trans ((Below.refl _ _).drew.mono hb2.size)) _,L,cs,HI2.out.ext (Below.refl _ _).drew⟩
 ·skip
  go_wp2_with(go_at_call 47;(with_reducible refine(HC.out _ HI2.out).mono ?_);rintro e w4 ⟨rfl,hg3,L2,cs2,HI3⟩)
  go_ret
  replace hg3:=(Bl hb2 (some g)).trans hg3
  exact⟨Ca rfl,hg3,L2,cs2,HI3⟩
 ·skip
  go_wp2_with(go_at_call 47;(with_reducible refine(HC.out _ HI2.out).mono ?_);rintro e w4 ⟨rfl,hg3,L2,cs2,HI3⟩)
  go_ret
  replace hg3:=(Bl hb2 (some g)).trans hg3
  exact⟨rfl,hg3,L2,cs2,HI3⟩
 ·skip
  go_upto_region 14 with(go_at_call 47;(with_reducible refine(HC.out _ HI2.out).mono ?_);rintro e w4 ⟨rfl,hg3,L2,cs2,HI3⟩;have HP3:=HP2.out.grown hg3 (by simpa using hne);have zp4:=HP3.lt;have d3:w4.cell? ⟨p,3,none⟩=some (.int .u32 pc):=(HP3.cell 3).trans CP3.out;have d9:w4.cell? ⟨p,9,none⟩=some (.int .i32 im):=(HP3.cell 9).trans CP9.out;clear HP3)
  go_simp
  replace hg3:=(Bl hb2 (some g)).trans hg3
  clear c3 c5 c9
  refine Ae 3831 264 4095 [0,1,2,3,4,5,6,7,8,9,10,11] (by kernel_rfl) (by kernel_rfl) (by kernel_rfl) rfl ?_
  refine rR (fun wq hwq=>i2 (hwq.at_ zp4 d3) (hwq.at_ zp4 d9)) ?_
  refine Aj ?_
  rintro w5 rfl
  go_wp2_with(fail)
  go_ret
  exact⟨Ca (by unfold u32;omega),hg3.trans (Bl (Below.refl _ _).drew _),L2,cs2,HI3.ext (Below.refl _ _).drew⟩
 ·skip
  go_wp2_with(go_at_call 47;(with_reducible refine(HC.out _ HI2.out).mono ?_);rintro e w4 ⟨rfl,hg3,L2,cs2,HI3⟩)
  go_ret
  replace hg3:=(Bl hb2 (some g)).trans hg3
  exact⟨Ca rfl,hg3,L2,cs2,HI3⟩
 ·skip
  go_wp2_with(go_at_call 47;(with_reducible refine(HC.out _ HI2.out).mono ?_);rintro e w4 ⟨rfl,hg3,L2,cs2,HI3⟩)
  go_ret
  replace hg3:=(Bl hb2 (some g)).trans hg3
  exact⟨Ca rfl,hg3,L2,cs2,HI3⟩
 ·skip
  go_upto_region 14 with(go_at_call 47;(with_reducible refine(HC.out _ HI2.out).mono ?_);rintro e w4 ⟨rfl,hg3,L2,cs2,HI3⟩;have HP3:=HP2.out.grown hg3 (by simpa using hne);have zp4:=HP3.lt;have d3:w4.cell? ⟨p,3,none⟩=some (.int .u32 pc):=(HP3.cell 3).trans CP3.out;have d9:w4.cell? ⟨p,9,none⟩=some (.int .i32 im):=(HP3.cell 9).trans CP9.out;clear HP3)
  go_simp
  replace hg3:=(Bl hb2 (some g)).trans hg3
  clear c3 c5 c9
  refine Ae 3831 264 4095 [0,1,2,3,4,5,6,7,8,9,10,11] (by kernel_rfl) (by kernel_rfl) (by kernel_rfl) rfl ?_
  refine rR (fun wq hwq=>i2 (hwq.at_ zp4 d3) (hwq.at_ zp4 d9)) ?_
  refine Aj ?_
  rintro w5 rfl
  go_wp2_with(fail)
  go_ret
  exact⟨Ca (by unfold u32;omega),hg3.trans (Bl (Below.refl _ _).drew _),L2,cs2,HI3.ext (Below.refl _ _).drew⟩
 ·go_wp2_with(fail)
  go_ret
  exact⟨Ca rfl,Bl hb2 _,L,cs,HI2.out⟩
 ·go_wp2_with(fail)
  go_ret
  exact⟨Ca rfl,Bl hb2 _,L,cs,HI2.out⟩
end
theorem Fj {w:World} {B:Nat} {v:Value} {ps:List Nat} (h:Cb w B v ps):∃ A c,v = .slice A ps.length c∧ps.length≤c∧c≤9223372036854775807∧(A=none→ps=[]∧c=0):=by
 rcases h with⟨rfl,rfl⟩ | ⟨go,oo,cap,cur,rfl,hb,hB,h1,h2,h3,h4⟩
 ·exact⟨none,0,rfl,Nat.le_refl _,by omega,fun _=>⟨rfl,rfl⟩⟩
 ·exact⟨_,cap,rfl,h1,h2,fun h=>by cases h⟩
theorem G0 {w:World} {B:Nat} {A:Option Addr} {n c:Nat} {ps:List Nat} (h:Cb w B (.slice A n c) ps) {i:Nat} (hi:i<ps.length):∃ b o,A=some ⟨b,o,none⟩∧b<w.heap.size∧w.cell? ⟨b,o+i,none⟩=some (.pointer (some ⟨ps[i],0,none⟩)):=by
 rcases h with⟨_,rfl⟩ | ⟨go,oo,cap,cur,hv,hb,hB,h1,h2,h3,h4⟩
 ·simp at hi
 ·injection hv with hv
  exact⟨go,oo,hv,hB.lt,(hB.cell _).trans (h4 i _ (List.getElem?_eq_getElem hi))⟩
theorem Af3 (u:Uop) (p g:Nat) (seq:Int) (w:World) (hp:Blk w p 75 u.cells) (hg:w.cell? ⟨g,0,none⟩=some (.int .i64 seq)) (hgl:g<w.heap.size) :
  Calls Tryz.prog 105 #[.pointer (some ⟨p,0,none⟩), .pointer (some ⟨g,0,none⟩)] w fun e w'=>e = .returned (.bool (decide (u.seq=seq)))∧Below w.heap.size w w':=by
 have c0:w.cell? ⟨p,0,none⟩=some (.int .i64 u.seq):=hp.cell 0
 have zp:=hp.lt
 clear hp
 go_enter Tryz.func105,Tryz.ntmps105
 go_upto_region 1 with(fail)
 go_simp
 refine Ae 103 24 127 [0,1,2,3,4,5,6] (by kernel_rfl) (by kernel_rfl) (by kernel_rfl) rfl ?_
 refine rR (fun wq hwq=>i2 (hwq.at_ zp c0) (hwq.at_ hgl hg)) ?_
 refine Aj ?_
 rintro w1 rfl
 go_wp2_with(fail)
 go_ret
 exact⟨rfl,by first | exact Below.refl _ _ | exact(Below.refl _ _).drew⟩
theorem Ad8 (A:Option Addr) (cap B:Nat) (us:List Uop) (ps:List Nat) (seq:Int) (g:Nat) (w:World) (hl:ps.length≤140737488355328) (hA:Cb w B (.slice A ps.length cap) ps) (hU:Df w B us ps) (hg:w.cell? ⟨g,0,none⟩=some (.int .i64 seq)) (hgl:g<w.heap.size) :
  Calls Tryz.prog 104 #[.slice A ps.length cap, .func (.func 105) #[] #[.pointer (some ⟨g,0,none⟩)]] w fun e w'=>e = .returned (.int .i64 (Db (fun u:Uop=>decide (u.seq=seq)) us 0))∧Below w.heap.size w w':=by
 obtain⟨X,hX⟩:∃ X,Db (fun u:Uop=>decide (u.seq=seq)) us 0=X:=⟨_,rfl⟩
 rw [hX]
 obtain⟨N,hN⟩:∃ N,N=ps.length:=⟨_,rfl⟩
 rw [←hN] at hl hA ⊢
 have HN2:=Lib.hid (hN.trans hU.len)
 have HA:=Lib.hid hA
 have HU:=Lib.hid hU
 have HN:=Lib.hid hN
 have HX:Hid (Db (fun u:Uop=>decide (u.seq=seq)) (us.drop 0) ((0:Nat):Int)=X):=Lib.hid (by simpa using hX)
 have HG:=Lib.hid hg
 clear hA hN hX hg hU
 go_enter Tryz.func104,Tryz.ntmps104
 go_upto_region 2 with(fail)
 go_loopw [8] (fun v wr=>∃ k:Nat,v = .int .i64 k∧k≤N∧Below w.heap.size w wr∧Hid (Db (fun u:Uop=>decide (u.seq=seq)) (us.drop k) k=X)) (fun v _=>N+1 - (intOf v).toNat)
 case atStart=>exact⟨0,rfl,Nat.zero_le _,Below.refl _ _,HX⟩
 case round=>
  clear HX
  obtain⟨k,rfl,hk,hb,Hk⟩:=hrel
  by_cases hlt:k<N
  ·have hk':k<us.length:=by rw [←HN2.out];exact hlt
   have hk2:k<ps.length:=by rw [←HN.out];exact hlt
   obtain⟨b,o,rfl,hgB,c0⟩:=G0 (HA.out.kept (Cp hb) (Classical.em _)) hk2
   have hd:=Ix (fun u:Uop=>decide (u.seq=seq)) us hk' (k:Int)
   have hu:=((HU.out.kept (Cp hb) (fun p _=>by simp)).at_ k _ _ (List.getElem?_eq_getElem hk') (List.getElem?_eq_getElem hk2)).1
   generalize us[k]'hk'=u at *
   generalize ps[k]'hk2=q at *
   have hgr:=(hb.cell (p:=⟨g,0,none⟩) hgl).trans HG.out
   have hglr:g<wr.heap.size:=Nat.lt_of_lt_of_le hgl hb.size
   have CP:=Lib.hid (Af3 u q g seq wr hu hgr hglr)
   clear hgr hu
   by_cases hs:u.seq=seq
   ·have Hd:Hid ((k:Int)=X):=Lib.hid (by rw [if_pos (by simpa using hs)] at hd;rw [←Hk.out,hd])
    rw [decide_eq_true hs] at CP
    clear hd Hk hs
    go_wp2_with(go_at_call 105;(with_reducible refine CP.out.mono ?_);rintro e w2 ⟨rfl,hb2⟩)
    go_ret
    exact⟨by rw [←Hd.out];rfl,hb.trans (hb2.mono hb.size)⟩
   ·have Hd:Hid (Db (fun u:Uop=>decide (u.seq=seq)) (us.drop (k+1)) ((k+1:Nat):Int)=X):=Lib.hid (by rw [if_neg (by simpa using hs)] at hd;rw [←Hk.out,hd];rfl)
    rw [decide_eq_false hs] at CP
    clear hd Hk hs
    go_wp2_with(go_at_call 105;(with_reducible refine CP.out.mono ?_);rintro e w2 ⟨rfl,hb2⟩)
    go_roundw
    case rel=>exact⟨k+1,by go_num,by omega,hb.trans (hb2.mono hb.size),Hd⟩
    case measure=>simp [intOf];omega
  ·obtain rfl:k=N:=by omega
   have e1:decide ((k:Int)<k)=false:=by simp
   have Hd:Hid ((-1:Int)=X):=Lib.hid (by rw [←Hk.out,HN2.out,List.drop_length];rfl)
   clear Hk
   go_wp2
   go_ret
   exact⟨by rw [←Hd.out];rfl,hb⟩
theorem Xx (u:Uop) (p g:Nat) (seq:Int) (w:World) (hp:Blk w p 75 u.cells) (hg:w.cell? ⟨g,0,none⟩=some (.int .i64 seq)) (hgl:g<w.heap.size) :
  Calls Tryz.prog 83 #[.pointer (some ⟨p,0,none⟩), .pointer (some ⟨g,0,none⟩)] w fun e w'=>e = .returned (.bool (decide (seq≤u.seq)))∧Below w.heap.size w w':=by
 have c0:w.cell? ⟨p,0,none⟩=some (.int .i64 u.seq):=hp.cell 0
 have zp:=hp.lt
 clear hp
 go_enter Tryz.func83,Tryz.ntmps83
 go_upto_region 1 with(fail)
 go_simp
 refine Ae 103 24 127 [0,1,2,3,4,5,6] (by kernel_rfl) (by kernel_rfl) (by kernel_rfl) rfl ?_
 refine rR (fun wq hwq=>i2 (hwq.at_ zp c0) (hwq.at_ hgl hg)) ?_
 refine Aj ?_
 rintro w1 rfl
 go_wp2_with(fail)
 go_ret
 exact⟨rfl,by first | exact Below.refl _ _ | exact(Below.refl _ _).drew⟩
theorem Ada (A:Option Addr) (cap B:Nat) (us:List Uop) (ps:List Nat) (seq:Int) (g:Nat) (w:World) (hl:ps.length≤140737488355328) (hA:Cb w B (.slice A ps.length cap) ps) (hU:Df w B us ps) (hg:w.cell? ⟨g,0,none⟩=some (.int .i64 seq)) (hgl:g<w.heap.size) :
  Calls Tryz.prog 104 #[.slice A ps.length cap, .func (.func 83) #[] #[.pointer (some ⟨g,0,none⟩)]] w fun e w'=>e = .returned (.int .i64 (Db (fun u:Uop=>decide (seq≤u.seq)) us 0))∧Below w.heap.size w w':=by
 obtain⟨X,hX⟩:∃ X,Db (fun u:Uop=>decide (seq≤u.seq)) us 0=X:=⟨_,rfl⟩
 rw [hX]
 obtain⟨N,hN⟩:∃ N,N=ps.length:=⟨_,rfl⟩
 rw [←hN] at hl hA ⊢
 have HN2:=Lib.hid (hN.trans hU.len)
 have HA:=Lib.hid hA
 have HU:=Lib.hid hU
 have HN:=Lib.hid hN
 have HX:Hid (Db (fun u:Uop=>decide (seq≤u.seq)) (us.drop 0) ((0:Nat):Int)=X):=Lib.hid (by simpa using hX)
 have HG:=Lib.hid hg
 clear hA hN hX hg hU
 go_enter Tryz.func104,Tryz.ntmps104
 go_upto_region 2 with(fail)
 go_loopw [8] (fun v wr=>∃ k:Nat,v = .int .i64 k∧k≤N∧Below w.heap.size w wr∧Hid (Db (fun u:Uop=>decide (seq≤u.seq)) (us.drop k) k=X)) (fun v _=>N+1 - (intOf v).toNat)
 case atStart=>exact⟨0,rfl,Nat.zero_le _,Below.refl _ _,HX⟩
 case round=>
  clear HX
  obtain⟨k,rfl,hk,hb,Hk⟩:=hrel
  by_cases hlt:k<N
  ·have hk':k<us.length:=by rw [←HN2.out];exact hlt
   have hk2:k<ps.length:=by rw [←HN.out];exact hlt
   obtain⟨b,o,rfl,hgB,c0⟩:=G0 (HA.out.kept (Cp hb) (Classical.em _)) hk2
   have hd:=Ix (fun u:Uop=>decide (seq≤u.seq)) us hk' (k:Int)
   have hu:=((HU.out.kept (Cp hb) (fun p _=>by simp)).at_ k _ _ (List.getElem?_eq_getElem hk') (List.getElem?_eq_getElem hk2)).1
   generalize us[k]'hk'=u at *
   generalize ps[k]'hk2=q at *
   have hgr:=(hb.cell (p:=⟨g,0,none⟩) hgl).trans HG.out
   have hglr:g<wr.heap.size:=Nat.lt_of_lt_of_le hgl hb.size
   have CP:=Lib.hid (Xx u q g seq wr hu hgr hglr)
   clear hgr hu
   by_cases hs:seq≤u.seq
   ·have Hd:Hid ((k:Int)=X):=Lib.hid (by rw [if_pos (by simpa using hs)] at hd;rw [←Hk.out,hd])
    rw [decide_eq_true hs] at CP
    clear hd Hk hs
    go_wp2_with(go_at_call 83;(with_reducible refine CP.out.mono ?_);rintro e w2 ⟨rfl,hb2⟩)
    go_ret
    exact⟨by rw [←Hd.out];rfl,hb.trans (hb2.mono hb.size)⟩
   ·have Hd:Hid (Db (fun u:Uop=>decide (seq≤u.seq)) (us.drop (k+1)) ((k+1:Nat):Int)=X):=Lib.hid (by rw [if_neg (by simpa using hs)] at hd;rw [←Hk.out,hd];rfl)
    rw [decide_eq_false hs] at CP
    clear hd Hk hs
    go_wp2_with(go_at_call 83;(with_reducible refine CP.out.mono ?_);rintro e w2 ⟨rfl,hb2⟩)
    go_roundw
    case rel=>exact⟨k+1,by go_num,by omega,hb.trans (hb2.mono hb.size),Hd⟩
    case measure=>simp [intOf];omega
  ·obtain rfl:k=N:=by omega
   have e1:decide ((k:Int)<k)=false:=by simp
   have Hd:Hid ((-1:Int)=X):=Lib.hid (by rw [←Hk.out,HN2.out,List.drop_length];rfl)
   clear Hk
   go_wp2
   go_ret
   exact⟨by rw [←Hd.out];rfl,hb⟩
theorem Aiw (a:Acc) (g:Nat) (seq:Int) (w:World) (hg:w.cell? ⟨g,0,none⟩=some (.int .i64 seq)) (hgl:g<w.heap.size) :
  Calls Tryz.prog 97 #[.agg #[.int .i64 a.seq, .bool a.store, .bool a.known, .int .u32 a.at_, .int .i64 a.many, .int .u32 a.data, .bool a.done], .pointer (some ⟨g,0,none⟩)] w fun e w'=>e = .returned (.bool (decide (a.seq=seq)))∧Below w.heap.size w w':=by
 go_enter Tryz.func97,Tryz.ntmps97
 go_upto_region 1 with(fail)
 go_simp
 refine Au fun wa hq=>?_
 have hB:Blk wa w.heap.size 101 (Acc.cells a):=by rw [hq];exact Blk.new w _ _
 have hbl:Below w.heap.size w wa:=by rw [hq];exact(Below.refl _ _).alloc (Nat.le_refl _) _
 clear hq
 have c0:wa.cell? ⟨w.heap.size,0,none⟩=some (.int .i64 a.seq):=hB.cell 0
 have c1:=(hbl.cell (p:=⟨g,0,none⟩) hgl).trans hg
 go_wp2
 go_ret
 exact⟨rfl,hbl⟩
theorem Ahi (A:Option Addr) (cap:Nat) (l:List Acc) (seq:Int) (g:Nat) (w:World) (hl:l.length≤140737488355328) (hA:Eh w w.heap.size A l) (hg:w.cell? ⟨g,0,none⟩=some (.int .i64 seq)) (hgl:g<w.heap.size) :
  Calls Tryz.prog 69 #[.slice A l.length cap, .func (.func 97) #[] #[.pointer (some ⟨g,0,none⟩)]] w fun e w'=>e = .returned (.int .i64 (Db (fun a:Acc=>decide (a.seq=seq)) l 0))∧Below w.heap.size w w':=by
 obtain⟨X,hX⟩:∃ X,Db (fun a:Acc=>decide (a.seq=seq)) l 0=X:=⟨_,rfl⟩
 rw [hX]
 obtain⟨N,hN⟩:∃ N,N=l.length:=⟨_,rfl⟩
 rw [←hN] at hl ⊢
 have HA:=Lib.hid hA
 have HN:=Lib.hid hN
 have HX:Hid (Db (fun a:Acc=>decide (a.seq=seq)) (l.drop 0) ((0:Nat):Int)=X):=Lib.hid (by simpa using hX)
 have HG:=Lib.hid hg
 clear hA hN hX hg
 go_enter Tryz.func69,Tryz.ntmps69
 go_upto_region 2 with(fail)
 go_loopw [8] (fun v wr=>∃ k:Nat,v = .int .i64 k∧k≤N∧Below w.heap.size w wr∧Hid (Db (fun a:Acc=>decide (a.seq=seq)) (l.drop k) k=X)) (fun v _=>N+1 - (intOf v).toNat)
 case atStart=>exact⟨0,rfl,Nat.zero_le _,Below.refl _ _,HX⟩
 case round=>
  clear HX
  obtain⟨k,rfl,hk,hb,Hk⟩:=hrel
  by_cases hlt:k<N
  ·have hk':k<l.length:=by rw [←HN.out];exact hlt
   obtain⟨b,o,a,rfl,hgB,hs',hd',_,hcs⟩:=(HA.out.below hb).at_ hk'
   obtain⟨c0,c1,c2,c3,c4,c5,c6⟩:=hcs
   have hd:=Ix (fun a:Acc=>decide (a.seq=seq)) l hk' (k:Int)
   have es:l[k]'hk'=a:=by
    have:=List.drop_eq_getElem_cons hk'
    rw [hd'] at this
    injection this with this
    exact this.symm
   rw [es] at hd
   clear es hs' hd'
   have hgr:=(hb.cell (p:=⟨g,0,none⟩) hgl).trans HG.out
   have hglr:g<wr.heap.size:=Nat.lt_of_lt_of_le hgl hb.size
   have CP:=Lib.hid (Aiw a g seq wr hgr hglr)
   clear hgr
   by_cases hs:a.seq=seq
   ·have Hd:Hid ((k:Int)=X):=Lib.hid (by rw [if_pos (by simpa using hs)] at hd;rw [←Hk.out,hd])
    rw [decide_eq_true hs] at CP
    clear hd Hk hs
    go_wp2_with(go_at_call 97;(with_reducible refine CP.out.mono ?_);rintro e w2 ⟨rfl,hb2⟩)
    go_ret
    exact⟨by rw [←Hd.out];rfl,hb.trans (hb2.mono hb.size)⟩
   ·have Hd:Hid (Db (fun a:Acc=>decide (a.seq=seq)) (l.drop (k+1)) ((k+1:Nat):Int)=X):=Lib.hid (by rw [if_neg (by simpa using hs)] at hd;rw [←Hk.out,hd];rfl)
    rw [decide_eq_false hs] at CP
    clear hd Hk hs
    go_wp2_with(go_at_call 97;(with_reducible refine CP.out.mono ?_);rintro e w2 ⟨rfl,hb2⟩)
    go_roundw
    case rel=>exact⟨k+1,by go_num,by omega,hb.trans (hb2.mono hb.size),Hd⟩
    case measure=>simp [intOf];omega
  ·obtain rfl:k=N:=by omega
   have e1:decide ((k:Int)<k)=false:=by simp
   have Hd:Hid ((-1:Int)=X):=Lib.hid (by rw [←Hk.out,HN.out,List.drop_length];rfl)
   clear Hk
   go_wp2
   go_ret
   exact⟨by rw [←Hd.out];rfl,hb⟩
theorem Xy (a:Acc) (g:Nat) (seq:Int) (w:World) (hg:w.cell? ⟨g,0,none⟩=some (.int .i64 seq)) (hgl:g<w.heap.size) :
  Calls Tryz.prog 84 #[.agg #[.int .i64 a.seq, .bool a.store, .bool a.known, .int .u32 a.at_, .int .i64 a.many, .int .u32 a.data, .bool a.done], .pointer (some ⟨g,0,none⟩)] w fun e w'=>e = .returned (.bool (decide (seq≤a.seq)))∧Below w.heap.size w w':=by
 go_enter Tryz.func84,Tryz.ntmps84
 go_upto_region 1 with(fail)
 go_simp
 refine Au fun wa hq=>?_
 have hB:Blk wa w.heap.size 101 (Acc.cells a):=by rw [hq];exact Blk.new w _ _
 have hbl:Below w.heap.size w wa:=by rw [hq];exact(Below.refl _ _).alloc (Nat.le_refl _) _
 clear hq
 have c0:wa.cell? ⟨w.heap.size,0,none⟩=some (.int .i64 a.seq):=hB.cell 0
 have c1:=(hbl.cell (p:=⟨g,0,none⟩) hgl).trans hg
 go_wp2
 go_ret
 exact⟨rfl,hbl⟩
theorem Add (A:Option Addr) (cap:Nat) (l:List Acc) (seq:Int) (g:Nat) (w:World) (hl:l.length≤140737488355328) (hA:Eh w w.heap.size A l) (hg:w.cell? ⟨g,0,none⟩=some (.int .i64 seq)) (hgl:g<w.heap.size) :
  Calls Tryz.prog 69 #[.slice A l.length cap, .func (.func 84) #[] #[.pointer (some ⟨g,0,none⟩)]] w fun e w'=>e = .returned (.int .i64 (Db (fun a:Acc=>decide (seq≤a.seq)) l 0))∧Below w.heap.size w w':=by
 obtain⟨X,hX⟩:∃ X,Db (fun a:Acc=>decide (seq≤a.seq)) l 0=X:=⟨_,rfl⟩
 rw [hX]
 obtain⟨N,hN⟩:∃ N,N=l.length:=⟨_,rfl⟩
 rw [←hN] at hl ⊢
 have HA:=Lib.hid hA
 have HN:=Lib.hid hN
 have HX:Hid (Db (fun a:Acc=>decide (seq≤a.seq)) (l.drop 0) ((0:Nat):Int)=X):=Lib.hid (by simpa using hX)
 have HG:=Lib.hid hg
 clear hA hN hX hg
 go_enter Tryz.func69,Tryz.ntmps69
 go_upto_region 2 with(fail)
 go_loopw [8] (fun v wr=>∃ k:Nat,v = .int .i64 k∧k≤N∧Below w.heap.size w wr∧Hid (Db (fun a:Acc=>decide (seq≤a.seq)) (l.drop k) k=X)) (fun v _=>N+1 - (intOf v).toNat)
 case atStart=>exact⟨0,rfl,Nat.zero_le _,Below.refl _ _,HX⟩
 case round=>
  clear HX
  obtain⟨k,rfl,hk,hb,Hk⟩:=hrel
  by_cases hlt:k<N
  ·have hk':k<l.length:=by rw [←HN.out];exact hlt
   obtain⟨b,o,a,rfl,hgB,hs',hd',_,hcs⟩:=(HA.out.below hb).at_ hk'
   obtain⟨c0,c1,c2,c3,c4,c5,c6⟩:=hcs
   have hd:=Ix (fun a:Acc=>decide (seq≤a.seq)) l hk' (k:Int)
   have es:l[k]'hk'=a:=by
    have:=List.drop_eq_getElem_cons hk'
    rw [hd'] at this
    injection this with this
    exact this.symm
   rw [es] at hd
   clear es hs' hd'
   have hgr:=(hb.cell (p:=⟨g,0,none⟩) hgl).trans HG.out
   have hglr:g<wr.heap.size:=Nat.lt_of_lt_of_le hgl hb.size
   have CP:=Lib.hid (Xy a g seq wr hgr hglr)
   clear hgr
   by_cases hs:seq≤a.seq
   ·have Hd:Hid ((k:Int)=X):=Lib.hid (by rw [if_pos (by simpa using hs)] at hd;rw [←Hk.out,hd])
    rw [decide_eq_true hs] at CP
    clear hd Hk hs
    go_wp2_with(go_at_call 84;(with_reducible refine CP.out.mono ?_);rintro e w2 ⟨rfl,hb2⟩)
    go_ret
    exact⟨by rw [←Hd.out];rfl,hb.trans (hb2.mono hb.size)⟩
   ·have Hd:Hid (Db (fun a:Acc=>decide (seq≤a.seq)) (l.drop (k+1)) ((k+1:Nat):Int)=X):=Lib.hid (by rw [if_neg (by simpa using hs)] at hd;rw [←Hk.out,hd];rfl)
    rw [decide_eq_false hs] at CP
    clear hd Hk hs
    go_wp2_with(go_at_call 84;(with_reducible refine CP.out.mono ?_);rintro e w2 ⟨rfl,hb2⟩)
    go_roundw
    case rel=>exact⟨k+1,by go_num,by omega,hb.trans (hb2.mono hb.size),Hd⟩
    case measure=>simp [intOf];omega
  ·obtain rfl:k=N:=by omega
   have e1:decide ((k:Int)<k)=false:=by simp
   have Hd:Hid ((-1:Int)=X):=Lib.hid (by rw [←Hk.out,HN.out,List.drop_length];rfl)
   clear Hk
   go_wp2
   go_ret
   exact⟨by rw [←Hd.out];rfl,hb⟩
theorem Y7 (a:Acc) (g:Nat) (seq:Int) (w:World) (hg:w.cell? ⟨g,0,none⟩=some (.int .i64 seq)) (hgl:g<w.heap.size) :
  Calls Tryz.prog 36 #[.agg #[.int .i64 a.seq, .bool a.store, .bool a.known, .int .u32 a.at_, .int .i64 a.many, .int .u32 a.data, .bool a.done], .pointer (some ⟨g,0,none⟩)] w fun e w'=>e = .returned (.bool (decide (a.seq=seq)))∧Below w.heap.size w w':=by
 go_enter Tryz.func36,Tryz.ntmps36
 go_upto_region 1 with(fail)
 go_simp
 refine Au fun wa hq=>?_
 have hB:Blk wa w.heap.size 101 (Acc.cells a):=by rw [hq];exact Blk.new w _ _
 have hbl:Below w.heap.size w wa:=by rw [hq];exact(Below.refl _ _).alloc (Nat.le_refl _) _
 clear hq
 have c0:wa.cell? ⟨w.heap.size,0,none⟩=some (.int .i64 a.seq):=hB.cell 0
 have c1:=(hbl.cell (p:=⟨g,0,none⟩) hgl).trans hg
 go_wp2
 go_ret
 exact⟨rfl,hbl⟩
theorem Aed (A:Option Addr) (cap:Nat) (l:List Acc) (seq:Int) (g:Nat) (w:World) (hl:l.length≤140737488355328) (hA:Eh w w.heap.size A l) (hg:w.cell? ⟨g,0,none⟩=some (.int .i64 seq)) (hgl:g<w.heap.size) :
  Calls Tryz.prog 69 #[.slice A l.length cap, .func (.func 36) #[] #[.pointer (some ⟨g,0,none⟩)]] w fun e w'=>e = .returned (.int .i64 (Db (fun a:Acc=>decide (a.seq=seq)) l 0))∧Below w.heap.size w w':=by
 obtain⟨X,hX⟩:∃ X,Db (fun a:Acc=>decide (a.seq=seq)) l 0=X:=⟨_,rfl⟩
 rw [hX]
 obtain⟨N,hN⟩:∃ N,N=l.length:=⟨_,rfl⟩
 rw [←hN] at hl ⊢
 have HA:=Lib.hid hA
 have HN:=Lib.hid hN
 have HX:Hid (Db (fun a:Acc=>decide (a.seq=seq)) (l.drop 0) ((0:Nat):Int)=X):=Lib.hid (by simpa using hX)
 have HG:=Lib.hid hg
 clear hA hN hX hg
 go_enter Tryz.func69,Tryz.ntmps69
 go_upto_region 2 with(fail)
 go_loopw [8] (fun v wr=>∃ k:Nat,v = .int .i64 k∧k≤N∧Below w.heap.size w wr∧Hid (Db (fun a:Acc=>decide (a.seq=seq)) (l.drop k) k=X)) (fun v _=>N+1 - (intOf v).toNat)
 case atStart=>exact⟨0,rfl,Nat.zero_le _,Below.refl _ _,HX⟩
 case round=>
  clear HX
  obtain⟨k,rfl,hk,hb,Hk⟩:=hrel
  by_cases hlt:k<N
  ·have hk':k<l.length:=by rw [←HN.out];exact hlt
   obtain⟨b,o,a,rfl,hgB,hs',hd',_,hcs⟩:=(HA.out.below hb).at_ hk'
   obtain⟨c0,c1,c2,c3,c4,c5,c6⟩:=hcs
   have hd:=Ix (fun a:Acc=>decide (a.seq=seq)) l hk' (k:Int)
   have es:l[k]'hk'=a:=by
    have:=List.drop_eq_getElem_cons hk'
    rw [hd'] at this
    injection this with this
    exact this.symm
   rw [es] at hd
   clear es hs' hd'
   have hgr:=(hb.cell (p:=⟨g,0,none⟩) hgl).trans HG.out
   have hglr:g<wr.heap.size:=Nat.lt_of_lt_of_le hgl hb.size
   have CP:=Lib.hid (Y7 a g seq wr hgr hglr)
   clear hgr
   by_cases hs:a.seq=seq
   ·have Hd:Hid ((k:Int)=X):=Lib.hid (by rw [if_pos (by simpa using hs)] at hd;rw [←Hk.out,hd])
    rw [decide_eq_true hs] at CP
    clear hd Hk hs
    go_wp2_with(go_at_call 36;(with_reducible refine CP.out.mono ?_);rintro e w2 ⟨rfl,hb2⟩)
    go_ret
    exact⟨by rw [←Hd.out];rfl,hb.trans (hb2.mono hb.size)⟩
   ·have Hd:Hid (Db (fun a:Acc=>decide (a.seq=seq)) (l.drop (k+1)) ((k+1:Nat):Int)=X):=Lib.hid (by rw [if_neg (by simpa using hs)] at hd;rw [←Hk.out,hd];rfl)
    rw [decide_eq_false hs] at CP
    clear hd Hk hs
    go_wp2_with(go_at_call 36;(with_reducible refine CP.out.mono ?_);rintro e w2 ⟨rfl,hb2⟩)
    go_roundw
    case rel=>exact⟨k+1,by go_num,by omega,hb.trans (hb2.mono hb.size),Hd⟩
    case measure=>simp [intOf];omega
  ·obtain rfl:k=N:=by omega
   have e1:decide ((k:Int)<k)=false:=by simp
   have Hd:Hid ((-1:Int)=X):=Lib.hid (by rw [←Hk.out,HN.out,List.drop_length];rfl)
   clear Hk
   go_wp2
   go_ret
   exact⟨by rw [←Hd.out];rfl,hb⟩
section
variable {B:Nat} {w:World} {g:Nat} {C:Core} {L:Lay} {ps:List Nat} {cs:Array Value}
theorem Y1 (h:Af B w g C L ps cs) (seq:Int) (hn:C.ops.length≤1000) :
  Calls Tryz.prog 80 #[.pointer (some ⟨g,0,none⟩), .int .i64 seq] w fun e w'=>e = .returned (.int .i64 (Je C.ops seq))∧Below w.heap.size w w':=by
 have c8:=h.ops
 have hr:=h.rows.ptrs
 obtain⟨A,c,hv,_,_,_⟩:=Fj hr
 rw [hv] at c8 hr
 have hb:=(Below.refl w.heap.size w).alloc (Nat.le_refl _) (.cells #[.int .i64 seq] 3)
 have CI:=Lib.hid (Ad8 A c B C.ops ps seq w.heap.size (w.alloc (.cells #[.int .i64 seq] 3)) (by rw [h.rows.uops.len];omega) (hr.kept (Cp hb) (Classical.em _)) (h.rows.uops.kept (Cp hb) (fun p _=>by simp)) ((Blk.new w 3 #[.int .i64 seq]).cell 0) (by simp))
 have zg:=h.lt
 clear h hr hv
 go_enter Tryz.func80,Tryz.ntmps80
 go_wp2_with(go_at_call 104;(with_reducible refine CI.out.mono ?_);rintro e w2 ⟨rfl,hb2⟩)
 go_ret
 exact⟨rfl,hb.trans (hb2.mono hb.size)⟩
theorem Jz {base:Nat} {v:Value} {l:List Acc} (h:w.ownsRow base 101 7 v l.length (Dq l)):∃ A c,v = .slice A l.length c∧Eh w w.heap.size A l∧(A=none→l=[]∧c=0)∧l.length≤c∧c≤9223372036854775807:=by
 have h0:=h
 rcases h.2 with⟨rfl,hz⟩ | ⟨g,c,cur,rfl,_,_,hc,hm,_⟩
 ·have hz':=List.eq_nil_of_length_eq_zero hz
  subst hz'
  exact⟨none,0,rfl,fun h=>absurd rfl h,fun _=>⟨rfl,rfl⟩,Nat.le_refl _,by decide⟩
 ·exact⟨_,c,rfl,Eh.own h0,fun h=>(by cases h),hc,by unfold maxLen at hm;omega⟩
theorem Afs (h:Af B w g C L ps cs) (seq:Int) (hn:C.access.length≤1000) :
  Calls Tryz.prog 71 #[.pointer (some ⟨g,0,none⟩), .int .i64 seq] w fun e w'=>e = .returned (.int .i64 (Jm C.access seq))∧Below w.heap.size w w':=by
 have c8:=h.access
 obtain⟨A,c,hv,hS,_,_⟩:=Jz h.rows.access
 rw [hv] at c8
 have hb:=(Below.refl w.heap.size w).alloc (Nat.le_refl _) (.cells #[.int .i64 seq] 3)
 have CI:=Lib.hid (Ahi A c C.access seq w.heap.size (w.alloc (.cells #[.int .i64 seq] 3)) (by omega) ((hS.below hb).mono hb.size) ((Blk.new w 3 #[.int .i64 seq]).cell 0) (by simp))
 have zg:=h.lt
 clear h hS hv
 go_enter Tryz.func71,Tryz.ntmps71
 go_wp2_with(go_at_call 69;(with_reducible refine CI.out.mono ?_);rintro e w2 ⟨rfl,hb2⟩)
 go_ret
 exact⟨rfl,hb.trans (hb2.mono hb.size)⟩
end
end Go.Proofs.YtapgojgcmlnbgacGreat
