/- Parts of a proof. -/
import Derived.Test.YtapgojgcmlnbgacK27
import Derived.Test.YtapgojgcmlnbgacK28
import Derived.Test.YtapgojgcmlnbgacK26
import Derived.Test.YtapgojgcmlnbgacK16
import Derived.Test.YtapgojgcmlnbgacK10
set_option linter.unusedSimpArgs false
set_option linter.unusedVariables false
set_option maxRecDepth 100000
set_option maxHeartbeats 16000000
namespace Go.Proofs.Ytapgojgcmlnbgac
open Go.RowKit
theorem loads_any (i:Ins) (w:World):Calls Try.prog 26 #[.agg i.cells] w fun e w'=>e = .returned (.bool (loadsB i))∧Below w.heap.size w w':=by
 have hb:=(Below.refl w.heap.size w).alloc (Nat.le_refl _) (.cells i.cells 68)
 have hx:loadsB i=(decide (11≤i.op)&&decide (i.op≤15)):=rfl
 rw [hx]
 obtain⟨op,rd,r1,r2,im⟩:=i
 dsimp only
 by_cases h1:11≤op
 ·have e1:decide (11≤op)=true:=decide_eq_true h1
  rw [e1]
  by_cases h2:op≤15
  ·have e2:decide (op≤15)=true:=decide_eq_true h2
   rw [e2]
   go_enter Try.func26,Try.ntmps26
   go_wp2_with(fail)
   go_ret
   exact⟨rfl,hb⟩
  ·have e2:decide (op≤15)=false:=decide_eq_false h2
   rw [e2]
   go_enter Try.func26,Try.ntmps26
   go_wp2_with(fail)
   go_ret
   exact⟨rfl,hb⟩
 ·have e1:decide (11≤op)=false:=decide_eq_false h1
  rw [e1]
  go_enter Try.func26,Try.ntmps26
  go_wp2_with(fail)
  go_ret
  exact⟨rfl,hb⟩
theorem stores_any (i:Ins) (w:World):Calls Try.prog 32 #[.agg i.cells] w fun e w'=>e = .returned (.bool (storesB i))∧Below w.heap.size w w':=by
 have hb:=(Below.refl w.heap.size w).alloc (Nat.le_refl _) (.cells i.cells 68)
 have hx:storesB i=(decide (16≤i.op)&&decide (i.op≤18)):=rfl
 rw [hx]
 obtain⟨op,rd,r1,r2,im⟩:=i
 dsimp only
 by_cases h1:16≤op
 ·have e1:decide (16≤op)=true:=decide_eq_true h1
  rw [e1]
  by_cases h2:op≤18
  ·have e2:decide (op≤18)=true:=decide_eq_true h2
   rw [e2]
   go_enter Try.func32,Try.ntmps32
   go_wp2_with(fail)
   go_ret
   exact⟨rfl,hb⟩
  ·have e2:decide (op≤18)=false:=decide_eq_false h2
   rw [e2]
   go_enter Try.func32,Try.ntmps32
   go_wp2_with(fail)
   go_ret
   exact⟨rfl,hb⟩
 ·have e1:decide (16≤op)=false:=decide_eq_false h1
  rw [e1]
  go_enter Try.func32,Try.ntmps32
  go_wp2_with(fail)
  go_ret
  exact⟨rfl,hb⟩
theorem alone_any (i:Ins) (w:World):Calls Try.prog 24 #[.agg i.cells] w fun e w'=>e = .returned (.bool (aloneB i))∧Below w.heap.size w w':=by
 have hb:=(Below.refl w.heap.size w).alloc (Nat.le_refl _) (.cells i.cells 68)
 have hx:aloneB i=(decide (i.op=47) || decide (i.op=48)):=rfl
 rw [hx]
 obtain⟨op,rd,r1,r2,im⟩:=i
 dsimp only
 by_cases h1:op=47
 ·subst h1
  go_enter Try.func24,Try.ntmps24
  go_wp2_with(fail)
  go_ret
  exact⟨rfl,hb⟩
 ·have e1:(op==47)=false:=by simpa using h1
  have e1':decide (op=47)=false:=decide_eq_false h1
  rw [e1']
  by_cases h2:op=48
  ·subst h2
   go_enter Try.func24,Try.ntmps24
   go_wp2_with(fail)
   go_ret
   exact⟨rfl,hb⟩
  ·have e2:(op==48)=false:=by simpa using h2
   have e2':decide (op=48)=false:=decide_eq_false h2
   rw [e2']
   go_enter Try.func24,Try.ntmps24
   go_wp2_with(fail)
   go_ret
   exact⟨rfl,hb⟩
theorem loadBytes_any (op:Int) (w:World) (h0:11≤op) (h1:op≤15):Calls Try.prog 48 #[.int .i64 op] w fun e w'=>e = .returned (.int .i64 (loadBytes op))∧w=w':=by
 have built_b:Try.prog.built 141 [(0, .int .i64 1),(1, .int .i64 2),(2, .int .i64 4),(3, .int .i64 1),(4, .int .i64 2)]=some #[.int .i64 1, .int .i64 2, .int .i64 4, .int .i64 1, .int .i64 2]:=by kernel_rfl
 have ix0:∀ w,(Instr.index 141 (.agg #[.int .i64 1, .int .i64 2, .int .i64 4, .int .i64 1, .int .i64 2]) (.int .i64 0)).run Try.prog w = .ok (.int .i64 1) w:=fun _=>by kernel_rfl
 have ix1:∀ w,(Instr.index 141 (.agg #[.int .i64 1, .int .i64 2, .int .i64 4, .int .i64 1, .int .i64 2]) (.int .i64 1)).run Try.prog w = .ok (.int .i64 2) w:=fun _=>by kernel_rfl
 have ix2:∀ w,(Instr.index 141 (.agg #[.int .i64 1, .int .i64 2, .int .i64 4, .int .i64 1, .int .i64 2]) (.int .i64 2)).run Try.prog w = .ok (.int .i64 4) w:=fun _=>by kernel_rfl
 have ix3:∀ w,(Instr.index 141 (.agg #[.int .i64 1, .int .i64 2, .int .i64 4, .int .i64 1, .int .i64 2]) (.int .i64 3)).run Try.prog w = .ok (.int .i64 1) w:=fun _=>by kernel_rfl
 have ix4:∀ w,(Instr.index 141 (.agg #[.int .i64 1, .int .i64 2, .int .i64 4, .int .i64 1, .int .i64 2]) (.int .i64 4)).run Try.prog w = .ok (.int .i64 2) w:=fun _=>by kernel_rfl
 obtain rfl | rfl | rfl | rfl | rfl:op=11∨op=12∨op=13∨op=14∨op=15:=by omega
 all_goals
  go_enter Try.func48,Try.ntmps48
  go_wp2_with(refine wpList_build_to rfl 141 _ rfl [(0, .int .i64 1),(1, .int .i64 2),(2, .int .i64 4),(3, .int .i64 1),(4, .int .i64 2)] rfl _ built_b ?_)
  go_ret
  exact⟨rfl,rfl⟩
section
variable {B:Nat} {w:World} {g:Nat} {C:Core} {L:Lay} {ps:List Nat} {cs:Array Value}
theorem extract_eq {cs D:Array Value} {off n:Nat} (hs:off+n≤cs.size) (hD:D.size=n) (h:∀ i,i<n→cs[off+i]? = D[i]?):cs.extract off (off+n)=D:=by
 apply Array.ext_getElem?
 intro i
 rw [Array.getElem?_extract]
 by_cases hi:i<n
 ·rw [if_pos (by omega),h i hi]
 ·rw [if_neg (by omega),Array.getElem?_eq_none (by omega)]
theorem CoreCells.tabX (h:CoreCells cs C L) (hs:C.table.size=64):cs.extract 44 (44+64)=C.table:=extract_eq (by rw [h.size];omega) hs h.tab
theorem CoreCells.namesX (h:CoreCells cs C L) (hl:C.names.regs.length=32):cs.extract 108 (108+34)=mapCells C.names.phys C.names.regs L.freeA C.names.free.length L.freeCap:=extract_eq (by rw [h.size];omega) (mapCells_size _ _ _ _ _ hl) h.names
theorem CoreCells.regsX (h:CoreCells cs C L) (hl:C.hart.regs.length=32):cs.extract 4 (4+32)=(C.hart.regs.map (Value.int .u32)).toArray:=
 extract_eq (by rw [h.size];omega) (by simp [hl]) fun i hi=>by
  rw [h.hart i (by omega),Hart.cells_reg (by rw [hl];exact hi)]
  simp [List.getD,List.getElem?_eq_getElem (show i<C.hart.regs.length by rw [hl];exact hi)]
theorem ctab_info:(Try.prog.info? 50).map (·.size)=some 64:=by kernel_rfl
theorem cnames_info:(Try.prog.info? 53).map (·.size)=some 34:=by kernel_rfl
theorem cwords_info:(Try.prog.info? 25).map (·.size)=some 32:=by kernel_rfl
theorem cins_info:(Try.prog.info? 68).map (·.size)=some 5:=by kernel_rfl
theorem ucom_info:(Try.prog.info? 65).map (·.size)=some 11:=by kernel_rfl
theorem Uop.insX (u:Uop):u.cells.extract 5 (5+5)=u.ins.cells:=rfl
theorem Uop.comX (u:Uop):u.cells.extract 16 (16+11)=u.commit.cells:=rfl
theorem Uop.size (u:Uop):u.cells.size=27:=rfl
theorem splice_part {cs vs:Array Value} {off n:Nat} (hs:cs.size=340) (ho:off+n≤340) (hv:vs.size=n):(splice cs off vs.toList).size=340∧(∀ i,i<n→(splice cs off vs.toList)[off+i]? = vs[i]?)∧∀ j,j<off∨off+n≤j→(splice cs off vs.toList)[j]? = cs[j]? := by
 have hl:off+vs.toList.length≤cs.size:=by rw [hs];simpa [hv] using ho
 refine⟨by rw [splice_size _ _ _ hl,hs],fun i hi=>?_,fun j hj=>?_⟩
 ·rw [splice_get _ _ _ hl,if_neg (by omega),if_pos (by simp [hv];omega)]
  simp
 ·rw [splice_get _ _ _ hl]
  rcases hj with hj | hj
  ·rw [if_pos hj]
  ·rw [if_neg (by omega),if_neg (by simp [hv];omega)]
end
theorem coremay_any (a b c:Int) (w:World):Calls Try.prog 9 #[.agg #[.int .i64 a, .int .i64 b, .int .i64 c]] w fun e w'=>e = .returned (.bool (decide (1≤a)&&decide (a≤32)&&decide (33≤b)&&decide (b≤96)&&decide (1≤c)&&decide (c≤4)))∧Below w.heap.size w w':=by
 have hb:=(Below.refl w.heap.size w).alloc (Nat.le_refl _) (.cells #[.int .i64 a, .int .i64 b, .int .i64 c] 23)
 by_cases q1:1≤a
 rotate_left
 ·have e1:decide (1≤a)=false:=decide_eq_false q1
  clear q1
  rw [e1]
  go_enter Try.func9,Try.ntmps9
  go_wp2_with(fail)
  go_ret
  exact⟨rfl,hb⟩
 have e1:decide (1≤a)=true:=decide_eq_true q1
 by_cases q2:a≤32
 rotate_left
 ·have e2:decide (a≤32)=false:=decide_eq_false q2
  clear q1 q2
  rw [e1,e2]
  go_enter Try.func9,Try.ntmps9
  go_wp2_with(fail)
  go_ret
  exact⟨rfl,hb⟩
 have e2:decide (a≤32)=true:=decide_eq_true q2
 by_cases q3:33≤b
 rotate_left
 ·have e3:decide (33≤b)=false:=decide_eq_false q3
  clear q1 q2 q3
  rw [e1,e2,e3]
  go_enter Try.func9,Try.ntmps9
  go_wp2_with(fail)
  go_ret
  exact⟨rfl,hb⟩
 have e3:decide (33≤b)=true:=decide_eq_true q3
 by_cases q4:b≤96
 rotate_left
 ·have e4:decide (b≤96)=false:=decide_eq_false q4
  clear q1 q2 q3 q4
  rw [e1,e2,e3,e4]
  go_enter Try.func9,Try.ntmps9
  go_wp2_with(fail)
  go_ret
  exact⟨rfl,hb⟩
 have e4:decide (b≤96)=true:=decide_eq_true q4
 by_cases q5:1≤c
 rotate_left
 ·have e5:decide (1≤c)=false:=decide_eq_false q5
  clear q1 q2 q3 q4 q5
  rw [e1,e2,e3,e4,e5]
  go_enter Try.func9,Try.ntmps9
  go_wp2_with(fail)
  go_ret
  exact⟨rfl,hb⟩
 have e5:decide (1≤c)=true:=decide_eq_true q5
 by_cases q6:c≤4
 rotate_left
 ·have e6:decide (c≤4)=false:=decide_eq_false q6
  clear q1 q2 q3 q4 q5 q6
  rw [e1,e2,e3,e4,e5,e6]
  go_enter Try.func9,Try.ntmps9
  go_wp2_with(fail)
  go_ret
  exact⟨rfl,hb⟩
 have e6:decide (c≤4)=true:=decide_eq_true q6
 clear q1 q2 q3 q4 q5 q6
 rw [e1,e2,e3,e4,e5,e6]
 go_enter Try.func9,Try.ntmps9
 go_wp2_with(fail)
 go_ret
 exact⟨rfl,hb⟩
end Go.Proofs.Ytapgojgcmlnbgac
namespace Go.Proofs.Ytapgojgcmlnbgac
open Go Go.RowKit
def mayC (a b c:Int):Bool:=decide (1≤a)&&decide (a≤32)&&decide (33≤b)&&decide (b≤96)&&decide (1≤c)&&decide (c≤4)
def wrongC (a b c:Int) (h:Hart) (m k:Nat) (cycles:Int):Int:=
 if mayC a b c=false∨mayH h=false∨4096<m then 2 else if 3000<k then 1 else if cycles<0∨6000<cycles then 3 else 0
def shown0:Array Value:=shownCells (.slice none 0 0) hart0 (.slice none 0 0) 0 0 0
theorem cfg_info {a b c:Int}:(Try.prog.info? 23).map (·.size)=some (#[.int .i64 a, .int .i64 b, .int .i64 c]:Array Value).size:=by kernel_rfl
theorem shown_info {cs:Array Value} (hz:cs.size=40):(Try.prog.info? 34).map (·.size)=some cs.size:=by rw [hz];kernel_rfl
theorem shown0_size:shown0.size=40:=rfl
theorem shown0_one:shown0.all (·.oneCell')=true:=by kernel_rfl
theorem built_shown0:Try.prog.built 34 []=some shown0:=by kernel_rfl
theorem shown_load {w:World} {g:Nat} {cs:Array Value} (hz:cs.size=40) (hB:Blk w g 34 cs):(loadVar 34 ⟨g,0,none⟩).run Try.prog w = .ok (.agg cs) w:=by
 rw [run_loadVar_blk w g 0 34 34 cs cs.size _ hB Try.underlying34 rfl (shown_info hz) (by omega),extract_whole _ _ rfl]
theorem wpList_wantd2 {P:Program} {ops:Array Oper} {Q:Exit→Act→World→Prop} {a:Act} {w:World} {rest:List Oper} {o:Oper} (hw:Region.wanted o (yielded ops a.tmps)=true)
  (h:∀ K:Act→World→Prop,(∀ a w,wpList P ops Q rest a w→K a w)→o.wp P a w K Q):wpList P ops Q (o::rest) a w:=by
 unfold wpList
 rw [if_pos hw]
 exact Or.inl (h _ fun _ _ h=>h)
theorem runC_no (a b c:Int) (h:Hart) (A:Option Addr) (cap:Nat) (m:Nat) (A2:Option Addr) (cap2:Nat) (k:Nat) (cycles:Int) (w:World) (hh:h.regs.length=32) (hl:m≤140737488351232) (hl2:k≤4611686018427387904) (s0 : -9223372036854775808≤cycles) (s1:cycles≤9223372036854775807) (hno:wrongC a b c h m k cycles≠0) :
  Calls Try.prog 6 #[.agg #[.int .i64 a, .int .i64 b, .int .i64 c], .agg h.cells, .slice A m cap, .slice A2 k cap2, .int .i64 cycles] w fun e w'=>e = .returned (.tuple #[.agg shown0, .int .i64 (wrongC a b c h m k cycles)])∧Below w.heap.size w w':=by
 have CC:=Lib.hid (fun W=>coremay_any a b c W)
 have CM:=Lib.hid (fun W=>hmay_any h W hh)
 obtain⟨X,hx⟩:∃ X,wrongC a b c h m k cycles=X:=⟨_,rfl⟩
 rw [hx] at hno ⊢
 unfold wrongC mayC at hx
 generalize (decide (1≤a)&&decide (a≤32)&&decide (33≤b)&&decide (b≤96)&&decide (1≤c)&&decide (c≤4))=mc at *
 rcases mc with _ | _
 focus
  obtain rfl:X=2:=by rw [←hx,if_pos (Or.inl rfl)]
  clear hx hno
 rotate_left 1
 rcases hm:mayH h with _ | _
 focus
  rw [hm] at CM hx
  obtain rfl:X=2:=by rw [←hx,if_pos (Or.inr (Or.inl rfl))]
  clear hx hno hm
 rotate_left 1
 rw [hm] at CM hx
 by_cases hN:4096<m
 focus
  obtain rfl:X=2:=by rw [←hx,if_pos (Or.inr (Or.inr hN))]
  have f1:decide ((4096:Int)<(m:Int))=true:=decide_eq_true (by omega)
  clear hx hno hm hN
 rotate_left 1
 rw [if_neg (by simp;omega)] at hx
 have f1:decide ((4096:Int)<(m:Int))=false:=decide_eq_false (by omega)
 by_cases hK:3000<k
 focus
  obtain rfl:X=1:=by rw [←hx,if_pos hK]
  have f2:decide ((3000:Int)<(k:Int))=true:=decide_eq_true (by omega)
  clear hx hno hm hK
 rotate_left 1
 rw [if_neg hK] at hx
 have f2:decide ((3000:Int)<(k:Int))=false:=decide_eq_false (by omega)
 by_cases hs:cycles<0
 focus
  obtain rfl:X=3:=by rw [←hx,if_pos (Or.inl hs)]
  have f3:decide (cycles<0)=true:=decide_eq_true hs
  clear hx hno hm hs hN hK
 rotate_left 1
 by_cases hs2:6000<cycles
 focus
  obtain rfl:X=3:=by rw [←hx,if_pos (Or.inr hs2)]
  have f3:decide (cycles<0)=false:=decide_eq_false hs
  have f4:decide (6000<cycles)=true:=decide_eq_true hs2
  clear hx hno hm hs hs2 hN hK
 rotate_left 1
 exact absurd (by rw [←hx,if_neg (by omega)]) hno
 all_goals
  go_enter Try.func6,Try.ntmps6
  go_upto_region 1 with(fail)
  go_simp
  refine wp_gen fun wa hq=>?_
  have hC:Blk wa w.heap.size 23 #[.int .i64 a, .int .i64 b, .int .i64 c]:=by rw [hq];exact((Blk.new w _ _).alloc _).alloc _
  have hH:Blk wa (w.heap.size+1) 27 h.cells:=by rw [hq];exact(Blk.newAt (w.alloc _) 27 _ (by simp)).alloc _
  have hR:Blk wa (w.heap.size+2) 34 shown0:=by rw [hq];exact Blk.newAt ((w.alloc _).alloc _) 34 _ (by simp)
  have hbl:Below w.heap.size w wa:=by rw [hq];exact(((Below.refl _ _).alloc (Nat.le_refl _) _).alloc (by simp) _).alloc (by simp;omega) _
  clear hq
  go_wp2_with(first
   |(refine wpList_load_all rfl 23 _ rfl w.heap.size rfl 23 _ _ hC Try.underlying23 rfl cfg_info ?_)
   |(go_at_call 9;(with_reducible refine(CC.out _).mono ?_);rintro e w1 ⟨rfl,hb1⟩;replace hbl:=hbl.trans (hb1.mono hbl.size);replace hR:=hR.ext hb1;replace hH:=hH.ext hb1;clear hb1)
   |(refine wpList_wantd2 rfl fun K hK=>?_;refine wp_load_all 27 _ rfl (w.heap.size+1) rfl 27 _ _ hH Try.underlying27 rfl (hart_info hh) ?_;refine hK _ _ ?_)
   |(go_at_call 10;(with_reducible refine(CM.out _).mono ?_);rintro e w2 ⟨rfl,hb2⟩;replace hbl:=hbl.trans (hb2.mono hbl.size);replace hR:=hR.ext hb2;clear hb2)
   |(refine wpList_build_to rfl 34 _ rfl [] rfl _ built_shown0 ?_)
   |(refine wpList_store_all rfl 34 _ _ rfl (w.heap.size+2) shown0 rfl rfl 34 _ hR (shown_info shown0_size) rfl shown0_one ?_;intro w6 hB6 hg6))
  refine bodyPost_ret (results_ct rfl rfl rfl (shown_load shown0_size hB6)) rfl ?_
  exact⟨rfl,below_grown hbl hg6 hbl.size (by omega)⟩
end Go.Proofs.Ytapgojgcmlnbgac
namespace Go.Proofs.Ytapgojgcmlnbgac
open Go
structure UF (u:Uop):Prop where
 a:0≤u.a∧u.a<96
 b:0≤u.b∧u.b<96
 dest:0≤u.dest∧u.dest<96
 old:0<u.dest→0≤u.old∧u.old<96
 rd:0≤u.ins.rd∧u.ins.rd≤31
 rs1:0≤u.ins.rs1∧u.ins.rs1≤31
 rs2:0≤u.ins.rs2∧u.ins.rs2≤31
 pc:0≤u.pc∧u.pc≤4294967295
 next:0≤u.next∧u.next≤4294967295
 seq:0≤u.seq
 com:u.state=2→u.commit.Wf
theorem nok_old {N:RMap} (hg:NGood N) {u:Uop} (h:NOk N u) (hd:0<u.dest):0≤u.old∧u.old<96:=by
 have:=h.dst hd
 rw [this.2.2.2]
 exact hg.reg_range (by omega)
theorem Inv.uf {C:Core} (h:Inv C):∀ u∈C.ops,UF u:=by
 intro u hu
 obtain⟨L,R,e⟩:=List.append_of_mem hu
 obtain⟨N,hgN,_,hcN,_⟩:=h.names
 have hO:=h.ops L u R e
 rw [e] at hcN
 obtain⟨K,_,hK,hNk,_⟩:=chain_regs hcN hgN rfl
 obtain⟨q1,q2,q3⟩:=uop_regs hcN hgN hO
 have hins:(0≤u.ins.rd∧u.ins.rd≤31)∧(0≤u.ins.rs1∧u.ins.rs1≤31)∧0≤u.ins.rs2∧u.ins.rs2≤31:=by
  by_cases hc:u.cause=0
  ·exact(is_op (Inv.insOk hO hc)).2
  ·have hf:=hO.fetch
   rcases seeAt_cases (known L) C.mem u.seq u.pc with⟨h1,_⟩ | ⟨_,h2⟩
   ·rw [←hf] at h1;exact absurd h1 hc
   ·rw [←hf] at h2
    have h2:u.ins=insN:=h2
    rw [h2]
    decide
 refine⟨q1,q2,q3,nok_old hK hNk,hins.1,hins.2.1,hins.2.2,hO.pc,hO.next,hO.seq.1,fun hs=>?_⟩
 by_cases hc:u.cause=0
 ·rw [hO.com hc hs]
  exact exec_wf h hins.1 hO.pc
 ·rw [(hO.fault hc).2.1]
  have:=hO.cause
  exact trapC_wf hO.pc (by omega)
theorem loadBytes_bd (op:Int):0≤loadBytes op∧loadBytes op≤4:=by
 unfold loadBytes
 generalize (op - 11).toNat=k
 match k with
 |0=>decide
 |1=>decide
 |2=>decide
 |3=>decide
 |4=>decide
 |k+5=>simp [List.getD]
theorem acc_wf {words:List Int} {u:Uop} (h:UF u) (hs:u.seq≤9223372036854775807):(accOf words u).Wf:=by
 have hz:=h.seq
 unfold accOf
 split
 ·rename_i hk
  have h2:u.state=2:=by unfold stKnown at hk;simp at hk;exact hk.1.2
  have hw:=h.com h2
  have hm:=hw.many
  unfold accS
  exact⟨hw.at_.1,hw.at_.2,hw.data.1,hw.data.2,by show -9223372036854775808≤u.seq;omega,hs,by show -9223372036854775808≤u.commit.many;omega,by show u.commit.many≤9223372036854775807;omega⟩
 ·split
  ·have hm:=loadBytes_bd u.ins.op
   have hb:=u32_bd (wordOf words u.a+u.ins.imm)
   exact⟨hb.1,hb.2,Int.le_refl 0,(by show(0:Int)≤4294967295;omega),by show -9223372036854775808≤u.seq;omega,hs,by show -9223372036854775808≤loadBytes u.ins.op;omega,by show loadBytes u.ins.op≤9223372036854775807;omega⟩
  ·exact⟨Int.le_refl 0,(by show(0:Int)≤4294967295;omega),Int.le_refl 0,(by show(0:Int)≤4294967295;omega),by show -9223372036854775808≤u.seq;omega,hs,(by show(-9223372036854775808:Int)≤0;omega),(by show(0:Int)≤9223372036854775807;omega)⟩
theorem NChain.free_len {M:RMap}:∀ {L:List Uop} {N:RMap},NChain N L M→M.free.length≤N.free.length
 |[],_,h=>by cases h;exact Nat.le_refl _
 |u::L,N,h=>by
  have:=NChain.free_len h.2
  have h2:(nextN N u).free.length≤N.free.length:=by
   unfold nextN
   split
   ·simp
   ·exact Nat.le_refl _
  omega
theorem Inv.free_len {C:Core} (h:Inv C):C.names.free.length≤64:=by
 obtain⟨N,hg,hl,hc,_⟩:=h.names
 have h1:=hc.free_len
 have h2:=hg.phys
 have h3:=hg.len
 unfold RMap.all at hl
 rw [List.length_append,h3] at hl
 omega
theorem filter_len {α β:Type} (p:α→Bool) (f:α→β) (l:List α):((l.filter p).map f).length≤l.length:=by
 rw [List.length_map]
 exact List.length_filter_le _ _
theorem Inv.lens {C:Core} (h:Inv C):C.ops.length≤32∧C.slots.length≤32∧C.access.length≤32:=by
 have h1:=h.len
 have h2:=h.cfg.1
 refine⟨by omega,by rw [h.slots,List.length_map];omega,?_⟩
 rw [h.access]
 have:=filter_len memB (accOf C.words) C.ops
 omega
theorem Inv.acc_wf {C:Core} (h:Inv C) (hs:C.seq≤9223372036854775807):∀ a∈C.access,a.Wf:=by
 intro a ha
 rw [h.access] at ha
 obtain⟨u,hu,rfl⟩:=List.mem_map.1 ha
 have hu:=(List.mem_filter.1 hu).1
 refine Go.Proofs.Ytapgojgcmlnbgac.acc_wf (h.uf u hu) ?_
 obtain⟨L,R,e⟩:=List.append_of_mem hu
 have:=(h.ops L u R e).seq
 omega
theorem cut_found {C:Core} (hs:C.slots=C.ops.map slotOf) (seq:Int):∀ s∈cutO C.slots seq,∃ k:Nat,findU C.ops s=(k:Int)∧k<C.ops.length:=by
 intro s hm
 unfold cutO at hm
 rw [List.mem_reverse,List.mem_map] at hm
 obtain⟨x,hx,rfl⟩:=hm
 have hx:=(List.mem_filter.1 hx).1
 rw [hs] at hx
 obtain⟨u,hu,rfl⟩:=List.mem_map.1 hx
 rcases idxP_cases (fun v:Uop=>decide (v.seq=u.seq)) C.ops 0 with⟨h1,h2⟩ | ⟨i,x,h1,h2,_⟩
 ·have:=h2 u hu
  simp at this
 ·exact⟨i,by
   show idxP (fun v:Uop=>decide (v.seq=u.seq)) C.ops ((0:Nat):Int)=_
   rw [h1,Nat.zero_add],(List.getElem?_eq_some_iff.1 h2).1⟩
theorem found_of {ops:List Uop} {s:Int} (h:∃ u∈ops,u.seq=s):∃ k:Nat,findU ops s=(k:Int)∧k<ops.length:=by
 obtain⟨u,hu,rfl⟩:=h
 rcases idxP_cases (fun v:Uop=>decide (v.seq=u.seq)) ops 0 with⟨h1,h2⟩ | ⟨i,x,h1,h2,_⟩
 ·have:=h2 u hu
  simp at this
 ·exact⟨i,by
   show idxP (fun v:Uop=>decide (v.seq=u.seq)) ops ((0:Nat):Int)=_
   rw [h1,Nat.zero_add],(List.getElem?_eq_some_iff.1 h2).1⟩
theorem found_acc {l:List Acc} {s:Int} (h:∃ a∈l,a.seq=s):∃ k:Nat,findA l s=(k:Int)∧k<l.length:=by
 obtain⟨u,hu,rfl⟩:=h
 rcases idxP_cases (fun v:Acc=>decide (v.seq=u.seq)) l 0 with⟨h1,h2⟩ | ⟨i,x,h1,h2,_⟩
 ·have:=h2 u hu
  simp at this
 ·exact⟨i,by
   show idxP (fun v:Acc=>decide (v.seq=u.seq)) l ((0:Nat):Int)=_
   rw [h1,Nat.zero_add],(List.getElem?_eq_some_iff.1 h2).1⟩
theorem wrongGo_seq (l:List Acc) (seq:Int):∀ (r:List Acc),(wrongGo l seq r).2=true→∃ a∈l,a.seq=(wrongGo l seq r).1
 |[],h=>by cases h
 |s::r,h=>by
  unfold wrongGo at h ⊢
  split at h
  ·rename_i hs
   rw [if_pos hs]
   rw [wrong_min] at h ⊢
   rcases(min_spec (victA s) (·.seq) l (0,false)).1 h with⟨h1,_⟩ | ⟨a,ha,_,h2⟩
   ·cases h1
   ·exact⟨a,ha,h2.symm⟩
  ·rename_i hs
   rw [if_neg hs]
   exact wrongGo_seq l seq r h
theorem first_found {ops:List Uop} {acc:List Acc} (hacc:∀ a∈acc,∃ u∈ops,u.seq=a.seq) (seq at_ many:Int) (h:(ops.foldl (firstStep seq at_ many) (wrongP acc seq)).2=true) :
  ∃ k:Nat,findU ops (ops.foldl (firstStep seq at_ many) (wrongP acc seq)).1=(k:Int)∧k<ops.length:=by
 rw [first_min] at h ⊢
 refine found_of ?_
 rcases(min_spec (victU seq at_ many) (·.seq) ops (wrongP acc seq)).1 h with⟨h1,h2⟩ | ⟨u,hu,_,h2⟩
 ·obtain⟨a,ha,e⟩:=wrongGo_seq acc seq acc h1
  obtain⟨u,hu,e2⟩:=hacc a ha
  exact⟨u,hu,by rw [h2,e2,e];rfl⟩
 ·exact⟨u,hu,h2.symm⟩
theorem acc_ops {ops:List Uop} {g:Uop→Acc} (hg:∀ v,(g v).seq=v.seq):∀ a∈(ops.filter memB).map g,∃ u∈ops,u.seq=a.seq:=by
 intro a ha
 obtain⟨u,hu,rfl⟩:=List.mem_map.1 ha
 exact⟨u,(List.mem_filter.1 hu).1,(hg u).symm⟩
theorem ops_acc {ops:List Uop} {g:Uop→Acc} (hg:∀ v,(g v).seq=v.seq) {u:Uop} (hu:u∈ops) (hm:memB u=true):∃ a∈(ops.filter memB).map g,a.seq=u.seq:=
 ⟨g u,List.mem_map.2 ⟨u,List.mem_filter.2 ⟨hu,hm⟩,rfl⟩,hg u⟩
structure Bd (C:Core) (N:Int):Prop where
 seq:0≤C.seq∧C.seq≤N
 taken:0≤C.taken∧C.taken≤N
 backs:0≤C.backs∧C.backs≤N
 coms:(C.commits.length:Int)≤N
 cycles:0≤C.cycles∧C.cycles≤N
theorem Bd.mono {C:Core} {N M:Int} (h:Bd C N) (hm:N≤M):Bd C M:=
 ⟨⟨h.seq.1,by have:=h.seq.2;omega⟩,⟨h.taken.1,by have:=h.taken.2;omega⟩,⟨h.backs.1,by have:=h.backs.2;omega⟩,by have:=h.coms;omega,⟨h.cycles.1,by have:=h.cycles.2;omega⟩⟩
structure Cn (C C':Core):Prop where
 seq:C'.seq=C.seq
 taken:C'.taken=C.taken
 backs:C'.backs=C.backs
 coms:C'.commits=C.commits
 cycles:C'.cycles=C.cycles
theorem Bd.same {C C':Core} {N:Int} (h:Bd C N) (k:Cn C C'):Bd C' N:=
 ⟨by rw [k.seq];exact h.seq,by rw [k.taken];exact h.taken,by rw [k.backs];exact h.backs,by rw [k.coms];exact h.coms,by rw [k.cycles];exact h.cycles⟩
theorem Bd.back {C:Core} {N:Int} (h:Bd C N) (s pc:Int):Bd (backP C s pc) (N+1):=
 ⟨⟨h.seq.1,by have:=h.seq.2;show C.seq≤N+1;omega⟩,⟨h.taken.1,by have:=h.taken.2;show C.taken≤N+1;omega⟩,by have:=h.backs;show 0≤C.backs+1∧C.backs+1≤N+1;omega,by have:=h.coms;show(C.commits.length:Int)≤N+1;omega,⟨h.cycles.1,by have:=h.cycles.2;show C.cycles≤N+1;omega⟩⟩
theorem Bd.stored {C:Core} {N:Int} (h:Bd C N) (k:Nat):Bd (storedP C k) (N+1):=by
 unfold storedP
 dsimp only
 split
 ·refine Bd.back ?_ _ _
  exact h.same ⟨rfl,rfl,rfl,rfl,rfl⟩
 ·refine Bd.mono (N:=N) ?_ (by omega)
  exact h.same ⟨rfl,rfl,rfl,rfl,rfl⟩
theorem putW32_cn (C:Core) (d x:Int):Cn C (putW32 C d x):=by
 unfold putW32
 split<;>exact⟨rfl,rfl,rfl,rfl,rfl⟩
theorem Cn.trans {A B C:Core} (h:Cn A B) (k:Cn B C):Cn A C:=
 ⟨k.seq.trans h.seq,k.taken.trans h.taken,k.backs.trans h.backs,k.coms.trans h.coms,k.cycles.trans h.cycles⟩
theorem Bd.complete {C:Core} {N:Int} (h:Bd C N) (k:Nat):Bd (completeP C k) (N+2):=by
 unfold completeP
 dsimp only
 generalize (if loadsB (C.op k).ins=true then loadC C (C.op k) else (doesP (C.op k).ins (regsP C (C.op k)) C.mem,C.access))=l
 have h1:Cn C { C with access:=l.2 }:=⟨rfl,rfl,rfl,rfl,rfl⟩
 have h2:=h1.trans (putW32_cn { C with access:=l.2 } (C.op k).dest l.1.value)
 generalize putW32 { C with access:=l.2 } (C.op k).dest l.1.value=c1 at *
 have h3:Cn C (finishP { c1 with ops:=C.ops.set k { C.op k with commit:=l.1 } } k):=h2.trans ⟨rfl,rfl,rfl,rfl,rfl⟩
 generalize finishP { c1 with ops:=C.ops.set k { C.op k with commit:=l.1 } } k=c2 at *
 have hb:=h.same h3
 split
 ·refine Bd.mono (N:=N+1) ?_ (by omega)
  have:=hb.back ((C.op k).seq+1) (C.op k).pc
  exact this.same ⟨rfl,rfl,rfl,rfl,rfl⟩
 ·have hc:Bd (if (((C.op k).guessed&&decide (C.word (C.op k).dest≠l.1.value)) || decide (l.1.next≠(C.op k).next))=true then backP { c2 with ops:=c2.ops.set k { c2.op k with next:=l.1.next } } ((C.op k).seq+1) l.1.next else c2) (N+1):=by
   split
   ·refine Bd.back ?_ _ _
    exact hb.same ⟨rfl,rfl,rfl,rfl,rfl⟩
   ·exact hb.mono (by omega)
  generalize (if (((C.op k).guessed&&decide (C.word (C.op k).dest≠l.1.value)) || decide (l.1.next≠(C.op k).next))=true then backP { c2 with ops:=c2.ops.set k { c2.op k with next:=l.1.next } } ((C.op k).seq+1) l.1.next else c2)=c3 at *
  split
  ·exact(hc.stored k).mono (by omega)
  ·exact hc.mono (by omega)
theorem begin_cn (C:Core) (k:Nat) (now head:Int):Cn C (beginP C k now head).2:=by
 unfold beginP
 dsimp only
 split
 ·exact⟨rfl,rfl,rfl,rfl,rfl⟩
 split
 ·exact⟨rfl,rfl,rfl,rfl,rfl⟩
 split
 ·split
  ·have:=putW32_cn { C with script:=C.script.tail } (C.op k).dest (u32 ((valueP (vlOf C.table (C.op k).pc) (C.op k).pc).1+headP C.script / 64))
   exact⟨this.seq,this.taken,this.backs,this.coms,this.cycles⟩
  ·exact⟨rfl,rfl,rfl,rfl,rfl⟩
 ·exact⟨rfl,rfl,rfl,rfl,rfl⟩
theorem Bd.fetch {C:Core} {N:Int} (h:Bd C N):Bd (fetchC C).2 (N+1):=by
 have key:∀ C':Core,C'.seq=C.seq+1→C'.taken=C.taken+1→C'.backs=C.backs→C'.commits=C.commits→C'.cycles=C.cycles→Bd C' (N+1):=fun C' e1 e2 e3 e4 e5=>by
  have h1:=h.seq
  have h2:=h.taken
  have h3:=h.backs
  have h4:=h.coms
  have h5:=h.cycles
  exact⟨by rw [e1];omega,by rw [e2];omega,by rw [e3];omega,by rw [e4];omega,by rw [e5];omega⟩
 unfold fetchC
 split
 ·exact h.mono (by omega)
 split
 ·exact h.mono (by omega)
 ·dsimp only
  split
  ·exact key _ rfl rfl rfl rfl rfl
  ·exact key _ rfl rfl rfl rfl rfl
theorem learn_cn (C:Core) (u:Uop):Cn C (learnP C u):=by
 unfold learnP
 split
 ·exact⟨rfl,rfl,rfl,rfl,rfl⟩
 split<;>exact⟨rfl,rfl,rfl,rfl,rfl⟩
theorem Bd.gone {C:Core} {N:Int} (h:Bd C N):Bd (goneOne C) (N+1):=by
 unfold goneOne
 dsimp only
 have h1:=h.seq
 have h2:=h.taken
 have h3:=h.backs
 have h4:=h.coms
 have h5:=h.cycles
 generalize hc:({ C with ops:=C.ops.tail,hart:=applyH (C.op 0).commit C.hart,mem:=applyM (C.op 0).commit C.mem,commits:=C.commits++[(C.op 0).commit],names:=if 0<(C.op 0).dest then (giveP C.names (C.op 0).old).getD RMap.zero else C.names }:Core)=c1
 have hb:Bd c1 (N+1):=by
  rw [←hc]
  exact⟨by show 0≤C.seq∧C.seq≤N+1;omega,by show 0≤C.taken∧C.taken≤N+1;omega,by show 0≤C.backs∧C.backs≤N+1;omega,by show(((C.commits++[(C.op 0).commit]).length:Nat):Int)≤N+1;rw [List.length_append];simp;omega,by show 0≤C.cycles∧C.cycles≤N+1;omega⟩
 have hl:=hb.same (learn_cn c1 (C.op 0))
 exact hl.same ⟨rfl,rfl,rfl,rfl,rfl⟩
theorem Bd.goneP:∀ (n:Nat) {C:Core} {N:Int},Bd C N→Bd (goneP n C) (N+n)
 |0,_,_,h=>h.mono (by omega)
 |n+1,C,N,h=>by
  unfold Go.Proofs.Ytapgojgcmlnbgac.goneP
  split
  ·exact h.gone.mono (by omega)
  ·exact(Bd.goneP n h.gone).mono (by omega)
theorem Bd.commit {C:Core} {N:Int} (h:Bd C N) (hw:0≤C.wide∧C.wide≤4):Bd (commitP C) (N+4):=by
 unfold commitP
 have:=popK_most C.slots C.wide hw.1
 have h2:Bd { C with slots:=C.slots.drop (popK C.slots C.wide) } N:=h.same ⟨rfl,rfl,rfl,rfl,rfl⟩
 exact(Bd.goneP (popK C.slots C.wide) h2).mono (by omega)
theorem Bd.finishAll (now:Int):∀ (n k:Nat) {C:Core} {N:Int},Bd C N→Bd (finishAll n k now C) (N+2*n)
 |0,_,_,_,h=>h.mono (by omega)
 |n+1,k,C,N,h=>by
  unfold Go.Proofs.Ytapgojgcmlnbgac.finishAll
  split
  ·refine(Bd.finishAll now n (k+1) (N:=N+2) ?_).mono (by omega)
   split
   ·exact h.complete k
   ·exact h.mono (by omega)
  ·exact h.mono (by omega)
theorem Bd.beginAll (now:Int):∀ (n k:Nat) (s:Int) {C:Core} {N:Int},Bd C N→Bd (beginAll n k s now C) N
 |0,_,_,_,_,h=>h
 |n+1,k,s,C,N,h=>by
  unfold Go.Proofs.Ytapgojgcmlnbgac.beginAll
  split
  ·exact Bd.beginAll now n (k+1) _ (h.same (begin_cn _ _ _ _))
  ·exact h
theorem Bd.fetchAll:∀ (n:Nat) {C:Core} {N:Int},Bd C N→Bd (fetchAll n C) (N+n)
 |0,_,_,h=>h.mono (by omega)
 |n+1,C,N,h=>by
  unfold Go.Proofs.Ytapgojgcmlnbgac.fetchAll
  split
  ·exact(Bd.fetchAll n h.fetch).mono (by omega)
  ·exact h.fetch.mono (by omega)
structure Fine (C:Core):Prop where
 slots:C.slots=C.ops.map slotOf
 lens:C.ops.length≤32∧C.slots.length≤32∧C.access.length≤32
 free:C.names.free.length≤64
 uf:∀ u∈C.ops,UF u
 acc:∀ a∈C.access,∃ u∈C.ops,u.seq=a.seq
 wf:C.seq≤9223372036854775807→∀ a∈C.access,a.Wf
theorem Fine.found {C:Core} (h:Fine C) (seq:Int):∀ s∈cutO C.slots seq,∃ k:Nat,findU C.ops s=(k:Int)∧k<C.ops.length:=cut_found h.slots seq
theorem Fine.undo {C:Core} (h:Fine C):∀ u∈C.ops,(0≤u.ins.rd∧u.ins.rd≤31)∧(0<u.dest→0≤u.old∧u.old<96):=fun u hu=>⟨(h.uf u hu).rd,(h.uf u hu).old⟩
theorem Inv.fine {C:Core} (h:Inv C):Fine C:=
 ⟨h.slots,h.lens,h.free_len,h.uf,by rw [h.access];exact acc_ops (accOf_seq _),h.acc_wf⟩
theorem entD_wf (C:Core) {u:Uop} (l:Com) (hf:UF u) (hs:u.seq≤9223372036854775807):(entD C u l).Wf:=by
 have hz:=hf.seq
 unfold entD
 split
 ·have hm:=loadBytes_bd u.ins.op
  have hb:=u32_bd (C.word u.a+u.ins.imm)
  exact⟨hb.1,hb.2,Int.le_refl 0,(by show(0:Int)≤4294967295;omega),by show -9223372036854775808≤u.seq;omega,hs,by show -9223372036854775808≤loadBytes u.ins.op;omega,by show loadBytes u.ins.op≤9223372036854775807;omega⟩
 ·exact⟨Int.le_refl 0,(by show(0:Int)≤4294967295;omega),Int.le_refl 0,(by show(0:Int)≤4294967295;omega),by show -9223372036854775808≤u.seq;omega,hs,(by show(-9223372036854775808:Int)≤0;omega),(by show(0:Int)≤9223372036854775807;omega)⟩
theorem coreD_fine {C:Core} (h:Inv C) {L R:List Uop} {u:Uop} (ho:C.ops=L++u::R) {l:Com} {u':Uop} (hu:UF u') (hs:u'.seq=u.seq):Fine (coreD C L R u l u' (entD C u l)):=by
 have hl:(L++u'::R).length=C.ops.length:=by rw [ho];simp
 have h1:=h.lens
 have huf:=h.uf
 have huo:UF u:=huf u (by rw [ho];simp)
 have hsu:u.seq<C.seq:=(h.ops L u R ho).seq.2
 have hv:∀ v∈L++u'::R,UF v∧v.seq<C.seq:=fun v hv=>by
  rcases List.mem_append.1 hv with hv | hv
  ·obtain⟨X,Y,e⟩:=List.append_of_mem hv
   exact⟨huf v (by rw [ho];simp [hv]),(h.ops X v (Y++u::R) (by rw [ho,e];simp)).seq.2⟩
  ·rcases List.mem_cons.1 hv with rfl | hv
   ·exact⟨hu,by rw [hs];exact hsu⟩
   ·obtain⟨X,Y,e⟩:=List.append_of_mem hv
    exact⟨huf v (by rw [ho];simp [hv]),(h.ops (L++u::X) v Y (by rw [ho,e];simp)).seq.2⟩
 refine⟨rfl,⟨by show(L++u'::R).length≤32;omega,by show((L++u'::R).map slotOf).length≤32;rw [List.length_map];omega,?_⟩,h.free_len,fun v hv'=>(hv v hv').1,acc_ops (gD_seq C u _),fun hq a ha=>?_⟩
 ·have:=filter_len memB (gD C u (entD C u l)) (L++u'::R)
  show(((L++u'::R).filter memB).map (gD C u (entD C u l))).length≤32
  omega
 ·obtain⟨v,hv',rfl⟩:=List.mem_map.1 ha
  obtain⟨q1,q2⟩:=hv v (List.mem_filter.1 hv').1
  have q3:v.seq≤9223372036854775807:=by
   have:C.seq≤9223372036854775807:=hq
   omega
  unfold gD
  split
  ·have hw:=entD_wf C l huo (by have:C.seq≤9223372036854775807:=hq;omega)
   exact⟨hw.at0,hw.at1,hw.data0,hw.data1,by show -9223372036854775808≤v.seq;have:=q1.seq;omega,q3,hw.many0,hw.many1⟩
  ·exact acc_wf q1 q3
theorem uD_uf {C:Core} (h:Inv C) {L R:List Uop} {u:Uop} (ho:C.ops=L++u::R):UF (uD u (execP C L u)):=by
 have hf:=h.uf u (by rw [ho];simp)
 exact⟨hf.a,hf.b,hf.dest,hf.old,hf.rd,hf.rs1,hf.rs2,hf.pc,hf.next,hf.seq,fun _=>exec_wf h hf.rd hf.pc⟩
theorem UF.next' {u:Uop} (h:UF u) {n:Int} (hn:0≤n∧n≤4294967295):UF { u with next:=n }:=⟨h.a,h.b,h.dest,h.old,h.rd,h.rs1,h.rs2,h.pc,hn,h.seq,h.com⟩
theorem Fine.setacc {C:Core} (h:Fine C) {j:Nat} {a0:Acc} (hj:C.access[j]? = some a0) {c:Com} (hc:c.Wf):Fine { C with access:=C.access.set j { a0 with known:=true,at_:=c.at_,many:=c.many,data:=c.data } }:=by
 have hm0:=List.mem_of_getElem? hj
 refine⟨h.slots,⟨h.lens.1,h.lens.2.1,by show(C.access.set j _).length≤32;rw [List.length_set];exact h.lens.2.2⟩,h.free,h.uf,fun a ha=>?_,fun hq a ha=>?_⟩
 ·rcases List.mem_or_eq_of_mem_set ha with ha | rfl
  ·exact h.acc a ha
  ·exact h.acc a0 hm0
 ·rcases List.mem_or_eq_of_mem_set ha with ha | rfl
  ·exact h.wf hq a ha
  ·have h0:=h.wf hq a0 hm0
   have hm:=hc.many
   exact⟨hc.at_.1,hc.at_.2,hc.data.1,hc.data.2,h0.seq0,h0.seq1,by show -9223372036854775808≤c.many;omega,by show c.many≤9223372036854775807;omega⟩
theorem finish_coreD {C:Core} (h:Inv C) {L R:List Uop} {u:Uop} (ho:C.ops=L++u::R) (h1:u.state=1) {l:Com×List Acc} (hl:l=if loadsB u.ins=true then loadC C u else (doesP u.ins (regsP C u) C.mem,C.access)) :
  l.1=execP C L u∧finishP (putW32 { C with access:=l.2,ops:=C.ops.set L.length { u with commit:=l.1 } } u.dest l.1.value) L.length=coreD C L R u (execP C L u) (uD u (execP C L u)) (entD C u (execP C L u)):=by
 have hlc:=loadC_eq h ho h1
 rw [←hl] at hlc
 subst hlc
 clear hl
 refine⟨rfl,?_⟩
 have hsq:=h.seqs
 rw [ho] at hsq
 unfold finishP
 rw [putW32_eq]
 have e1:C.ops.set L.length { u with commit:=execP C L u }=L++{ u with commit:=execP C L u }::R:=by rw [ho];exact set_at
 simp only [e1]
 have e2:Core.op { C with access:=((L++uD u (execP C L u)::R).filter memB).map (gD C u (entD C u (execP C L u))),words:=if 0<u.dest then C.words.set u.dest.toNat (execP C L u).value else C.words,there:=if 0<u.dest then C.there.set u.dest.toNat true else C.there,ops:=L++{ u with commit:=execP C L u }::R } L.length={ u with commit:=execP C L u }:=Core.op_at rfl
 rw [e2,set_at]
 have e3:(doneP C.slots u.seq).getD []=(L++uD u (execP C L u)::R).map slotOf:=by
  rw [h.slots,ho,slots_done hsq h1 (u':=uD u (execP C L u)) rfl rfl]
  rfl
 simp only [e3]
 rfl
theorem store_hits {C:Core} (h:Inv C) {L R:List Uop} {u:Uop} (ho:C.ops=L++u::R) (h1:u.state=1) (hs:storesB u.ins=true) (h0:(execP C L u).state=0):(execP C L u).next=u.next:=by
 have hO:=h.ops L u R ho
 have hc:u.cause=0:=by
  rcases Decidable.em (u.cause=0) with hc | hc
  ·exact hc
  ·have:=(hO.fault hc).1;omega
 rw [hO.nextS hc (by rw [hs];rfl)]
 exact exec_next (by rw [hs];rfl) h0
theorem guess_load {C:Core} (h:Inv C) {L R:List Uop} {u:Uop} (ho:C.ops=L++u::R) (hl:loadsB u.ins=false):u.guessed=false:=by
 rcases hg:u.guessed with _ | _
 ·rfl
 ·have:=((h.ops L u R ho).gs hg).2.2
  rw [hl] at this
  cases this
theorem coreD_next (C:Core) (L R:List Uop) (u:Uop) (c:Com) (n:Int) :
  ({ coreD C L R u c (uD u c) (entD C u c) with ops:=(coreD C L R u c (uD u c) (entD C u c)).ops.set L.length { uD u c with next:=n } }:Core)=coreD C L R u c { uD u c with next:=n } (entD C u c):=by
 have hset:(coreD C L R u c (uD u c) (entD C u c)).ops.set L.length { uD u c with next:=n }=L++{ uD u c with next:=n }::R:=set_at
 rw [hset]
 unfold coreD
 have e1:(L++{ uD u c with next:=n }::R).map slotOf=(L++uD u c::R).map slotOf:=by simp [slotOf]
 have e2:((L++{ uD u c with next:=n }::R).filter memB).map (gD C u (entD C u c))=((L++uD u c::R).filter memB).map (gD C u (entD C u c)):=by
  rw [List.filter_append,List.filter_append,List.filter_cons,List.filter_cons]
  have:memB { uD u c with next:=n }=memB (uD u c):=rfl
  rw [this]
  split
  ·simp [gD,uD]
  ·rfl
 rw [e1,e2]
structure CompX (X D D':Core) (k:Nat) (c:Com) (u:Uop) (wd:Int):Prop where
 trap:c.state≠0→X={ backP D (u.seq+1) u.pc with still:=true }
 miss:c.state=0→storesB u.ins=false→((u.guessed&&decide (wd≠c.value)) || decide (c.next≠u.next))=true→X=backP D' (u.seq+1) c.next
 hit:c.state=0→storesB u.ins=false→((u.guessed&&decide (wd≠c.value)) || decide (c.next≠u.next))=false→X=D
 store:c.state=0→storesB u.ins=true→c.next=u.next∧X=storedP D k
theorem compX {C:Core} (h:Inv C) {L R:List Uop} {u:Uop} (ho:C.ops=L++u::R) (h1:u.state=1) :
  CompX (completeP C L.length) (coreD C L R u (execP C L u) (uD u (execP C L u)) (entD C u (execP C L u))) (coreD C L R u (execP C L u) { uD u (execP C L u) with next:=(execP C L u).next } (entD C u (execP C L u))) L.length (execP C L u) u (C.word u.dest):=by
 have he:=complete_eq h ho h1
 have hm:missP C L u=((u.guessed&&decide (C.word u.dest≠(execP C L u).value)) || decide ((execP C L u).next≠u.next)):=rfl
 dsimp only at he
 refine⟨fun hs=>?_,fun hs hst hmi=>?_,fun hs hst hmi=>?_,fun hs hst=>?_⟩
 ·rw [he,if_pos hs]
 ·rw [he,if_neg (by rw [hs];simp),if_neg (by rw [hst];decide),hm,if_pos hmi]
 ·rw [he,if_neg (by rw [hs];simp),if_neg (by rw [hst];decide),hm,if_neg (by rw [hmi];decide)]
 ·have hn:=store_hits h ho h1 hst hs
  have hl:loadsB u.ins=false:=by
   rcases e:loadsB u.ins with _ | _
   ·rfl
   ·have:=loads_op.1 e
    have:=stores_op.1 hst
    omega
  have hg:=guess_load h ho hl
  refine⟨hn,?_⟩
  rw [he,if_neg (by rw [hs];simp),if_pos hst,hm,hg,hn]
  simp
theorem backP_len (c:Core) (s pc:Int):(backP c s pc).ops.length≤c.ops.length:=List.length_filter_le _ _
theorem storedP_len (c:Core) (k:Nat):(storedP c k).ops.length≤c.ops.length:=by
 unfold storedP
 dsimp only
 split
 ·exact backP_len _ _ _
 ·exact Nat.le_refl _
theorem completeP_len (c:Core) (k:Nat):(completeP c k).ops.length≤c.ops.length:=by
 unfold completeP
 dsimp only
 generalize (if loadsB (c.op k).ins=true then loadC c (c.op k) else (doesP (c.op k).ins (regsP c (c.op k)) c.mem,c.access))=l
 generalize putW32 { c with access:=l.2 } (c.op k).dest l.1.value=c1
 have h1:(finishP { c1 with ops:=c.ops.set k { c.op k with commit:=l.1 } } k).ops.length=c.ops.length:=by
  unfold finishP
  simp
 generalize finishP { c1 with ops:=c.ops.set k { c.op k with commit:=l.1 } } k=c2 at *
 split
 ·exact Nat.le_trans (backP_len c2 ((c.op k).seq+1) (c.op k).pc) (Nat.le_of_eq h1)
 ·have h2:(if (((c.op k).guessed&&decide (c.word (c.op k).dest≠l.1.value)) || decide (l.1.next≠(c.op k).next))=true then backP { c2 with ops:=c2.ops.set k { c2.op k with next:=l.1.next } } ((c.op k).seq+1) l.1.next else c2).ops.length≤c.ops.length:=by
   split
   ·refine Nat.le_trans (backP_len _ _ _) ?_
    show(c2.ops.set k _).length≤_
    rw [List.length_set]
    exact Nat.le_of_eq h1
   ·exact Nat.le_of_eq h1
  generalize (if (((c.op k).guessed&&decide (c.word (c.op k).dest≠l.1.value)) || decide (l.1.next≠(c.op k).next))=true then backP { c2 with ops:=c2.ops.set k { c2.op k with next:=l.1.next } } ((c.op k).seq+1) l.1.next else c2)=c3 at *
  split
  ·exact Nat.le_trans (storedP_len _ _) h2
  ·exact h2
theorem beginP_len (c:Core) (k:Nat) (now hd:Int):(beginP c k now hd).2.ops.length=c.ops.length:=by
 unfold beginP
 dsimp only
 split
 ·rfl
 split
 ·simp
 split
 ·split
  ·simp
  ·simp
 ·simp
def Sub (C C':Core):Prop:=∀ x∈C'.script,x∈C.script
theorem Sub.refl (C:Core):Sub C C:=fun _ h=>h
theorem Sub.trans {A B C:Core} (h:Sub A B) (k:Sub B C):Sub A C:=fun x hx=>h x (k x hx)
theorem Sub.of_eq {C C':Core} (h:C'.script=C.script):Sub C C':=fun x hx=>by rw [←h];exact hx
theorem tail_mem {l:List Int} {x:Int} (h:x∈l.tail):x∈l:=List.mem_of_mem_tail h
theorem storedP_script (c:Core) (k:Nat):(storedP c k).script=c.script:=by
 unfold storedP
 dsimp only
 split<;>rfl
theorem putW32_script (c:Core) (d x:Int):(putW32 c d x).script=c.script:=by
 unfold putW32
 split<;>rfl
theorem completeP_script (c:Core) (k:Nat):(completeP c k).script=c.script:=by
 unfold completeP
 dsimp only
 generalize (if loadsB (c.op k).ins=true then loadC c (c.op k) else (doesP (c.op k).ins (regsP c (c.op k)) c.mem,c.access))=l
 have h0:(putW32 { c with access:=l.2 } (c.op k).dest l.1.value).script=c.script:=putW32_script _ _ _
 generalize putW32 { c with access:=l.2 } (c.op k).dest l.1.value=c1 at *
 have h1:(finishP { c1 with ops:=c.ops.set k { c.op k with commit:=l.1 } } k).script=c.script:=h0
 generalize finishP { c1 with ops:=c.ops.set k { c.op k with commit:=l.1 } } k=c2 at *
 split
 ·exact h1
 ·have h2:(if (((c.op k).guessed&&decide (c.word (c.op k).dest≠l.1.value)) || decide (l.1.next≠(c.op k).next))=true then backP { c2 with ops:=c2.ops.set k { c2.op k with next:=l.1.next } } ((c.op k).seq+1) l.1.next else c2).script=c.script:=by
   split
   ·exact h1
   ·exact h1
  generalize (if (((c.op k).guessed&&decide (c.word (c.op k).dest≠l.1.value)) || decide (l.1.next≠(c.op k).next))=true then backP { c2 with ops:=c2.ops.set k { c2.op k with next:=l.1.next } } ((c.op k).seq+1) l.1.next else c2)=c3 at *
  split
  ·exact(storedP_script _ _).trans h2
  ·exact h2
theorem beginP_sub (c:Core) (k:Nat) (now hd:Int):Sub c (beginP c k now hd).2:=by
 unfold beginP
 dsimp only
 split
 ·exact Sub.refl c
 split
 ·exact Sub.of_eq rfl
 split
 ·split
  ·intro x hx
   have hx:x∈(putW32 { c with script:=c.script.tail } (c.op k).dest (u32 ((valueP (vlOf c.table (c.op k).pc) (c.op k).pc).1+headP c.script / 64))).script:=hx
   rw [putW32_script] at hx
   exact tail_mem hx
  ·exact fun x hx=>tail_mem hx
 ·exact Sub.of_eq rfl
theorem followP_sub (c:Core) (i:Ins) (pc:Int):∀ x∈(followP c i pc).2,x∈c.script:=by
 unfold followP
 dsimp only
 split
 ·exact fun x hx=>hx
 split
 ·exact fun x hx=>tail_mem hx
 split
 ·exact fun x hx=>tail_mem hx
 ·exact fun x hx=>hx
theorem fetchC_sub (c:Core):Sub c (fetchC c).2:=by
 unfold fetchC
 split
 ·exact Sub.refl c
 split
 ·exact Sub.refl c
 ·dsimp only
  split
  ·exact Sub.of_eq rfl
  ·exact fun x hx=>followP_sub c _ _ x hx
theorem learnP_script (c:Core) (u:Uop):(learnP c u).script=c.script:=by
 unfold learnP
 split
 ·rfl
 split<;>rfl
theorem goneOne_script (c:Core):(goneOne c).script=c.script:=by
 unfold goneOne
 dsimp only
 exact learnP_script _ _
theorem goneP_script:∀ (n:Nat) (c:Core),(goneP n c).script=c.script
 |0,_=>rfl
 |n+1,c=>by
  unfold goneP
  split
  ·exact goneOne_script c
  ·exact(goneP_script n _).trans (goneOne_script c)
theorem commitP_script (c:Core):(commitP c).script=c.script:=goneP_script _ _
theorem split_k {l:List Uop} {k:Nat} (hk:k<l.length):l=l.take k++l[k]::l.drop (k+1)∧(l.take k).length=k:=by
 refine⟨?_,by simp;omega⟩
 rw [←List.drop_eq_getElem_cons hk,List.take_append_drop]
theorem op_k {c:Core} {k:Nat} (hk:k<c.ops.length):c.op k=c.ops[k]:=by
 unfold Core.op
 simp [List.getD,List.getElem?_eq_getElem hk]
structure Lp1 (X Y:Core) (k r:Nat) (now N:Int) (S:List Int):Prop where
 good:Good X
 goes:finishAll r k now X=Y
 fuel:X.ops.length≤k+r
 bd:Bd X (N+2*k)
 sub:∀ x∈X.script,x∈S
theorem Lp1.stop {X Y:Core} {k r:Nat} {now N:Int} {S:List Int} (h:Lp1 X Y k r now N S) (hk:X.ops.length≤k):Y=X:=by
 rw [←h.goes]
 cases r with
 |zero=>rfl
 |succ r=>
  unfold finishAll
  rw [if_neg (by omega)]
theorem Lp1.skip {X Y:Core} {k r:Nat} {now N:Int} {S:List Int} (h:Lp1 X Y k r now N S) (hk:k<X.ops.length) (hn:¬ ((X.op k).state=1∧(X.op k).ready≤now)):∃ r',Lp1 X Y (k+1) r' now N S:=by
 have hf:=h.fuel
 cases r with
 |zero=>omega
 |succ r=>
  refine⟨r,h.good,?_,by omega,h.bd.mono (by omega),h.sub⟩
  rw [←h.goes]
  conv=>rhs;unfold finishAll
  rw [if_pos hk,if_neg hn]
theorem Lp1.step {X Y:Core} {k r:Nat} {now N:Int} {S:List Int} (h:Lp1 X Y k r now N S) (hk:k<X.ops.length) (hy:(X.op k).state=1∧(X.op k).ready≤now):∃ r',Lp1 (completeP X k) Y (k+1) r' now N S:=by
 have hf:=h.fuel
 cases r with
 |zero=>omega
 |succ r=>
  have hl:=completeP_len X k
  obtain⟨e1,e2⟩:=split_k hk
  have hp:=finish_part now 0 1 X (X.ops.take k) (X.ops[k]::X.ops.drop (k+1)) h.good e1
  rw [e2] at hp
  have e3:finishAll 1 k now X=completeP X k:=by
   unfold finishAll
   rw [if_pos hk,if_pos hy]
   rfl
  rw [e3] at hp
  refine⟨r,hp.good,?_,by omega,(h.bd.complete k).mono (by omega),fun x hx=>h.sub x (by rw [←completeP_script X k];exact hx)⟩
  rw [←h.goes]
  conv=>rhs;unfold finishAll
  rw [if_pos hk,if_pos hy]
structure Lp2 (X Y:Core) (k r:Nat) (s now N:Int) (S:List Int):Prop where
 good:Good X
 goes:beginAll r k s now X=Y
 fuel:X.ops.length≤k+r
 bd:Bd X N
 sub:∀ x∈X.script,x∈S
theorem Lp2.stop {X Y:Core} {k r:Nat} {s now N:Int} {S:List Int} (h:Lp2 X Y k r s now N S) (hk:¬ (k<X.ops.length∧s<X.wide)):Y=X:=by
 rw [←h.goes]
 cases r with
 |zero=>rfl
 |succ r=>
  unfold beginAll
  rw [if_neg hk]
theorem Lp2.step {X Y:Core} {k r:Nat} {s now N:Int} {S:List Int} (h:Lp2 X Y k r s now N S) (hk:k<X.ops.length) (hs:s<X.wide):∃ r',Lp2 (beginP X k now (X.op 0).seq).2 Y (k+1) r' (if (beginP X k now (X.op 0).seq).1=true then s+1 else s) now N S:=by
 have hf:=h.fuel
 cases r with
 |zero=>omega
 |succ r=>
  have hl:=beginP_len X k now (X.op 0).seq
  obtain⟨e1,e2⟩:=split_k hk
  have hg:=begin_good h.good e1 now
  rw [e2] at hg
  refine⟨r,hg,?_,by omega,h.bd.same (begin_cn _ _ _ _),fun x hx=>h.sub x (beginP_sub _ _ _ _ x hx)⟩
  have e:beginAll (r+1) k s now X=beginAll r (k+1) (if (beginP X k now (X.op 0).seq).1=true then s+1 else s) now (beginP X k now (X.op 0).seq).2:=by
   conv=>lhs;unfold beginAll
   rw [if_pos (show k<X.ops.length∧s<X.wide from⟨hk,hs⟩)]
  rw [←h.goes,e]
structure Lp3 (X Y:Core) (r:Nat) (N:Int) (S:List Int):Prop where
 good:Good X
 goes:fetchAll r X=Y
 bd:Bd X (N - r)
 sub:∀ x∈X.script,x∈S
theorem Lp3.step {X Y:Core} {r:Nat} {N:Int} {S:List Int} (h:Lp3 X Y (r+1) N S) (hy:(fetchC X).1=true):Lp3 (fetchC X).2 Y r N S:=by
 have hp:=fetch_part h.good 0
 refine⟨hp.good,?_,h.bd.fetch.mono (by omega),fun x hx=>h.sub x (fetchC_sub X x hx)⟩
 rw [←h.goes]
 conv=>rhs;unfold fetchAll
 rw [if_pos hy]
theorem Lp3.last {X Y:Core} {r:Nat} {N:Int} {S:List Int} (h:Lp3 X Y (r+1) N S) (hy:(fetchC X).1=false):Y=(fetchC X).2:=by
 rw [←h.goes]
 unfold fetchAll
 rw [if_neg (by rw [hy];decide)]
theorem goneP_len:∀ (n:Nat) (c:Core),c.hart.regs.length=32→(goneP n c).hart.regs.length=32
 |0,_,h=>h
 |n+1,c,h=>by
  have h1:(goneOne c).hart.regs.length=32:=by
   unfold goneOne
   dsimp only
   rw [learnP_eq]
   show(applyH (c.op 0).commit c.hart).regs.length=32
   unfold applyH
   split<;>simp [h]
  unfold goneP
  split
  ·exact h1
  ·exact goneP_len n _ h1
def wordsK (l:List Int) (p:Nat):List Int:=l.take p++List.replicate (96 - p) 0
def thereK (p:Nat):List Bool:=List.replicate p true++List.replicate (96 - p) false
theorem wordsK_all {l:List Int} (hl:l.length=32):wordsK l 32=l++List.replicate 64 0:=by
 unfold wordsK
 rw [List.take_of_length_le (by omega)]
theorem thereK_all:thereK 32=List.replicate 32 true++List.replicate 64 false:=rfl
theorem wordsK_len {l:List Int} (hl:l.length=32) {p:Nat} (hp:p≤32):(wordsK l p).length=96:=by
 unfold wordsK
 simp
 omega
theorem thereK_len {p:Nat} (hp:p≤96):(thereK p).length=96:=by
 unfold thereK
 simp
 omega
theorem wordsK_set {l:List Int} (hl:l.length=32) {p:Nat} (hp:p<32):(wordsK l p).set p (l.getD p 0)=wordsK l (p+1):=by
 unfold wordsK
 have e:96 - p=(96 - (p+1))+1:=by omega
 have hlt:(l.take p).length=p:=by simp;omega
 rw [e,List.replicate_succ,List.set_append_right _ _ (by omega),hlt,Nat.sub_self,List.set_cons_zero,List.take_succ_eq_append_getElem (by omega),List.append_assoc]
 simp [List.getD,List.getElem?_eq_getElem (show p<l.length by omega)]
theorem thereK_set {p:Nat} (hp:p<96):(thereK p).set p true=thereK (p+1):=by
 unfold thereK
 have e:96 - p=(96 - (p+1))+1:=by omega
 rw [e,List.replicate_succ,List.set_append_right _ _ (by simp),List.length_replicate,Nat.sub_self,List.set_cons_zero,List.replicate_succ',List.append_assoc]
 rfl
theorem finishAll_good (now:Int) (n:Nat) {C:Core} (h:Good C):Good (finishAll n 0 now C)∧(finishAll n 0 now C).wide=C.wide:=by
 have:=finish_part now 0 n C [] C.ops h rfl
 exact⟨this.good,this.mid.wide⟩
theorem beginAll_good (now:Int) (n:Nat) (s:Int) {C:Core} (h:Good C):Good (beginAll n 0 s now C)∧(beginAll n 0 s now C).wide=C.wide:=by
 have:=begin_part now n s C [] C.ops h rfl
 exact⟨this.good,this.mid.wide⟩
theorem finishAll_sub (now:Int):∀ (n k:Nat) (C:Core),Sub C (finishAll n k now C)
 |0,_,C=>Sub.refl C
 |n+1,k,C=>by
  unfold finishAll
  split
  ·refine Sub.trans ?_ (finishAll_sub now n (k+1) _)
   split
   ·exact Sub.of_eq (completeP_script C k)
   ·exact Sub.refl C
  ·exact Sub.refl C
theorem beginAll_sub (now:Int):∀ (n k:Nat) (s:Int) (C:Core),Sub C (beginAll n k s now C)
 |0,_,_,C=>Sub.refl C
 |n+1,k,s,C=>by
  unfold beginAll
  split
  ·exact Sub.trans (beginP_sub C k now _) (beginAll_sub now n (k+1) _ _)
  ·exact Sub.refl C
theorem fetchAll_sub:∀ (n:Nat) (C:Core),Sub C (fetchAll n C)
 |0,C=>Sub.refl C
 |n+1,C=>by
  unfold fetchAll
  split
  ·exact Sub.trans (fetchC_sub C) (fetchAll_sub n _)
  ·exact fetchC_sub C
theorem cycleP_sub (C:Core):Sub C (cycleP C):=by
 unfold cycleP
 dsimp only
 have h1:Sub C (commitP { C with cycles:=C.cycles+1 }):=Sub.of_eq (commitP_script _)
 split
 ·exact h1
 ·exact Sub.trans (Sub.trans (Sub.trans h1 (finishAll_sub _ _ _ _)) (beginAll_sub _ _ _ _ _)) (fetchAll_sub _ _)
theorem Bd.cycle {C:Core} {N:Int} (h:Bd C N) (hG:Good C):Bd (cycleP C) (N+100):=by
 have hG0:=tick_good hG
 have h0:Bd { C with cycles:=C.cycles+1 } (N+1):=by
  have hh:=h.mono (M:=N+1) (by omega)
  have hc:=h.cycles
  exact⟨hh.seq,hh.taken,hh.backs,hh.coms,by show 0≤C.cycles+1∧C.cycles+1≤N+1;omega⟩
 have h1:Bd (commitP { C with cycles:=C.cycles+1 }) (N+5):=(h0.commit (by have:=hG0.inv.cfg;omega)).mono (by omega)
 obtain⟨_,_,_,hg,_,_⟩:=commit_ran hG0
 unfold cycleP
 dsimp only
 generalize commitP { C with cycles:=C.cycles+1 }=c1 at *
 split
 ·exact h1.mono (by omega)
 ·rename_i hs
  have hG1:Good c1:=by
   rcases hg with hg | hg
   ·exact absurd hg hs
   ·exact hg
  have hl:=hG1.inv.lens.1
  have hw:=hG1.inv.cfg
  obtain⟨g2,w2⟩:=finishAll_good C.cycles c1.ops.length hG1
  have h2:=Bd.finishAll C.cycles c1.ops.length 0 h1
  generalize Go.Proofs.Ytapgojgcmlnbgac.finishAll c1.ops.length 0 C.cycles c1=c2 at *
  obtain⟨g3,w3⟩:=beginAll_good C.cycles c2.ops.length 0 g2
  have h3:=Bd.beginAll C.cycles c2.ops.length 0 0 h2
  generalize Go.Proofs.Ytapgojgcmlnbgac.beginAll c2.ops.length 0 0 C.cycles c2=c3 at *
  exact(Bd.fetchAll c3.wide.toNat h3).mono (by omega)
structure Lp4 (X Y:Core) (r:Nat) (N:Int) (S:List Int):Prop where
 ok:X.hart.state≠0∨∃ D,Between X D
 goes:cyclesP r X=Y
 bd:Bd X N
 sub:∀ x∈X.script,x∈S
 hart:X.hart.regs.length=32
theorem Lp4.stop {X Y:Core} {r:Nat} {N:Int} {S:List Int} (h:Lp4 X Y r N S) (hs:r=0∨X.hart.state≠0):Y=X:=by
 rw [←h.goes]
 cases r with
 |zero=>rfl
 |succ r=>
  unfold cyclesP
  rw [if_neg (by rcases hs with hs | hs;cases hs;exact hs)]
theorem Lp4.step {X Y:Core} {r:Nat} {N:Int} {S:List Int} (h:Lp4 X Y (r+1) N S) (hs:X.hart.state=0):Good X∧Lp4 (cycleP X) Y r (N+100) S∧(cycleP X).cycles=X.cycles+1:=by
 obtain⟨D,hD⟩:∃ D,Between X D:=by
  rcases h.ok with h1 | h1
  ·exact absurd hs h1
  ·exact h1
 obtain⟨k,hk,hc⟩:=cycle_does hD
 have hgoes:cyclesP r (cycleP X)=Y:=by
  rw [←h.goes]
  conv=>rhs;unfold cyclesP
  rw [if_pos hs]
 have hl:(cycleP X).hart.regs.length=32:=by
  have hr:=hk.run
  have hok:=runP_ok k (h:=X.hart) (m:=X.mem) ⟨hD.good.inv.hart,hD.good.inv.may,hD.good.inv.bytes⟩
  rw [hr] at hok
  exact hok.1.hart.len
 refine⟨hD.good,⟨?_,hgoes,h.bd.cycle hD.good,fun x hx=>h.sub x (cycleP_sub X x hx),hl⟩,hk.cycles⟩
 rcases hc with⟨_,h2⟩ | ⟨_,h2⟩ | ⟨_,h2⟩
 ·exact Or.inl h2
 ·exact Or.inr ⟨_,h2⟩
 ·exact Or.inr ⟨_,h2⟩
end Go.Proofs.Ytapgojgcmlnbgac
namespace Go.Proofs.Ytapgojgcmlnbgac
open Go.RowKit
section
variable {B:Nat} {w:World} {g p:Nat} {C:Core} {L:Lay} {ps:List Nat} {cs:Array Value} {u:Uop}
theorem cgive_any (h:CoreIs B w g C L ps cs) (hp:Blk w p 70 u.cells) (hd1:u.dest<96) (hw:C.words.length=96) (ht:C.there.length=96) (x:Int) :
  Calls Try.prog 29 #[.pointer (some ⟨g,0,none⟩), .pointer (some ⟨p,0,none⟩), .int .u32 x] w fun e w'=>e = .returned (.tuple #[])∧w.grownBy w' (some g)∧∃ cs',CoreIs B w' g (putW32 C u.dest x) L ps cs':=by
 have c13:w.cell? ⟨p,13,none⟩=some (.int .i64 u.dest):=hp.cell 13
 have zp:=hp.lt
 have zg:=h.lt
 have hne:=blk_other hp h.blk (by decide)
 unfold putW32
 by_cases hd:0<u.dest
 ·rw [if_pos hd]
  obtain⟨d,hdd⟩:=Int.eq_ofNat_of_zero_le (show 0≤u.dest by omega)
  rw [hdd] at c13 hd hd1 ⊢
  have hd96:d<96:=by omega
  have HI:=Lib.hid h
  clear h hp hdd
  go_enter Try.func29,Try.ntmps29
  go_upto_region 1 with(fail)
  go_simp
  refine wp_region_ob 245231 528 245759 [0,1,2,3,4,5,6,7,8,9,10,11,12,13,15,16,14,17,18] (by kernel_rfl) (by kernel_rfl) (by kernel_rfl) rfl ?_
  repeat'(first
   |refine oQ rfl rfl ?_
   |(refine' oE _ (by decide) (by decide) (fun wq K hK=>?_) ?_ ?_;rotate_left 1;(· go_wp2_with(fail);all_goals exact hK);rfl)
   |(refine' oR _ (by decide) (by decide) (by decide) (fun wq hwq K hK=>?_) ?_ ?_;rotate_left 1;(· have k13:=hwq.at_ zp c13;go_wp2_with(fail);all_goals exact hK);rfl)
   |((first | refine oT rfl rfl rfl rfl ?_ ?_ | refine oF rfl rfl rfl rfl ?_ ?_)<;>intro hc<;>first | (cases hc;done) | ((try cases hc);simp only [Act.put,sA,sS,sZ]))
   |refine oU rfl rfl rfl rfl ?_)
  refine wpOW_solo (by decide) (by decide) (by decide) (by kernel_rfl) (fun w1 hw1 K1 hK1=>?_)
  have h1:=HI.out.ext (w':=w1) (by rw [hw1];exact(Below.refl _ _).drew)
  have hg1:w.grownBy w1 (some g):=by rw [hw1];exact⟨rfl,rfl,rfl,by simp,fun _ _ _=>rfl⟩
  have k1:=h1.word hd96
  have f1:=h1.blk.frozen (142+d)
  have z1:=h1.lt
  have HI2:=Lib.hid (And.intro (h1.set _ _ (h1.cells.set_word d hd96 hw x) h1.rows) (hg1.trans (grownBy_setCell w1 ⟨g,142+d,none⟩ (.int .u32 x))))
  clear h1 hg1 hw1
  go_wp2_with(fail)
  refine hK1 undef _ (fun _=>True) trivial ?_
  simp only [Act.put,sA,sS,sZ]
  clear hK1 K1 k1 f1 z1
  repeat'(first
   |refine oQ rfl rfl ?_
   |(refine' oE _ (by decide) (by decide) (fun wq K hK=>?_) ?_ ?_;rotate_left 1;(· go_wp2_with(fail);all_goals exact hK);rfl)
   |((first | refine oT rfl rfl rfl rfl ?_ ?_ | refine oF rfl rfl rfl rfl ?_ ?_)<;>intro hc<;>first | (cases hc;done) | ((try cases hc);simp only [Act.put,sA,sS,sZ]))
   |refine oU rfl rfl rfl rfl ?_)
  refine wpOW_solo (by decide) (by decide) (by decide) (by kernel_rfl) (fun w2 hw2 K1 hK1=>?_)
  rw [←hw2] at HI2
  obtain⟨h2,hg2⟩:=HI2.out
  have k1:=h2.has hd96
  have f1:=h2.blk.frozen (238+d)
  have z1:=h2.lt
  have HI3:=Lib.hid (And.intro (h2.set _ _ (h2.cells.set_there d hd96 ht true) h2.rows) (hg2.trans (grownBy_setCell w2 ⟨g,238+d,none⟩ (.bool true))))
  clear h2 hg2 HI2 hw2
  go_wp2_with(fail)
  refine hK1 undef _ (fun _=>True) trivial ?_
  simp only [Act.put,sA,sS,sZ]
  clear hK1 K1 k1 f1 z1
  refine wpO_nil ?_
  rintro w3 hw3
  rw [←hw3] at HI3
  go_wp2_with(fail)
  refine bodyPost_end (results_none rfl _ _ _) rfl ?_
  exact⟨rfl,HI3.out.2,_,HI3.out.1⟩
 ·rw [if_neg hd]
  have e0:decide (0<u.dest)=false:=decide_eq_false hd
  have H:=Lib.hid h
  clear h hp
  generalize u.dest=d at *
  go_enter Try.func29,Try.ntmps29
  go_wp2_with(fail)
  refine bodyPost_end (results_none rfl _ _ _) rfl ?_
  exact⟨rfl,World.grownBy.refl _ _,cs,H.out⟩
end
end Go.Proofs.Ytapgojgcmlnbgac
