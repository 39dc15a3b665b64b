/- Parts of a proof. -/
import Derived.Test.YtapgojgcmlnbgacGreatK03
import Derived.Test.YtapgojgcmlnbgacGreatK17
import Derived.Test.YtapgojgcmlnbgacGreatK18
import Derived.Test.YtapgojgcmlnbgacGreatK19
set_option linter.unusedSimpArgs false
set_option linter.unusedVariables false
set_option maxRecDepth 100000
set_option maxHeartbeats 16000000
namespace Go.Proofs.YtapgojgcmlnbgacGreat
open Go.RowKit
theorem Q5 (w:Int):∀ (n:Nat) (op:Int) (i:Ins),Km w n op=some i→∃ op form,i=Cu op form w
 |0,_,_,h=>by cases h
 |n+1,op,i,h=>by
  have e:Km w (n+1) op=match Kn op with
   |some k=>if Io k w=true then some (Cu op k.form w) else Km w n (op+1)
   |none=>Km w n (op+1):=rfl
  rw [e] at h
  split at h
  ·split at h
   ·exact⟨_,_,(Option.some.inj h).symm⟩
   ·exact Q5 w n _ i h
  ·exact Q5 w n _ i h
theorem Aho {w:Int} {i:Ins} (w0:0≤w) (w1:w≤4294967295) (h:Ld w=some i) : -2147483648≤i.imm∧i.imm≤2147483647:=by
 obtain⟨op,form,rfl⟩:=Q5 w 48 1 i h
 have b1:=Av w 31 31 2 rfl
 have b2:=Av w 12 19 256 rfl
 have b3:=Av w 20 20 2 rfl
 have b4:=Av w 21 30 1024 rfl
 have b5:=Av w 20 31 4096 rfl
 have b6:=Av w 20 24 32 rfl
 have b7:=Av w 7 7 2 rfl
 have b8:=Av w 25 30 64 rfl
 have b9:=Av w 8 11 16 rfl
 have b10:=Av w 25 31 128 rfl
 have b11:=Av w 7 11 32 rfl
 have b12:=Av w 0 11 4096 rfl
 have b13:Ap w 0 11≤w:=by
  have:Ap w 0 11=w / 1%4096:=De w 0 11 1 4096 rfl rfl
  omega
 unfold Cu
 dsimp only
 (repeat' split)<;>(try unfold Fx)<;>(try split)<;>simp<;>omega
theorem Afp (a b:Int):Mw 28 a b=u32 (a+b):=rfl
theorem Ui (a b:Int) (w:World) (ha0:0≤a) (ha1:a≤4294967295) (hb0:0≤b) (hb1:b≤4294967295) :
  Calls Tryz.prog 24 #[.int .u32 a, .int .u32 b] w fun e w'=>e = .returned (.int .u32 (u32 (a+b)))∧Below w.heap.size w w':=by
 have CA:=Lib.hid (fun W=>O5 28 a b W ha0 ha1 hb0 hb1)
 rw [Afp] at CA
 generalize u32 (a+b)=x at *
 go_enter Tryz.func24,Tryz.ntmps24
 go_wp2_with(go_at_call 29;(with_reducible refine(CA.out _).mono ?_);rintro e w2 ⟨rfl,hb2⟩)
 go_ret
 exact⟨rfl,hb2⟩
theorem Vg (op:Int) (w:World) (h:19≤op∧op≤27):Calls Tryz.prog 30 #[.int .i64 op] w fun e w'=>e = .returned (.int .i64 (Tx op))∧w=w':=by
 obtain rfl | rfl | rfl | rfl | rfl | rfl | rfl | rfl | rfl:op=19∨op=20∨op=21∨op=22∨op=23∨op=24∨op=25∨op=26∨op=27:=by omega
 all_goals
  go_enter Tryz.func30,Tryz.ntmps30
  go_wp2
  go_ret
  exact⟨rfl,rfl⟩
def Fg (c:Com) (h:Al) (v:Value):Array Value:=(c.cells.toList++h.cells.toList++[v]).toArray
theorem Dy {c:Com} {h:Al} {v:Value} (hl:h.regs.length=32):(Fg c h v).size=47:=by
 unfold Fg
 simp [Al.cells,hl]
theorem B8 {α:Type} {n:Nat} {l:List α} (h:l.length=n+1):∃ a t,l=a::t∧t.length=n:=by
 cases l with
 |nil=>cases h
 |cons a t=>exact⟨a,t,rfl,by simpa using h⟩
theorem Qz (c:Com) (h:Al) (A:Option Addr) (n cap:Nat) (hl:h.regs.length=32):Tryz.prog.built 69 [(0, .agg c.cells),(1, .agg h.cells),(2, .slice A n cap)]=some (Fg c h (.slice A n cap)):=by
 obtain⟨regs,pc,st,ca⟩:=h
 obtain⟨c0,c1,c2,c3,c4,c5,c6,c7,c8,c9,c10⟩:=c
 dsimp only at hl
 have l0:=hl
 obtain⟨x0,t0,e0,l1⟩:=B8 l0
 obtain⟨x1,t1,e1,l2⟩:=B8 l1
 obtain⟨x2,t2,e2,l3⟩:=B8 l2
 obtain⟨x3,t3,e3,l4⟩:=B8 l3
 obtain⟨x4,t4,e4,l5⟩:=B8 l4
 obtain⟨x5,t5,e5,l6⟩:=B8 l5
 obtain⟨x6,t6,e6,l7⟩:=B8 l6
 obtain⟨x7,t7,e7,l8⟩:=B8 l7
 obtain⟨x8,t8,e8,l9⟩:=B8 l8
 obtain⟨x9,t9,e9,l10⟩:=B8 l9
 obtain⟨x10,t10,e10,l11⟩:=B8 l10
 obtain⟨x11,t11,e11,l12⟩:=B8 l11
 obtain⟨x12,t12,e12,l13⟩:=B8 l12
 obtain⟨x13,t13,e13,l14⟩:=B8 l13
 obtain⟨x14,t14,e14,l15⟩:=B8 l14
 obtain⟨x15,t15,e15,l16⟩:=B8 l15
 obtain⟨x16,t16,e16,l17⟩:=B8 l16
 obtain⟨x17,t17,e17,l18⟩:=B8 l17
 obtain⟨x18,t18,e18,l19⟩:=B8 l18
 obtain⟨x19,t19,e19,l20⟩:=B8 l19
 obtain⟨x20,t20,e20,l21⟩:=B8 l20
 obtain⟨x21,t21,e21,l22⟩:=B8 l21
 obtain⟨x22,t22,e22,l23⟩:=B8 l22
 obtain⟨x23,t23,e23,l24⟩:=B8 l23
 obtain⟨x24,t24,e24,l25⟩:=B8 l24
 obtain⟨x25,t25,e25,l26⟩:=B8 l25
 obtain⟨x26,t26,e26,l27⟩:=B8 l26
 obtain⟨x27,t27,e27,l28⟩:=B8 l27
 obtain⟨x28,t28,e28,l29⟩:=B8 l28
 obtain⟨x29,t29,e29,l30⟩:=B8 l29
 obtain⟨x30,t30,e30,l31⟩:=B8 l30
 obtain⟨x31,t31,e31,l32⟩:=B8 l31
 obtain rfl:=List.eq_nil_of_length_eq_zero l32
 subst e31
 subst e30
 subst e29
 subst e28
 subst e27
 subst e26
 subst e25
 subst e24
 subst e23
 subst e22
 subst e21
 subst e20
 subst e19
 subst e18
 subst e17
 subst e16
 subst e15
 subst e14
 subst e13
 subst e12
 subst e11
 subst e10
 subst e9
 subst e8
 subst e7
 subst e6
 subst e5
 subst e4
 subst e3
 subst e2
 subst e1
 subst e0
 show Program.built _ _ _=some _
 kernel_rfl
theorem G4 (c:Com) (h:Al) {v:Value} (hv:v.oneCell'=true):(Fg c h v).all (·.oneCell')=true:=by
 rw [Array.all_eq_true_iff_forall_mem]
 intro x hx
 unfold Fg at hx
 simp only [List.mem_toArray,List.mem_append,List.mem_cons,List.not_mem_nil,or_false] at hx
 rcases hx with(hx | hx) | rfl
 ·have:=cells_one c
  rw [Array.all_eq_true_iff_forall_mem] at this
  exact this x (by simpa using hx)
 ·have:=J1 h
  rw [Array.all_eq_true_iff_forall_mem] at this
  exact this x (by simpa using hx)
 ·exact hv
theorem Ge {c:Com} {h:Al} {v:Value} (hl:h.regs.length=32):(Tryz.prog.info? 69).map (·.size)=some (Fg c h v).size:=by rw [Dy hl];kernel_rfl
theorem Ait {h:Al} (hl:h.regs.length=32) (s:Int):h.cells.setIfInBounds 33 (.int .i64 s)=(⟨h.regs,h.pc,s,h.cause⟩:Al).cells:=by
 unfold Al.cells
 simp [List.setIfInBounds_toArray,List.set_append,hl]
theorem Akz {h:Al} (hl:h.regs.length=32) (s:Int):h.cells.setIfInBounds 34 (.int .i64 s)=(⟨h.regs,h.pc,h.state,s⟩:Al).cells:=by
 unfold Al.cells
 simp [List.setIfInBounds_toArray,List.set_append,hl]
theorem Aky {h:Al} (hl:h.regs.length=32) (s:Int):h.cells.setIfInBounds 32 (.int .u32 s)=(⟨h.regs,s,h.state,h.cause⟩:Al).cells:=by
 unfold Al.cells
 simp [List.setIfInBounds_toArray,List.set_append,hl]
theorem Alf {h:Al} {k:Nat} (hk:k<h.regs.length) (s:Int):h.cells.setIfInBounds k (.int .u32 s)=(⟨h.regs.set k s,h.pc,h.state,h.cause⟩:Al).cells:=by
 unfold Al.cells
 simp [List.setIfInBounds_toArray,List.set_append,hk,List.map_set]
theorem Ke {P:Program} {ops:Array Oper} {rest:List Oper} {o:Oper} {a:Act} {w:World} {Q:Exit→Act→World→Prop} (V:Value) (hgd:o.guard=none) (ty:TypeId) (x:Operand) (ho:o.op = .load ty x) (g:Nat) (hx:a.eval x = .pointer (some ⟨g,0,none⟩)) (t:TypeId) (cs:Array Value) (d:TypeDesc) (hg:Blk w g t cs)
  (hu:P.underlying ty=some d) (hd:(match d with | .struct _ | .array _ _=>true | _=>false)=true) (hi:(P.info? ty).map (·.size)=some cs.size) (hV:V = .agg cs)
  (h:wpList P ops Q rest (a.put o.dst V) w):wpList P ops Q (o::rest) a w:=by
 subst hV
 exact Ac hgd ty x ho g hx t cs d hg hu hd hi h
theorem Ia {P:Program} {ops:Array Oper} {rest:List Oper} {o:Oper} {a:Act} {w:World} {Q:Exit→Act→World→Prop} (hgd:o.guard=none) (x:Operand) (ho:o.op = .move x) (v:Value) (hv:a.eval x=v)
  (h:wpList P ops Q rest (a.put o.dst v) w):wpList P ops Q (o::rest) a w:=
 wpList_plain hgd fun K hK=>by
  unfold Oper.wp execOp
  simp only [ho,hv,Sem.run_pure]
  exact hK _ _ h
def M8:Array Value:=Fg Aix Jf (.slice none 0 0)
theorem H6 (h:Al) (A:Option Addr) (n cap:Nat) (cause:Int) (w:World) (hl:h.regs.length=32) :
  Calls Tryz.prog 21 #[.agg h.cells, .slice A n cap, .int .i64 cause] w fun e w'=>e = .returned (.agg (Fg (Aw h.pc cause) ⟨h.regs,h.pc,2,cause⟩ (.slice A n cap)))∧Below w.heap.size w w':=by
 have hb:=Qz (Aw h.pc cause) ⟨h.regs,h.pc,2,cause⟩ A n cap hl
 have hdi:=Ge (c:=Aw h.pc cause) (h:=⟨h.regs,h.pc,2,cause⟩) (v := .slice A n cap) hl
 have hds:(Fg (Aw h.pc cause) ⟨h.regs,h.pc,2,cause⟩ (.slice A n cap)).size=M8.size:=by rw [Dy (h:=⟨h.regs,h.pc,2,cause⟩) hl];rfl
 have hdo:=G4 (Aw h.pc cause) ⟨h.regs,h.pc,2,cause⟩ (v := .slice A n cap) rfl
 generalize Fg (Aw h.pc cause) ⟨h.regs,h.pc,2,cause⟩ (.slice A n cap)=D at *
 obtain⟨V,hV⟩:∃ V:Value,V = .agg (⟨h.regs,h.pc,2,cause⟩:Al).cells:=⟨_,rfl⟩
 rw [←hV] at hb
 have HV:=Lib.hid hV
 clear hV
 have built_c:Tryz.prog.built 67 [(0, .int .u32 h.pc),(1, .int .u32 h.pc),(2, .int .i64 2),(3, .int .i64 cause)]=some (Aw h.pc cause).cells:=by kernel_rfl
 go_enter Tryz.func21,Tryz.ntmps21
 go_upto_region 1 with(fail)
 go_simp
 refine Au fun wa hq=>?_
 have hH:Blk wa w.heap.size 27 h.cells:=by rw [hq];exact(Blk.new w _ _).alloc _
 have hR:Blk wa (w.heap.size+1) 69 M8:=by rw [hq];exact Blk.newAt (w.alloc _) 69 _ (by simp)
 have hbl:Below w.heap.size w wa:=by rw [hq];exact((Below.refl _ _).alloc (Nat.le_refl _) _).alloc (by simp) _
 clear hq
 obtain⟨p1,p2,p3⟩:=Al.cells_pc hl
 have c32:=(hH.cell 32).trans p1
 have c33:=(hH.cell 33).trans p2
 have c34:=(hH.cell 34).trans p3
 have f33:=hH.frozen 33
 have f34:=hH.frozen 34
 have hH2:=((hH.set 33 (.int .i64 2)).set 34 (.int .i64 cause))
 rw [Ait hl,Akz (h:=⟨h.regs,h.pc,2,h.cause⟩) hl] at hH2
 have hR2:=(hR.farAt (b:=w.heap.size) (off:=33) (by omega) (.int .i64 2)).farAt (b:=w.heap.size) (off:=34) (by omega) (.int .i64 cause)
 have hbl2:=Ai (b:=w.heap.size) (off:=34) (u := .int .i64 cause) (Nat.le_refl _) (Ai (b:=w.heap.size) (off:=33) (u := .int .i64 2) (Nat.le_refl _) hbl)
 clear p1 p2 p3
 go_upto_region 4 with(fail)
 try go_simp
 go_step
 refine Ia rfl _ rfl (.int .u32 h.pc) rfl ?_
 simp only [Act.put,sA,sS,sZ]
 refine Ia rfl _ rfl (.int .u32 h.pc) rfl ?_
 simp only [Act.put,sA,sS,sZ]
 refine Ia rfl _ rfl (.int .i64 cause) rfl ?_
 simp only [Act.put,sA,sS,sZ]
 refine Ao rfl 67 _ rfl [(0, .int .u32 h.pc),(1, .int .u32 h.pc),(2, .int .i64 2),(3, .int .i64 cause)] (by kernel_rfl) _ built_c ?_
 simp only [Act.put,sA,sS,sZ]
 refine Ke V rfl 27 _ rfl w.heap.size rfl 27 _ _ hH2 Tryz.underlying27 rfl (B7 (h:=⟨h.regs,h.pc,2,cause⟩) hl) HV.out ?_
 simp only [Act.put,sA,sS,sZ]
 refine Ia rfl _ rfl (.slice A n cap) rfl ?_
 simp only [Act.put,sA,sS,sZ]
 refine Ao rfl 69 _ rfl [(0, .agg (Aw h.pc cause).cells),(1,V),(2, .slice A n cap)] (by kernel_rfl) _ hb ?_
 simp only [Act.put,sA,sS,sZ]
 refine Ab rfl 69 _ _ rfl (w.heap.size+1) D rfl rfl 69 _ hR2 hdi hds hdo ?_
 intro w5 hB5 hg5
 simp only [Act.put,sA,sS,sZ]
 go_wp2_with(fail)
 exact bodyPost_ret (v := .agg D) (Az rfl _ _ (w.heap.size+1) 69 _ _ rfl hB5 Tryz.underlying69 rfl hdi) rfl ⟨rfl,below_grown hbl2 hg5 hbl2.size (Nat.le_succ _)⟩
def Rf (w:World) (A0:Option Addr) (m:List Int) (R:Com×Al×List Int) (e:Ending) (w':World):Prop:=
 ∃ A cap,e = .returned (.agg (Fg R.1 R.2.1 (.slice A m.length cap)))∧Below w.heap.size w w'∧Aq w' w'.heap.size .u8 A R.2.2∧(A=none→R.2.2=[])∧((∀ ad,A=some ad→w.heap.size≤ad.block)∨A=A0)
theorem Aby (h:Al) (A:Option Addr) (cap:Nat) (m:List Int) (w:World) (hh:h.Wf) (hl:m.length≤140737488351232) (hm:Bytes m) (hA:Aq w w.heap.size .u8 A m) (hnil:A=none→m=[])
  (hno:(Cd m 13 h.pc).2=false) :
  Calls Tryz.prog 15 #[.agg h.cells, .slice A m.length cap] w (Rf w A m (H5 h m 1)):=by
 have CL:=Lib.hid (fun W hW=>Kr A cap m 13 h.pc W hh.pc0 hh.pc1 (by omega) hm hW)
 obtain⟨p1,p2,p3⟩:=Al.cells_pc hh.len
 go_enter Tryz.func15,Tryz.ntmps15
 go_upto_region 1 with(fail)
 go_simp
 refine Au fun wa hq=>?_
 have hH:Blk wa w.heap.size 27 h.cells:=by rw [hq];exact(Blk.new w _ _).alloc _
 have hR:Blk wa (w.heap.size+1) 69 M8:=by rw [hq];exact Blk.newAt (w.alloc _) 69 _ (by simp)
 have hbl:Below w.heap.size w wa:=by rw [hq];exact((Below.refl _ _).alloc (Nat.le_refl _) _).alloc (by simp) _
 clear hq
 have c32:=(hH.cell 32).trans p1
 have hAa:=(hA.below hbl).mono hbl.size
 generalize Cd m 13 h.pc=L at *
 obtain⟨x,ok⟩:=L
 dsimp only at hno CL
 subst hno
 have hdi:=Ge (c:=Aw h.pc 1) (h:=⟨h.regs,h.pc,2,1⟩) (v := .slice A m.length cap) hh.len
 have hds:(Fg (Aw h.pc 1) ⟨h.regs,h.pc,2,1⟩ (.slice A m.length cap)).size=M8.size:=by rw [Dy (h:=⟨h.regs,h.pc,2,1⟩) hh.len];rfl
 have hdo:=G4 (Aw h.pc 1) ⟨h.regs,h.pc,2,1⟩ (v := .slice A m.length cap) rfl
 have CT:=Lib.hid (fun W=>H6 h A m.length cap 1 W hh.len)
 obtain⟨D,hD⟩:∃ D,D=Fg (Aw h.pc 1) ⟨h.regs,h.pc,2,1⟩ (.slice A m.length cap):=⟨_,rfl⟩
 rw [←hD] at hdi hds hdo CT
 have HD:=Lib.hid hD
 clear hD
 go_wp2_with(first
  |(refine Ac rfl 27 _ rfl w.heap.size rfl 27 _ _ hH Tryz.underlying27 rfl (B7 hh.len) ?_)
  |(go_at_call 20;(with_reducible refine(CL.out _ hAa).mono ?_);rintro e w2 ⟨rfl,rfl⟩)
  |(go_at_call 21;(with_reducible refine(CT.out _).mono ?_);rintro e w9 ⟨rfl,hb9⟩;replace hR:=hR.ext hb9;replace hbl:=hbl.trans (hb9.mono hbl.size))
  |(refine Ab rfl 69 _ _ rfl (w.heap.size+1) D rfl rfl 69 _ hR hdi hds hdo ?_;intro w5 hB5 hg5))
 refine bodyPost_ret (v := .agg D) (Az rfl _ _ (w.heap.size+1) 69 _ _ rfl hB5 Tryz.underlying69 rfl hdi) rfl ?_
 have hb5:=below_grown hbl hg5 hbl.size (Nat.le_succ _)
 exact⟨A,cap,by rw [HD.out];rfl,hb5,(hA.below hb5).mono hb5.size,hnil,Or.inr rfl⟩
theorem Abz (h:Al) (A:Option Addr) (cap:Nat) (m:List Int) (w:World) (hh:h.Wf) (hl:m.length≤140737488351232) (hm:Bytes m) (hA:Aq w w.heap.size .u8 A m) (hnil:A=none→m=[])
  (hok:(Cd m 13 h.pc).2=true) (hno:Ld (Cd m 13 h.pc).1=none) :
  Calls Tryz.prog 15 #[.agg h.cells, .slice A m.length cap] w (Rf w A m (H5 h m 2)):=by
 have hx:=Nc hm 13 h.pc
 have CL:=Lib.hid (fun W hW=>Kr A cap m 13 h.pc W hh.pc0 hh.pc1 (by omega) hm hW)
 obtain⟨p1,p2,p3⟩:=Al.cells_pc hh.len
 go_enter Tryz.func15,Tryz.ntmps15
 go_upto_region 1 with(fail)
 go_simp
 refine Au fun wa hq=>?_
 have hH:Blk wa w.heap.size 27 h.cells:=by rw [hq];exact(Blk.new w _ _).alloc _
 have hR:Blk wa (w.heap.size+1) 69 M8:=by rw [hq];exact Blk.newAt (w.alloc _) 69 _ (by simp)
 have hbl:Below w.heap.size w wa:=by rw [hq];exact((Below.refl _ _).alloc (Nat.le_refl _) _).alloc (by simp) _
 clear hq
 have c32:=(hH.cell 32).trans p1
 have hAa:=(hA.below hbl).mono hbl.size
 generalize Cd m 13 h.pc=L at *
 obtain⟨x,ok⟩:=L
 dsimp only at hok hno CL hx
 subst hok
 have CD:=Lib.hid (fun W=>Zv x W hx.1 hx.2)
 rw [hno] at CD
 go_upto_region 5 with(first
  |(go_at_call 20;(with_reducible refine(CL.out _ hAa).mono ?_);rintro e w2 ⟨rfl,rfl⟩)
  |(go_at_call 22;(with_reducible refine(CD.out _).mono ?_);rintro e w3 ⟨rfl,hb3⟩))
 try go_simp
 refine Au fun wb hq=>?_
 have hI:Blk wb w3.heap.size 73 Q6.cells:=by rw [hq];exact Blk.new w3 _ _
 have hbb:Below wa.heap.size wa wb:=by rw [hq];exact hb3.alloc hb3.size _
 have hgI:wa.heap.size≤w3.heap.size:=hb3.size
 generalize w3.heap.size=gI at *
 clear hq hb3 c32
 have hgW:w.heap.size+1<wa.heap.size:=hR.lt
 replace hR:=hR.ext hbb
 replace hH:=hH.ext hbb
 replace hbl:=hbl.trans (hbb.mono hbl.size)
 clear hAa
 have hgG:w.heap.size+1<gI:=by omega
 clear hgI hgW hbb CL CD
 have c32:=(hH.cell 32).trans p1
 have hdi:=Ge (c:=Aw h.pc 2) (h:=⟨h.regs,h.pc,2,2⟩) (v := .slice A m.length cap) hh.len
 have hds:(Fg (Aw h.pc 2) ⟨h.regs,h.pc,2,2⟩ (.slice A m.length cap)).size=M8.size:=by rw [Dy (h:=⟨h.regs,h.pc,2,2⟩) hh.len];rfl
 have hdo:=G4 (Aw h.pc 2) ⟨h.regs,h.pc,2,2⟩ (v := .slice A m.length cap) rfl
 have CT:=Lib.hid (fun W=>H6 h A m.length cap 2 W hh.len)
 obtain⟨D,hD⟩:∃ D,D=Fg (Aw h.pc 2) ⟨h.regs,h.pc,2,2⟩ (.slice A m.length cap):=⟨_,rfl⟩
 rw [←hD] at hdi hds hdo CT
 have HD:=Lib.hid hD
 clear hD
 go_wp2_with(first
  |(refine Ac rfl 27 _ rfl w.heap.size rfl 27 _ _ hH Tryz.underlying27 rfl (B7 hh.len) ?_)
  |(go_at_call 20;(with_reducible refine(CL.out _ hAa).mono ?_);rintro e w2 ⟨rfl,rfl⟩)
  |(go_at_call 21;(with_reducible refine(CT.out _).mono ?_);rintro e w9 ⟨rfl,hb9⟩;replace hR:=hR.ext hb9;replace hbl:=hbl.trans (hb9.mono hbl.size))
  |(refine Ab rfl 69 _ _ rfl (w.heap.size+1) D rfl rfl 69 _ hR hdi hds hdo ?_;intro w5 hB5 hg5))
 refine bodyPost_ret (v := .agg D) (Az rfl _ _ (w.heap.size+1) 69 _ _ rfl hB5 Tryz.underlying69 rfl hdi) rfl ?_
 have hb5:=below_grown hbl hg5 hbl.size (Nat.le_succ _)
 exact⟨A,cap,by rw [HD.out];rfl,hb5,(hA.below hb5).mono hb5.size,hnil,Or.inr rfl⟩
structure Pj (a b c:Nat) (w w':World):Prop where
 size:w.heap.size≤w'.heap.size
 block:∀ k,k<w.heap.size→k≠a→k≠b→k≠c→w'.heap[k]? = w.heap[k]?
theorem Pj.refl (a b c:Nat) (w:World):Pj a b c w w:=⟨Nat.le_refl _,fun _ _ _ _ _=>rfl⟩
theorem Pj.set {a b c:Nat} {w w':World} (h:Pj a b c w w') {g off:Nat} (hg:g=a∨g=b∨g=c) (u:Value):Pj a b c w (w'.setCell ⟨g,off,none⟩ u):=
 ⟨by simpa using h.size,fun k hk h1 h2 h3=>(Below.heap_setCell w' ⟨g,off,none⟩ u k (by show k≠g;omega)).trans (h.block k hk h1 h2 h3)⟩
theorem Pj.grown {a b c:Nat} {w w1 w':World} (h:Pj a b c w w1) {g:Nat} (k:w1.grownBy w' (some g)) (hg:g=a∨g=b∨g=c):Pj a b c w w':=
 ⟨Nat.le_trans h.size k.size,fun j hj h1 h2 h3=>(k.block j (Nat.lt_of_lt_of_le hj h.size) (fun e=>by injection e;omega)).trans (h.block j hj h1 h2 h3)⟩
theorem Pj.own {a b c:Nat} {w w':World} (h:Pj a b c w w') {base:Nat} {e:TypeId} {size:Nat} {v:Value} {n:Nat} {xs:List Value} (ho:w.ownsRow base e size v n xs) (ha:a<base) (hb:b<base) (hc:c<base):w'.ownsRow base e size v n xs:=
 ⟨ho.1,ho.2.imp id fun⟨g,cap,cur,e,l,hh,r⟩=>⟨g,cap,cur,e,l,by
  have hg:g<w.heap.size:=by
   rcases Nat.lt_or_ge g w.heap.size with h' | h'
   ·exact h'
   ·rw [Array.getElem?_eq_none h'] at hh;cases hh
  rw [←hh]
  exact h.block g hg (by omega) (by omega) (by omega),r⟩⟩
structure S9 (w0:World) (gC gI gH gR:Nat) (C:Com) (H:Al) (I:Ins) (wF w:World):Prop where
 c:Blk w gC 67 C.cells
 h:Blk w gH 27 H.cells
 i:Blk w gI 73 I.cells
 r:Blk w gR 69 M8
 b:Below gH w0 w
 f:Pj gC gH gR wF w
 o:gH<gR∧gR<gI∧gI<gC
 l:H.regs.length=32
section
variable {w0 wF w w':World} {gC gI gH gR:Nat} {C:Com} {H:Al} {I:Ins}
theorem S9.ext (s:S9 w0 gC gI gH gR C H I wF w) (hb:Below w.heap.size w w'):S9 w0 gC gI gH gR C H I w' w':=
 ⟨s.c.ext hb,s.h.ext hb,s.i.ext hb,s.r.ext hb,s.b.trans (hb.mono (Nat.le_of_lt s.h.lt)),Pj.refl _ _ _ _,s.o,s.l⟩
theorem S9.setc (s:S9 w0 gC gI gH gR C H I wF w) (k:Nat) (v:Value) {C':Com} (e:C.cells.setIfInBounds k v=C'.cells):S9 w0 gC gI gH gR C' H I wF (w.setCell ⟨gC,k,none⟩ v):=
 ⟨e▸s.c.set k v,s.h.farAt (by have:=s.o;omega) v,s.i.farAt (by have:=s.o;omega) v,s.r.farAt (by have:=s.o;omega) v,Ai (by have:=s.o;omega) s.b,s.f.set (by omega) v,s.o,s.l⟩
theorem S9.seth (s:S9 w0 gC gI gH gR C H I wF w) (k:Nat) (v:Value) {H':Al} (e:H.cells.setIfInBounds k v=H'.cells) (hl:H'.regs.length=32):S9 w0 gC gI gH gR C H' I wF (w.setCell ⟨gH,k,none⟩ v):=
 ⟨s.c.farAt (by have:=s.o;omega) v,e▸s.h.set k v,s.i.farAt (by have:=s.o;omega) v,s.r.farAt (by have:=s.o;omega) v,Ai (Nat.le_refl _) s.b,s.f.set (by omega) v,s.o,hl⟩
theorem S9.next (s:S9 w0 gC gI gH gR C H I wF w) (n:Int):S9 w0 gC gI gH gR { C with next:=n } H I wF (w.setCell ⟨gC,1,none⟩ (.int .u32 n)):=s.setc 1 _ rfl
theorem S9.st (s:S9 w0 gC gI gH gR C H I wF w) (n:Int):S9 w0 gC gI gH gR { C with state:=n } H I wF (w.setCell ⟨gC,2,none⟩ (.int .i64 n)):=s.setc 2 _ rfl
theorem S9.rd (s:S9 w0 gC gI gH gR C H I wF w) (n:Int):S9 w0 gC gI gH gR { C with rd:=n } H I wF (w.setCell ⟨gC,4,none⟩ (.int .i64 n)):=s.setc 4 _ rfl
theorem S9.val (s:S9 w0 gC gI gH gR C H I wF w) (n:Int):S9 w0 gC gI gH gR { C with value:=n } H I wF (w.setCell ⟨gC,5,none⟩ (.int .u32 n)):=s.setc 5 _ rfl
theorem S9.adr (s:S9 w0 gC gI gH gR C H I wF w) (n:Int):S9 w0 gC gI gH gR { C with at_:=n } H I wF (w.setCell ⟨gC,6,none⟩ (.int .u32 n)):=s.setc 6 _ rfl
theorem S9.mny (s:S9 w0 gC gI gH gR C H I wF w) (n:Int):S9 w0 gC gI gH gR { C with many:=n } H I wF (w.setCell ⟨gC,7,none⟩ (.int .i64 n)):=s.setc 7 _ rfl
theorem S9.dat (s:S9 w0 gC gI gH gR C H I wF w) (n:Int):S9 w0 gC gI gH gR { C with data:=n } H I wF (w.setCell ⟨gC,8,none⟩ (.int .u32 n)):=s.setc 8 _ rfl
theorem S9.out (s:S9 w0 gC gI gH gR C H I wF w) (n:Bool):S9 w0 gC gI gH gR { C with out:=n } H I wF (w.setCell ⟨gC,9,none⟩ (.bool n)):=s.setc 9 _ rfl
theorem S9.tld (s:S9 w0 gC gI gH gR C H I wF w) (n:Int):S9 w0 gC gI gH gR { C with told:=n } H I wF (w.setCell ⟨gC,10,none⟩ (.int .u32 n)):=s.setc 10 _ rfl
theorem S9.pc (s:S9 w0 gC gI gH gR C H I wF w) (n:Int):S9 w0 gC gI gH gR C { H with pc:=n } I wF (w.setCell ⟨gH,32,none⟩ (.int .u32 n)):=s.seth 32 _ (Aky s.l n) s.l
theorem S9.hst (s:S9 w0 gC gI gH gR C H I wF w) (n:Int):S9 w0 gC gI gH gR C { H with state:=n } I wF (w.setCell ⟨gH,33,none⟩ (.int .i64 n)):=s.seth 33 _ (Ait s.l n) s.l
theorem S9.reg (s:S9 w0 gC gI gH gR C H I wF w) (k:Nat) (hk:k<32) (n:Int):S9 w0 gC gI gH gR C { H with regs:=H.regs.set k n } I wF (w.setCell ⟨gH,k,none⟩ (.int .u32 n)):=s.seth k _ (Alf (by rw [s.l];exact hk) n) (by simpa using s.l)
theorem S9.at_ (s:S9 w0 gC gI gH gR C H I wF w) (k:Nat):w.cell? ⟨gC,k,none⟩=C.cells[k]? ∧ w.frozen? ⟨gC,k,none⟩=false:=⟨s.c.cell k,s.c.frozen k⟩
theorem S9.h32 (s:S9 w0 gC gI gH gR C H I wF w):w.cell? ⟨gH,32,none⟩=some (.int .u32 H.pc)∧w.frozen? ⟨gH,32,none⟩=false:=⟨(s.h.cell 32).trans (Al.cells_pc s.l).1,s.h.frozen 32⟩
theorem S9.h33 (s:S9 w0 gC gI gH gR C H I wF w):w.cell? ⟨gH,33,none⟩=some (.int .i64 H.state)∧w.frozen? ⟨gH,33,none⟩=false:=⟨(s.h.cell 33).trans (Al.cells_pc s.l).2.1,s.h.frozen 33⟩
theorem S9.hr (s:S9 w0 gC gI gH gR C H I wF w) (k:Nat) (hk:k<32):w.cell? ⟨gH,k,none⟩=some (.int .u32 (H.reg k))∧w.frozen? ⟨gH,k,none⟩=false:=⟨(s.h.cell k).trans (Al.cells_reg (by rw [s.l];exact hk)),s.h.frozen k⟩
end
def Y0 (rd:Nat) (g:Bool) (v nx:Int) (C:Com) (H:Al) (M:List Int):Com×Al×List Int:=
 if g=true then ({ C with rd:=rd,value:=v,next:=nx,state:=H.state },{ H with regs:=H.regs.set rd v,pc:=nx },M) else ({ C with next:=nx,state:=H.state },{ H with pc:=nx },M)
theorem Ik {h:Al} {m:List Int} {op r1 r2 imm v nx:Int} {rd:Nat} {g:Bool} (hs:h.state=0) (hc:h.cause=0):J7 h m ⟨op,rd,r1,r2,imm⟩ g v nx 0 0 0 0 false 0=Y0 rd g v nx (Com.mk h.pc 0 0 0 0 0 0 0 0 false 0) h m:=by
 obtain⟨R,p,s,c⟩:=h
 dsimp only at hs hc
 subst hs hc
 cases g<;>simp [J7,Y0]
end Go.Proofs.YtapgojgcmlnbgacGreat
