/- Parts of a proof. -/
import Derived.Test.YtapgojgcmlnbgacK34
import Derived.Test.YtapgojgcmlnbgacK29
import Derived.Test.YtapgojgcmlnbgacK30
import Derived.Test.YtapgojgcmlnbgacK25
import Derived.Test.YtapgojgcmlnbgacK00
import Derived.Laws.AppendOwn
import Derived.Test.YtapgojgcmlnbgacK21
set_option linter.unusedSimpArgs false
set_option linter.unusedVariables false
set_option maxRecDepth 100000
set_option maxHeartbeats 16000000
namespace Go.Proofs.Ytapgojgcmlnbgac
open Go.RowKit
theorem AccRow.set1 {cur:Array Value} {l:List Acc} (h:AccRow cur l) (hs:l.length*7≤cur.size) {j:Nat} {a a':Acc} (hj:l[j]? = some a) {i:Nat} (hi:i<7) {x:Value} (hc:a.cells.setIfInBounds i x=a'.cells):AccRow (cur.setIfInBounds (j*7+i) x) (l.set j a'):=fun k b c hk hc7=>by
 have hjl:=(List.getElem?_eq_some_iff.1 hj).1
 rw [Array.getElem?_setIfInBounds]
 by_cases e:k=j
 ·subst e
  rw [List.getElem?_set_self hjl] at hk
  cases hk
  rw [←hc,Array.getElem?_setIfInBounds]
  by_cases e2:i=c
  ·subst e2
   rw [if_pos rfl,if_pos rfl,if_pos (by omega),if_pos (by rw [acc_size];exact hi)]
  ·rw [if_neg (by omega),if_neg e2]
   exact h k a c hj hc7
 ·rw [List.getElem?_set_ne (fun x=>e x.symm)] at hk
  rw [if_neg (by omega)]
  exact h k b c hk hc7
section
variable {B:Nat} {w:World} {g p:Nat} {C:Core} {L:Lay} {ps:List Nat} {cs:Array Value}
theorem acc_block {v:Value} {l:List Acc} (h:w.ownsRow B 82 7 v l.length (accsV l)) (h0:0<l.length) :
  ∃ ga cap cur,v = .slice (some ⟨ga,0,none⟩) l.length cap∧B≤ga∧Blk w ga 82 cur∧AccRow cur l∧l.length*7≤cur.size:=by
 rcases h.2 with⟨_,hz⟩ | ⟨ga,cap,cur,rfl,hb,hB,q1,q2,q3,q4⟩
 ·omega
 ·exact⟨ga,cap,cur,rfl,hb,hB,AccRow.of q4,by rw [q3];exact Nat.mul_le_mul_right _ q1⟩
theorem CoreIs.setacc1 (h:CoreIs B w g C L ps cs) {ga cap:Nat} (hv:L.access = .slice (some ⟨ga,0,none⟩) C.access.length cap) {j:Nat} {a a':Acc} (hj:C.access[j]? = some a) {i:Nat} (hi:i<7) {x:Value} (hc:a.cells.setIfInBounds i x=a'.cells) :
  CoreIs B (w.setCell ⟨ga,j*7+i,none⟩ x) g { C with access:=C.access.set j a' } L ps cs∧Turned B w (w.setCell ⟨ga,j*7+i,none⟩ x):=by
 have hjl:=(List.getElem?_eq_some_iff.1 hj).1
 have hg:=grownBy_setCell w ⟨ga,j*7+i,none⟩ x
 rcases h.rows.access.2 with⟨_,hz⟩ | ⟨ga',cap',cur,hv',hb,hB,q1,q2,q3,q4⟩
 ·omega
 rw [hv] at hv'
 injection hv' with e1 _ e2
 injection e1 with e1
 injection e1 with e1
 subst e1 e2
 have hB:Blk w ga 82 cur:=hB
 have hsz:C.access.length*7≤cur.size:=by rw [q3];exact Nat.mul_le_mul_right _ q1
 have hB':=hB.set (j*7+i) x
 have hr':=(AccRow.of q4).set1 hsz hj hi hc
 have hlen:(C.access.set j a').length=C.access.length:=List.length_set
 have hgo:w.grownBy (w.setCell ⟨ga,j*7+i,none⟩ x) L.access.ownBlock:=by rw [hv];exact hg
 have hown:(w.setCell ⟨ga,j*7+i,none⟩ x).ownsRow B 82 7 L.access (C.access.set j a').length (accsV (C.access.set j a')):=by
  rw [hv,hlen]
  refine⟨by rw [accsV_len,hlen],Or.inr ⟨ga,cap,_,rfl,hb,hB',q1,q2,by simpa using q3,?_⟩⟩
  rw [←hlen]
  exact hr'.take
 have hrows:=h.rows.acc h.low hgo hown (Or.inl rfl)
 have hne:g≠ga:=blk_other h.blk hB (by decide)
 have hcells:CoreCells cs { C with access:=C.access.set j a' } L:=⟨h.cells.size,h.cells.window,h.cells.phys,h.cells.wide,h.cells.commits,h.cells.mem,h.cells.cycles,h.cells.taken,h.cells.backs,h.cells.script,h.cells.slots,h.cells.ops,h.cells.access,h.cells.seq,h.cells.pc,h.cells.still,h.cells.hart,h.cells.tab,h.cells.names,h.cells.words,h.cells.there⟩
 exact⟨⟨by simpa using h.low,h.blk.farAt hne x,hcells,hrows⟩,Turned.grown hg fun k hk=>by cases hk;exact⟨hb,_,_,_,hB,rfl⟩⟩
theorem CoreIs.setacc4 (h:CoreIs B w g C L ps cs) {ga cap:Nat} (hv:L.access = .slice (some ⟨ga,0,none⟩) C.access.length cap) {j:Nat} {a:Acc} (hj:C.access[j]? = some a) (at_:Int) (many:Int) {i4:Nat} (hi4:i4<7) {x4:Value} {a':Acc} (h4:(Acc.cells { a with known:=true,at_:=at_,many:=many }).setIfInBounds i4 x4=a'.cells) :
  CoreIs B ((((w.setCell ⟨ga,j*7+2,none⟩ (.bool true)).setCell ⟨ga,j*7+3,none⟩ (.int .u32 at_)).setCell ⟨ga,j*7+4,none⟩ (.int .i64 many)).setCell ⟨ga,j*7+i4,none⟩ x4) g { C with access:=C.access.set j a' } L ps cs ∧
  Turned B w ((((w.setCell ⟨ga,j*7+2,none⟩ (.bool true)).setCell ⟨ga,j*7+3,none⟩ (.int .u32 at_)).setCell ⟨ga,j*7+4,none⟩ (.int .i64 many)).setCell ⟨ga,j*7+i4,none⟩ x4):=by
 have hjl:=(List.getElem?_eq_some_iff.1 hj).1
 have hs:∀ b:Acc,(C.access.set j b)[j]? = some b:=fun b=>List.getElem?_set_self hjl
 have hl:∀ b:Acc,(C.access.set j b).length=C.access.length:=fun b=>List.length_set
 obtain⟨h1,t1⟩:=h.setacc1 hv hj (i:=2) (by decide) (x := .bool true) (a':={ a with known:=true }) rfl
 obtain⟨h2,t2⟩:=h1.setacc1 (ga:=ga) (cap:=cap) (by rw [hv];simp only [hl]) (j:=j) (hs _) (i:=3) (by decide) (x := .int .u32 at_) (a':={ a with known:=true,at_:=at_ }) rfl
 simp only [List.set_set] at h2
 obtain⟨h3,t3⟩:=h2.setacc1 (ga:=ga) (cap:=cap) (by rw [hv];simp only [hl]) (j:=j) (hs _) (i:=4) (by decide) (x := .int .i64 many) (a':={ a with known:=true,at_:=at_,many:=many }) rfl
 simp only [List.set_set] at h3
 obtain⟨h5,t4⟩:=h3.setacc1 (ga:=ga) (cap:=cap) (by rw [hv];simp only [hl]) (j:=j) (hs _) (i:=i4) hi4 (x:=x4) (a':=a') h4
 simp only [List.set_set] at h5
 exact⟨h5,((t1.trans t2).trans t3).trans t4⟩
theorem acc_cell (h:CoreIs B w g C L ps cs) {ga cap:Nat} (hv:L.access = .slice (some ⟨ga,0,none⟩) C.access.length cap) {j:Nat} {a:Acc} (hj:C.access[j]? = some a) {i:Nat} (hi:i<7) :
  w.cell? ⟨ga,j*7+i,none⟩=a.cells[i]? ∧ w.frozen? ⟨ga,j*7+i,none⟩=false∧ga<w.heap.size:=by
 have hjl:=(List.getElem?_eq_some_iff.1 hj).1
 rcases h.rows.access.2 with⟨_,hz⟩ | ⟨ga',cap',cur,hv',hb,hB,q1,q2,q3,q4⟩
 ·omega
 rw [hv] at hv'
 injection hv' with e1 _ e2
 injection e1 with e1
 injection e1 with e1
 subst e1 e2
 have hB:Blk w ga 82 cur:=hB
 exact⟨(hB.cell _).trans (AccRow.of q4 j a i hj hi),hB.frozen _,hB.lt⟩
theorem CoreIs.setaccN {j:Nat} {a:Acc} (h:CoreIs B w g { C with access:=C.access.set j a } L ps cs) {ga cap:Nat} (hv:L.access = .slice (some ⟨ga,0,none⟩) C.access.length cap) (hjl:j<C.access.length) {i:Nat} (hi:i<7) {x:Value} {a':Acc} (hc:a.cells.setIfInBounds i x=a'.cells) :
  (CoreIs B (w.setCell ⟨ga,j*7+i,none⟩ x) g { C with access:=C.access.set j a' } L ps cs∧Turned B w (w.setCell ⟨ga,j*7+i,none⟩ x))∧w.cell? ⟨ga,j*7+i,none⟩=a.cells[i]? ∧ w.frozen? ⟨ga,j*7+i,none⟩=false∧ga<w.heap.size:=by
 have hs:(C.access.set j a)[j]? = some a:=List.getElem?_set_self hjl
 have hv':L.access = .slice (some ⟨ga,0,none⟩) (C.access.set j a).length cap:=by rw [hv,List.length_set]
 have h1:=h.setacc1 hv' hs hi hc
 simp only [List.set_set] at h1
 exact⟨h1,acc_cell h hv' hs hi⟩
theorem CoreIs.setaccI (h:CoreIs B w g C L ps cs) {j:Nat} {a:Acc} (hj:C.access[j]? = some a):CoreIs B w g { C with access:=C.access.set j a } L ps cs:=by
 have e:C.access.set j a=C.access:=by
  obtain⟨hl,rfl⟩:=List.getElem?_eq_some_iff.1 hj
  exact List.set_getElem_self hl
 rw [e]
 exact h
end
section
variable {B:Nat} {w:World} {g p:Nat} {C:Core} {L:Lay} {ps:List Nat} {cs:Array Value}
theorem uop_setcom (u:Uop) (c:Com):splice u.cells 16 c.cells.toList=Uop.cells { u with commit:=c }:=rfl
theorem com_size11 (c:Com):c.cells.size=11:=rfl
theorem ucom_infoc (c:Com):(Try.prog.info? 65).map (·.size)=some c.cells.size:=by rw [com_size11];kernel_rfl
theorem CoreIs.uopall (h:CoreIs B w g C L ps cs) {i:Nat} (hp:ps[i]? = some p) {u u':Uop} (hu:Blk w p 70 u.cells) {w':World} (hg:w.grownBy w' (some p)) (hB':Blk w' p 70 u'.cells) :
  CoreIs B w' g { C with ops:=C.ops.set i u' } L ps cs:=
 ⟨Nat.le_trans h.low hg.size,h.blk.grown hg (fun e=>by injection e with e;exact blk_other hu h.blk (by decide) e.symm),h.cells.any_ops _,h.rows.uop h.low hp hg hB'⟩
theorem built_trapL (pc:Int):Try.prog.built 65 [(0, .int .u32 pc),(1, .int .u32 pc),(2, .int .i64 2),(3, .int .i64 3)]=some (trapC pc 3).cells:=by kernel_rfl
theorem built_m4 (a b c d:Int):Try.prog.built 98 [(0, .int .u8 a),(1, .int .u8 b),(2, .int .u8 c),(3, .int .u8 d)]=some #[.int .u8 a, .int .u8 b, .int .u8 c, .int .u8 d]:=by kernel_rfl
theorem built_hpc (pc:Int):Try.prog.built 27 [(1, .int .u32 pc)]=some (Hart.cells ⟨List.replicate 32 0,pc,0,0⟩):=by kernel_rfl
theorem m4_info {a b c d:Int}:(Try.prog.info? 98).map (·.size)=some (#[.int .u8 a, .int .u8 b, .int .u8 c, .int .u8 d]:Array Value).size:=by kernel_rfl
theorem m4_one {a b c d:Int}:(#[.int .u8 a, .int .u8 b, .int .u8 c, .int .u8 d]:Array Value).all (·.oneCell')=true:=by kernel_rfl
theorem insx_info (i:Ins):(Try.prog.info? 68).map (·.size)=some i.cells.size:=by rw [show i.cells.size=5 from rfl];kernel_rfl
theorem insx_one (i:Ins):i.cells.all (·.oneCell')=true:=by simp [Ins.cells,Value.oneCell']
theorem wp_build_at {P:Program} {o:Oper} {a:Act} {w:World} {K:Act→World→Prop} {Q:Exit→Act→World→Prop} (t:TypeId) (parts:Array (Nat×Operand)) (ho:o.op = .build t parts) (vals:List (Nat×Value))
  (hv:(parts.map fun(i,x)=>(i,a.eval x)).toList=vals) (cs:Array Value) (hf:P.built t vals=some cs) (h:K (a.put o.dst (.agg cs)) w):o.wp P a w K Q:=
 wp_build t parts ho (by rw [hv,hf];rfl) (by rw [hv,hf];exact h)
end
section
variable {B:Nat} {w:World} {g p:Nat} {C:Core} {L:Lay} {ps:List Nat} {cs:Array Value} {u:Uop}
theorem CoreIs.settab (h:CoreIs B w g C L ps cs) {T:Array Value} (hT:T.size=64) {w':World} (hB:Blk w' g 60 (splice cs 44 T.toList)) (hg:w.grownBy w' (some g)):CoreIs B w' g { C with table:=T } L ps (splice cs 44 T.toList):=by
 obtain⟨s1,s2,s3⟩:=splice_part (off:=44) (n:=64) h.cells.size (by decide) hT
 exact⟨Nat.le_trans h.low hg.size,hB,h.cells.part_tab T s1 s2 s3,h.rows.core h.low h.blk hg⟩
theorem learn_any (h:CoreIs B w g C L ps cs) (hp:Blk w p 70 u.cells) (ht:TabOk C.table) (h0:0≤u.pc∧u.pc≤4294967295) (hc:u.commit.Wf) :
  Calls Try.prog 21 #[.pointer (some ⟨g,0,none⟩), .pointer (some ⟨p,0,none⟩)] w fun e w'=>e = .returned (.tuple #[])∧w.grownBy w' (some g)∧∃ cs',CoreIs B w' g (learnP C u) L ps cs':=by
 have c3:w.cell? ⟨p,3,none⟩=some (.int .u32 u.pc):=hp.cell 3
 have c5:w.cell? ⟨p,5,none⟩=some (.int .i64 u.ins.op):=hp.cell 5
 have c17:w.cell? ⟨p,17,none⟩=some (.int .u32 u.commit.next):=hp.cell 17
 have c21:w.cell? ⟨p,21,none⟩=some (.int .u32 u.commit.value):=hp.cell 21
 have zp:=hp.lt
 have hT:=h.cells.tabX ht.size
 have hsz:=h.cells.size
 have htl:=tabL_ok ht h0 hc
 obtain⟨hw1,hca⟩:=ht.cnt_of u.pc
 obtain⟨hw2,hva⟩:=ht.vl_of u.pc
 have CB:=Lib.hid (fun t W=>learnBranch_any C.table (cntOf C.table u.pc) u.pc u.commit.next t W h0.1 h0.2 hc.next.1 hc.next.2 ht hw1 hca)
 have CV:=Lib.hid (fun W=>learnValue_any C.table (vlOf C.table u.pc) u.pc u.commit.value W h0.1 h0.2 hc.value.1 hc.value.2 ht hw2 hva)
 have HT:=Lib.hid hT
 rw [learnP_eq]
 unfold tabL at htl ⊢
 have hl:=loads_op (i:=u.ins)
 clear hT ht hca hva hw1 hw2 h0 hc
 generalize cntOf C.table u.pc=t at *
 generalize vlOf C.table u.pc=v at *
 have LB:=Lib.hid (fun W=>loads_any u.ins W)
 have HP:=Lib.hid hp
 generalize hlB:loadsB u.ins=lb at *
 generalize u.ins.op=op at *
 have HI:=Lib.hid h
 clear h hp
 by_cases q4:op=4
 ·subst q4
  rw [if_pos (Or.inl rfl)] at htl ⊢
  obtain⟨bb,hbb⟩:∃ bb,bb=decide (u.commit.next≠u32 (u.pc+4)):=⟨_,rfl⟩
  rw [←hbb] at htl ⊢
  have hne1:(u.commit.next != (u.pc+4)%4294967296)=bb:=by
   rw [hbb]
   unfold u32
   rw [Bool.eq_iff_iff]
   simp
  clear hbb
  obtain⟨T,hTT⟩:∃ T,T=learnBranchP C.table t u.pc bb u.commit.next:=⟨_,rfl⟩
  rw [←hTT] at htl ⊢
  have HTT:=Lib.hid hTT.symm
  clear hTT
  have HI2:=HI
  have HG:=Lib.hid (below_row (Below.refl w.heap.size w) (some g))
  go_enter Try.func21,Try.ntmps21
  go_upto_region 2 with(first
   |(refine wpList_load_blk rfl 68 _ rfl p 5 rfl 70 u.cells 5 _ HP.out Try.underlying68 rfl cins_info (by rw [Uop.size];decide) ?_;rw [Uop.insX])
   |(go_at_call 26;(with_reducible refine(LB.out _).mono ?_);rintro e w2 ⟨rfl,hb0⟩))
  go_simp
  skip
  refine wp_region_ob 217964271 16916752 234881023 [0,1,2,3,4,5,6,7,8,9,10,11,12,13,14,15,16,17,18,19,20,21,22,23,24,25,26,27,28] (by kernel_rfl) (by kernel_rfl) (by kernel_rfl) rfl ?_
  repeat'(first
   |refine oQ rfl rfl ?_
   |(refine' oE _ (by decide) (by decide) (fun wq K hK=>?_) ?_ ?_;rotate_left 1;(· go_wp2_with(fail);all_goals exact hK);rfl)
   |(refine' oR _ (by decide) (by decide) (by decide) (fun wq hwq K hK=>?_) ?_ ?_;rotate_left 1;(· have k3:=hwq.at_ zp c3;have k17:=hwq.at_ zp c17;have k21:=hwq.at_ zp c21;first | ((refine wp_load_blk 50 _ rfl g 44 rfl 60 cs 64 _ (HI.out.blk.ext hwq) Try.underlying50 rfl ctab_info (by omega) ?_;rw [HT.out];exact hK)) | (go_wp2_with(fail);all_goals exact hK));rfl)
   |((first | refine oT rfl rfl rfl rfl ?_ ?_ | refine oF rfl rfl rfl rfl ?_ ?_)<;>intro hc<;>first | (cases hc;done) | ((try cases hc);simp only [Act.put,sA,sS,sZ]))
   |refine oU rfl rfl rfl rfl ?_)
  refine wpOW_solo (by decide) (by decide) (by decide) (by kernel_rfl) (fun w1 hw1 K1 hK1=>?_)
  have hb1:Below w.heap.size w w1:=by rw [hw1];exact(Below.refl _ _).drew
  clear hw1
  go_wp2_with(go_at_call 45;(with_reducible refine(CB.out _ w1).mono ?_);rintro e w3 ⟨rfl,hb2⟩;(try rw [hne1]);(try rw [HTT.out]))
  refine hK1 _ _ (fun _=>True) trivial ?_
  simp only [Act.put,sA,sS,sZ]
  clear hK1 K1
  repeat'(first
   |refine oQ rfl rfl ?_
   |(refine' oE _ (by decide) (by decide) (fun wq K hK=>?_) ?_ ?_;rotate_left 1;(· go_wp2_with(fail);all_goals exact hK);rfl)
   |((first | refine oT rfl rfl rfl rfl ?_ ?_ | refine oF rfl rfl rfl rfl ?_ ?_)<;>intro hc<;>first | (cases hc;done) | ((try cases hc);simp only [Act.put,sA,sS,sZ]))
   |refine oU rfl rfl rfl rfl ?_)
  refine wpOW_solo (by decide) (by decide) (by decide) (by kernel_rfl) (fun w4 hw4 K1 hK1=>?_)
  have hb4:Below w.heap.size w w4:=by rw [hw4];first | exact hb1.trans (hb2.mono hb1.size) | exact(hb1.trans (hb2.mono hb1.size)).drew
  clear hw4 hb1 hb2
  have h4:=HI2.out.ext hb4
  have B4:=h4.blk
  refine wp_store_blk 50 _ _ rfl g 44 T rfl rfl 60 cs B4 (by rw [htl.size];exact ctab_info) (by rw [htl.size];omega) htl.one ?_
  intro w5 hB5 hg5
  refine hK1 undef _ (fun _=>True) trivial ?_
  simp only [Act.put,sA,sS,sZ]
  clear hK1 K1
  refine wpO_nil ?_
  rintro w6 rfl
  go_wp2_with(fail)
  refine bodyPost_end (results_none rfl _ _ _) rfl ?_
  exact⟨rfl,HG.out.trans ((below_row hb4 _).trans hg5),_,h4.settab htl.size hB5 hg5⟩
 ·have q4':(op==4)=false:=by simpa using q4
  by_cases q5:5≤op∧op≤10
  ·obtain⟨q5a,q5b⟩:=q5
   have e5:decide (5≤op)=true:=decide_eq_true q5a
   have e6:decide (op≤10)=true:=decide_eq_true q5b
   rw [if_pos (Or.inr ⟨q5a,q5b⟩)] at htl ⊢
   obtain⟨bb,hbb⟩:∃ bb,bb=decide (u.commit.next≠u32 (u.pc+4)):=⟨_,rfl⟩
   rw [←hbb] at htl ⊢
   have hne1:(u.commit.next != (u.pc+4)%4294967296)=bb:=by
    rw [hbb]
    unfold u32
    rw [Bool.eq_iff_iff]
    simp
   clear hbb
   obtain⟨T,hTT⟩:∃ T,T=learnBranchP C.table t u.pc bb u.commit.next:=⟨_,rfl⟩
   rw [←hTT] at htl ⊢
   have HTT:=Lib.hid hTT.symm
   clear hTT
   have HI2:=HI
   have HG:=Lib.hid (below_row (Below.refl w.heap.size w) (some g))
   go_enter Try.func21,Try.ntmps21
   go_upto_region 2 with(first
    |(refine wpList_load_blk rfl 68 _ rfl p 5 rfl 70 u.cells 5 _ HP.out Try.underlying68 rfl cins_info (by rw [Uop.size];decide) ?_;rw [Uop.insX])
    |(go_at_call 26;(with_reducible refine(LB.out _).mono ?_);rintro e w2 ⟨rfl,hb0⟩))
   go_simp
   skip
   refine wp_region_ob 217964271 16916752 234881023 [0,1,2,3,4,5,6,7,8,9,10,11,12,13,14,15,16,17,18,19,20,21,22,23,24,25,26,27,28] (by kernel_rfl) (by kernel_rfl) (by kernel_rfl) rfl ?_
   repeat'(first
    |refine oQ rfl rfl ?_
    |(refine' oE _ (by decide) (by decide) (fun wq K hK=>?_) ?_ ?_;rotate_left 1;(· go_wp2_with(fail);all_goals exact hK);rfl)
    |(refine' oR _ (by decide) (by decide) (by decide) (fun wq hwq K hK=>?_) ?_ ?_;rotate_left 1;(· have k3:=hwq.at_ zp c3;have k17:=hwq.at_ zp c17;have k21:=hwq.at_ zp c21;first | ((refine wp_load_blk 50 _ rfl g 44 rfl 60 cs 64 _ (HI.out.blk.ext hwq) Try.underlying50 rfl ctab_info (by omega) ?_;rw [HT.out];exact hK)) | (go_wp2_with(fail);all_goals exact hK));rfl)
    |((first | refine oT rfl rfl rfl rfl ?_ ?_ | refine oF rfl rfl rfl rfl ?_ ?_)<;>intro hc<;>first | (cases hc;done) | ((try cases hc);simp only [Act.put,sA,sS,sZ]))
    |refine oU rfl rfl rfl rfl ?_)
   refine wpOW_solo (by decide) (by decide) (by decide) (by kernel_rfl) (fun w1 hw1 K1 hK1=>?_)
   have hb1:Below w.heap.size w w1:=by rw [hw1];exact(Below.refl _ _).drew
   clear hw1
   go_wp2_with(go_at_call 45;(with_reducible refine(CB.out _ w1).mono ?_);rintro e w3 ⟨rfl,hb2⟩;(try rw [hne1]);(try rw [HTT.out]))
   refine hK1 _ _ (fun _=>True) trivial ?_
   simp only [Act.put,sA,sS,sZ]
   clear hK1 K1
   repeat'(first
    |refine oQ rfl rfl ?_
    |(refine' oE _ (by decide) (by decide) (fun wq K hK=>?_) ?_ ?_;rotate_left 1;(· go_wp2_with(fail);all_goals exact hK);rfl)
    |((first | refine oT rfl rfl rfl rfl ?_ ?_ | refine oF rfl rfl rfl rfl ?_ ?_)<;>intro hc<;>first | (cases hc;done) | ((try cases hc);simp only [Act.put,sA,sS,sZ]))
    |refine oU rfl rfl rfl rfl ?_)
   refine wpOW_solo (by decide) (by decide) (by decide) (by kernel_rfl) (fun w4 hw4 K1 hK1=>?_)
   have hb4:Below w.heap.size w w4:=by rw [hw4];first | exact hb1.trans (hb2.mono hb1.size) | exact(hb1.trans (hb2.mono hb1.size)).drew
   clear hw4 hb1 hb2
   have h4:=HI2.out.ext hb4
   have B4:=h4.blk
   refine wp_store_blk 50 _ _ rfl g 44 T rfl rfl 60 cs B4 (by rw [htl.size];exact ctab_info) (by rw [htl.size];omega) htl.one ?_
   intro w5 hB5 hg5
   refine hK1 undef _ (fun _=>True) trivial ?_
   simp only [Act.put,sA,sS,sZ]
   clear hK1 K1
   refine wpO_nil ?_
   rintro w6 rfl
   go_wp2_with(fail)
   refine bodyPost_end (results_none rfl _ _ _) rfl ?_
   exact⟨rfl,HG.out.trans ((below_row hb4 _).trans hg5),_,h4.settab htl.size hB5 hg5⟩
  ·rw [if_neg (by omega)] at htl ⊢
   have q5':op<5∨(5≤op∧10<op):=by omega
   clear q5
   by_cases ql:lb=true
   ·subst ql
    rw [if_pos rfl] at htl ⊢
    have q6:=hl.1 rfl
    have e5:decide (5≤op)=true:=decide_eq_true (by omega)
    have e6:decide (op≤10)=false:=decide_eq_false (by omega)
    obtain⟨T,hTT⟩:∃ T,T=learnValueP C.table v u.pc u.commit.value:=⟨_,rfl⟩
    rw [←hTT] at htl ⊢
    have HTT:=Lib.hid hTT.symm
    have hne1:=trivial
    clear hTT hl q6
    go_enter Try.func21,Try.ntmps21
    go_upto_region 4 with(first
     |(refine wpList_load_blk rfl 68 _ rfl p 5 rfl 70 u.cells 5 _ HP.out Try.underlying68 rfl cins_info (by rw [Uop.size];decide) ?_;rw [Uop.insX])
     |(go_at_call 26;(with_reducible refine(LB.out _).mono ?_);rintro e w2 ⟨rfl,hb0⟩))
    go_simp
    (have HI2:=Lib.hid (HI.out.ext hb0);have HG:=Lib.hid (below_row hb0 (some g));replace c3:=(hb0.cell (p:=⟨p,3,none⟩) zp).trans c3;replace c17:=(hb0.cell (p:=⟨p,17,none⟩) zp).trans c17;replace c21:=(hb0.cell (p:=⟨p,21,none⟩) zp).trans c21;replace zp:=Nat.lt_of_lt_of_le zp hb0.size;replace HI:=HI2)
    refine wp_region_ob 106223 8464 114687 [0,1,2,3,4,5,6,7,8,9,10,11,12,13,14,15,16,17] (by kernel_rfl) (by kernel_rfl) (by kernel_rfl) rfl ?_
    repeat'(first
     |refine oQ rfl rfl ?_
     |(refine' oE _ (by decide) (by decide) (fun wq K hK=>?_) ?_ ?_;rotate_left 1;(· go_wp2_with(fail);all_goals exact hK);rfl)
     |(refine' oR _ (by decide) (by decide) (by decide) (fun wq hwq K hK=>?_) ?_ ?_;rotate_left 1;(· have k3:=hwq.at_ zp c3;have k17:=hwq.at_ zp c17;have k21:=hwq.at_ zp c21;first | ((refine wp_load_blk 50 _ rfl g 44 rfl 60 cs 64 _ (HI.out.blk.ext hwq) Try.underlying50 rfl ctab_info (by omega) ?_;rw [HT.out];exact hK)) | (go_wp2_with(fail);all_goals exact hK));rfl)
     |((first | refine oT rfl rfl rfl rfl ?_ ?_ | refine oF rfl rfl rfl rfl ?_ ?_)<;>intro hc<;>first | (cases hc;done) | ((try cases hc);simp only [Act.put,sA,sS,sZ]))
     |refine oU rfl rfl rfl rfl ?_)
    refine wpOW_solo (by decide) (by decide) (by decide) (by kernel_rfl) (fun w1 hw1 K1 hK1=>?_)
    have hb1:Below w2.heap.size w2 w1:=by rw [hw1];exact(Below.refl _ _).drew
    clear hw1
    go_wp2_with(go_at_call 46;(with_reducible refine(CV.out w1).mono ?_);rintro e w3 ⟨rfl,hb2⟩;(try rw [hne1]);(try rw [HTT.out]))
    refine hK1 _ _ (fun _=>True) trivial ?_
    simp only [Act.put,sA,sS,sZ]
    clear hK1 K1
    repeat'(first
     |refine oQ rfl rfl ?_
     |(refine' oE _ (by decide) (by decide) (fun wq K hK=>?_) ?_ ?_;rotate_left 1;(· go_wp2_with(fail);all_goals exact hK);rfl)
     |((first | refine oT rfl rfl rfl rfl ?_ ?_ | refine oF rfl rfl rfl rfl ?_ ?_)<;>intro hc<;>first | (cases hc;done) | ((try cases hc);simp only [Act.put,sA,sS,sZ]))
     |refine oU rfl rfl rfl rfl ?_)
    refine wpOW_solo (by decide) (by decide) (by decide) (by kernel_rfl) (fun w4 hw4 K1 hK1=>?_)
    have hb4:Below w2.heap.size w2 w4:=by rw [hw4];first | exact hb1.trans (hb2.mono hb1.size) | exact(hb1.trans (hb2.mono hb1.size)).drew
    clear hw4 hb1 hb2
    have h4:=HI2.out.ext hb4
    have B4:=h4.blk
    refine wp_store_blk 50 _ _ rfl g 44 T rfl rfl 60 cs B4 (by rw [htl.size];exact ctab_info) (by rw [htl.size];omega) htl.one ?_
    intro w5 hB5 hg5
    refine hK1 undef _ (fun _=>True) trivial ?_
    simp only [Act.put,sA,sS,sZ]
    clear hK1 K1
    refine wpO_nil ?_
    rintro w6 rfl
    go_wp2_with(fail)
    refine bodyPost_end (results_none rfl _ _ _) rfl ?_
    exact⟨rfl,HG.out.trans ((below_row hb4 _).trans hg5),_,h4.settab htl.size hB5 hg5⟩
   ·have ql:lb=false:=by simpa using ql
    subst ql
    rw [if_neg (by decide)] at htl ⊢
    rcases q5' with q5 | ⟨q5,q6⟩
    ·have e5:decide (5≤op)=false:=decide_eq_false (by omega)
     clear hl
     go_enter Try.func21,Try.ntmps21
     go_wp2_with(first
      |(refine wpList_load_blk rfl 68 _ rfl p 5 rfl 70 u.cells 5 _ HP.out Try.underlying68 rfl cins_info (by rw [Uop.size];decide) ?_;rw [Uop.insX])
      |(go_at_call 26;(with_reducible refine(LB.out _).mono ?_);rintro e w2 ⟨rfl,hb0⟩))
     refine bodyPost_end (results_none rfl _ _ _) rfl ?_
     exact⟨rfl,below_row hb0 _,cs,HI.out.ext hb0⟩
    ·have e5:decide (5≤op)=true:=decide_eq_true q5
     have e6:decide (op≤10)=false:=decide_eq_false (by omega)
     clear hl
     go_enter Try.func21,Try.ntmps21
     go_wp2_with(first
      |(refine wpList_load_blk rfl 68 _ rfl p 5 rfl 70 u.cells 5 _ HP.out Try.underlying68 rfl cins_info (by rw [Uop.size];decide) ?_;rw [Uop.insX])
      |(go_at_call 26;(with_reducible refine(LB.out _).mono ?_);rintro e w2 ⟨rfl,hb0⟩))
     refine bodyPost_end (results_none rfl _ _ _) rfl ?_
     exact⟨rfl,below_row hb0 _,cs,HI.out.ext hb0⟩
end
end Go.Proofs.Ytapgojgcmlnbgac
namespace Go.Proofs.Ytapgojgcmlnbgac
open Go Go.RowKit
theorem gone_next {C:Core} (h:Inv (own C)) (hs:StillOk C) {R:List Uop} {u:Uop} (ho:C.ops=u::R) (h2:u.state=2) (h0:(goneOne C).hart.state=0):Inv (own (goneOne C))∧StillOk (goneOne C):=by
 obtain⟨hr,hops,hsl⟩:=gone_ran h ho h2
 have hO:=h.ops [] u R ho
 have hgo:(goneOne C).hart=goH C.hart C.mem:=by
  have:=hr.run
  rw [runP_step (show C.hart.state=0 from h.runs)] at this
  have:=congrArg Prod.fst this
  exact this.symm
 have hi1:Inv (own (goneOne C)):=by
  have:=gone_inv h (u:=u) (R:=R) ho h2 (by show(goH C.hart C.mem).state=0;rw [←hgo];exact h0)
  rw [goneOne_eq (C:=own C) (u:=u) (R:=R) ho] at this
  rw [goneOne_eq ho]
  exact this
 have hstop:stopB u=false:=by
  have hcs:u.commit.state=0:=by
   have:(goneOne C).hart=applyH u.commit C.hart:=by rw [goneOne_eq ho]
   rw [this] at h0
   exact h0
  unfold stopB
  rw [hcs]
  rcases Decidable.em (u.cause=0) with hc | hc
  ·rw [hc];simp
  ·have:=(hO.fault hc).2.1
   rw [this] at hcs
   cases hcs
 exact⟨hi1,gone_still hs ho hstop⟩
structure Left (X Y:Core) (m:Nat) (sq:List Int) (N:Int):Prop where
 inv:Inv (own X)
 still:StillOk X
 goes:goneP m X=Y
 seqs:(X.ops.take m).map (·.seq)=sq
 done:∀ u∈X.ops.take m,u.state=2
 many:m≤X.ops.length
 coms:(X.commits.length:Int)+m≤N
theorem Left.head {X Y:Core} {m:Nat} {sq:List Int} {N:Int} (h:Left X Y (m+1) sq N):∃ u R,X.ops=u::R∧u.state=2∧sq=u.seq::(R.take m).map (·.seq):=by
 have hm:=h.many
 cases ho:X.ops with
 |nil=>rw [ho] at hm;simp at hm
 |cons u R=>
  refine⟨u,R,rfl,h.done u (by rw [ho];simp),?_⟩
  rw [←h.seqs,ho]
  rfl
theorem Left.stop {X Y:Core} {m:Nat} {sq:List Int} {N:Int} (h:Left X Y (m+1) sq N) (hs:(goneOne X).hart.state≠0):Y=goneOne X:=by
 rw [←h.goes]
 unfold goneP
 rw [if_pos hs]
theorem Left.next {X Y:Core} {m:Nat} {sq:List Int} {N:Int} (h:Left X Y (m+1) sq N) (hs:(goneOne X).hart.state=0):Left (goneOne X) Y m sq.tail N:=by
 obtain⟨u,R,ho,h2,hsq⟩:=h.head
 obtain⟨h3,h4⟩:=gone_next h.inv h.still ho h2 hs
 obtain⟨hr,hops,_⟩:=gone_ran h.inv ho h2
 have hc:(goneOne X).commits.length=X.commits.length+1:=by rw [goneOne_eq ho];simp
 refine⟨h3,h4,?_,by rw [hops,hsq];rfl,fun v hv=>h.done v (by rw [ho];rw [hops] at hv;simp [hv]),?_,by have:=h.coms;omega⟩
 ·rw [←h.goes]
  conv=>rhs;unfold goneP
  rw [if_neg (fun hh=>hh hs)]
 ·have:=h.many
  rw [hops]
  rw [ho] at this
  simpa using this
theorem goneOne_parts {X X1 X2:Core} {u:Uop} {R:List Uop} {acc':List Acc} (ho:X.ops=u::R)
  (h1:X1=({ X with ops:=R,hart:=applyH u.commit X.hart,mem:=applyM u.commit X.mem,commits:=X.commits++[u.commit],names:=if 0<u.dest then giveD X.names u.old else X.names }:Core))
  (h2:X2=learnP X1 u) (ha:X2.access.filter (fun a=>!decide (a.seq=u.seq))=acc'):goneOne X={ X2 with access:=acc',still:=if aloneB u.ins=true then false else X2.still }:=by
 have hop:X.op 0=u:=by unfold Core.op;rw [ho];rfl
 subst h1 h2 ha
 unfold goneOne
 dsimp only
 rw [hop,ho]
 rfl
section
variable {B:Nat} {w w':World} {g p:Nat} {C:Core} {L:Lay} {ps:List Nat} {cs:Array Value}
theorem UopsAt.tail {u:Uop} {R:List Uop} {q:Nat} (h:UopsAt w B (u::R) (q::ps)):UopsAt w B R ps:=
 ⟨by have:=h.len;simpa using this,fun i v r hv hr=>h.at_ (i+1) v r (by simpa using hv) (by simpa using hr),(List.nodup_cons.1 h.nodup).2⟩
theorem CoreIs.popped (h:CoreIs B w g C L (p::ps) cs) {u:Uop} {R:List Uop} (ho:C.ops=u::R) {v':Value} (hr:PtrRow w B v' ps) (hv:v'.ownBlock=L.ops.ownBlock) :
  CoreIs B (w.setCell ⟨g,335,none⟩ v') g { C with ops:=R } { L with ops:=v' } ps (cs.setIfInBounds 335 v'):=by
 have hu:=h.rows.uops
 rw [ho] at hu
 have hr2:=h.rows.ptr h.low (World.grownBy.refl w _) hr hu.tail (Or.inl hv) (fun q hq=>Or.inl (List.mem_cons_of_mem _ hq))
 exact⟨by simpa using h.low,h.blk.set 335 v',h.cells.set_ops v' R,hr2.core h.low h.blk (grownBy_setCell w ⟨g,335,none⟩ v')⟩
theorem ptr_tail {go oo cap n:Nat} {q:Nat} (h:PtrRow w B (.slice (some ⟨go,oo,none⟩) n cap) (q::ps)) :
  n=ps.length+1∧n≤cap∧cap≤9223372036854775807∧(cap=1→PtrRow w B (.slice (some ⟨go,oo,none⟩) 0 0) ps)∧(cap≠1→PtrRow w B (.slice (some ⟨go,oo+1,none⟩) ps.length (cap - 1)) ps):=by
 rcases h with⟨e,_⟩ | ⟨go',oo',cap',cur,e,hb,hB,h1,h2,h3,h4⟩
 ·cases e
 ·injection e with e1 e2 e3
  injection e1 with e1
  injection e1 with e1 e4
  subst e1 e3 e4
  simp only [List.length_cons] at e2 h1
  refine⟨e2,by omega,h2,fun hc=>?_,fun hc=>?_⟩
  ·have:ps=[]:=List.eq_nil_of_length_eq_zero (by omega)
   subst this
   exact Or.inr ⟨go,oo,0,cur,rfl,hb,hB,Nat.le_refl _,by omega,by omega,fun i r hi=>by cases hi⟩
  ·refine Or.inr ⟨go,oo+1,cap - 1,cur,rfl,hb,hB,by omega,by omega,by omega,fun i r hi=>?_⟩
   have:=h4 (i+1) r (by simpa using hi)
   rwa [show oo+(i+1)=oo+1+i by omega] at this
theorem ptr_some {v:Value} {q:Nat} (h:PtrRow w B v (q::ps)):∃ go oo n cap,v = .slice (some ⟨go,oo,none⟩) n cap:=by
 rcases h with⟨_,e⟩ | ⟨go,oo,cap,cur,rfl,_⟩
 ·cases e
 ·exact⟨go,oo,_,cap,rfl⟩
theorem appC_cells (h:CoreCells cs C L) (hl:C.hart.regs.length=32) {c:Com} (h0:0≤c.rd) (h1:c.rd≤31):CoreCells (appC cs 4 c) { C with hart:=applyH c C.hart } L:=by
 refine h.part_hart (applyH c C.hart) (by rw [appC_size,h.size]) (fun i hi=>?_) (fun j hj=>?_)
 ·rw [←appC_hart C.hart c hl h0 h1]
  have hz:C.hart.cells.size=35:=Hart.cells_size hl
  obtain⟨n,hn⟩:=Int.eq_ofNat_of_zero_le h0
  unfold appC
  dsimp only
  have key:∀ (a b:Array Value) (k:Nat) (v:Value),a.size=340→b.size=35→k<35→(∀ i,i<35→a[4+i]? = b[i]?)→∀ i,i<35→(a.setIfInBounds (4+k) v)[4+i]? = (b.setIfInBounds (0+k) v)[i]? := fun a b k v ha hb hk hab i hi=>by
   rw [Array.getElem?_setIfInBounds,Array.getElem?_setIfInBounds]
   by_cases e:k=i
   ·subst e
    rw [if_pos rfl,if_pos (by omega),if_pos (by omega),if_pos (by omega)]
   ·rw [if_neg (by omega),if_neg (by omega)]
    exact hab i hi
  have k1:=key cs C.hart.cells 32 (.int .u32 c.next) h.size hz (by omega) h.hart
  have k2:=key _ _ 33 (.int .i64 c.state) (by simp [h.size]) (by simp [hz]) (by omega) k1
  have k3:=key _ _ 34 (.int .i64 c.cause) (by simp [h.size]) (by simp [hz]) (by omega) k2
  split
  ·rw [hn,Int.toNat_natCast]
   exact key _ _ n (.int .u32 c.value) (by simp [h.size]) (by simp [hz]) (by omega) k3 i hi
  ·exact k3 i hi
 ·obtain⟨n,hn⟩:=Int.eq_ofNat_of_zero_le h0
  unfold appC
  dsimp only
  rw [hn,Int.toNat_natCast]
  have key:∀ (a:Array Value) (k:Nat) (v:Value),k<35→(a.setIfInBounds (4+k) v)[j]? = a[j]? := fun a k v hk=>by
   rw [Array.getElem?_setIfInBounds,if_neg (by omega)]
  split
  ·rw [key _ n _ (by omega),key _ 34 _ (by omega),key _ 33 _ (by omega),key _ 32 _ (by omega)]
  ·rw [key _ 34 _ (by omega),key _ 33 _ (by omega),key _ 32 _ (by omega)]
theorem CoreIs.applied (h:CoreIs B w g C L ps cs) (hl:C.hart.regs.length=32) {c:Com} (h0:0≤c.rd) (h1:c.rd≤31) {w1:World} (hg1:w.grownBy w1 (some g)) (hB:Blk w1 g 60 (appC cs 4 c))
  (hown:w'.ownsRow B 5 1 L.mem C.mem.length ((applyM c C.mem).map (.int .u8))) (hlen:(applyM c C.mem).length=C.mem.length) (hg2:w1.grownBy w' L.mem.ownBlock) :
  CoreIs B w' g { C with hart:=applyH c C.hart,mem:=applyM c C.mem } L ps (appC cs 4 c):=by
 have hr1:=h.rows.core h.low h.blk hg1
 have hlow1:=Nat.le_trans h.low hg1.size
 have hr2:=hr1.memory hlow1 hg2 (m':=applyM c C.mem) (by rw [hlen];exact hown)
 have hne:some g≠L.mem.ownBlock:=blk_row h.blk h.rows.mem (by decide)
 have hc:=appC_cells h.cells hl h0 h1
 exact⟨Nat.le_trans hlow1 hg2.size,hB.grown hg2 hne,⟨hc.size,hc.window,hc.phys,hc.wide,hc.commits,hc.mem,hc.cycles,hc.taken,hc.backs,hc.script,hc.slots,hc.ops,hc.access,hc.seq,hc.pc,hc.still,hc.hart,hc.tab,hc.names,hc.words,hc.there⟩,hr2⟩
theorem CoreIs.setcoms (h:CoreIs B w g C L ps cs) (hg:w.grownBy w' L.commits.ownBlock) {v':Value} {coms':List Com} (hown:w'.ownsRow B 65 11 v' coms'.length (comsV coms'))
  (hv:v'.ownBlock=L.commits.ownBlock∨∀ k,v'.ownBlock=some k→w.heap.size≤k) :
  (CoreIs B (w'.setCell ⟨g,3,none⟩ v') g { C with commits:=coms' } { L with commits:=v' } ps (cs.setIfInBounds 3 v')∧Turned B w (w'.setCell ⟨g,3,none⟩ v'))∧w'.cell? ⟨g,3,none⟩=some L.commits∧w'.frozen? ⟨g,3,none⟩=false∧g<w'.heap.size:=by
 have hb:Blk w' g 60 cs:=h.blk.grown hg (by
  rcases own_other h.rows.commits h.blk (by decide) with e | e
  ·rw [e];simp
  ·exact fun e'=>e e'.symm)
 have hr:=h.rows.coms h.low hg hown hv
 have ht:Turned B w w':=Turned.grown hg fun k hk=>by
  rcases h.rows.commits.2 with⟨e,_⟩ | ⟨go,c,cur,e,hl,hh,_⟩
  ·rw [e] at hk;cases hk
  ·rw [e] at hk
   cases hk
   exact⟨hl,_,_,_,hh,rfl⟩
 have hg2:=grownBy_setCell w' ⟨g,3,none⟩ v'
 exact⟨⟨⟨Nat.le_trans h.low (Nat.le_trans hg.size hg2.size),hb.set 3 v',h.cells.set_commits v' coms',hr.core (Nat.le_trans h.low hg.size) hb hg2⟩,
  ht.trans (Turned.grown hg2 fun k hk=>by cases hk;exact⟨h.rows.base,_,_,_,hb,rfl⟩)⟩,(hb.cell 3).trans h.cells.commits,hb.frozen 3,hb.lt⟩
structure Side (w:World) (p bs:Nat) (u:Uop) (base:Nat) (AI:Option Addr) (n cI:Nat) (sq:List Int):Prop where
 head:Blk w p 70 u.cells
 box:Blk w bs 3 #[.int .i64 u.seq]
 gone:w.ownsRow base 3 1 (.slice AI n cI) n (sq.map (.int .i64))
section
variable {bs base n cI:Nat} {u:Uop} {AI:Option Addr} {sq:List Int}
theorem Side.step (h:Side w p bs u base AI n cI sq) {row:Option Nat} (hg:w.grownBy w' row) (hr:∀ k,row=some k→∃ t cs,Blk w k t cs∧t≠70∧t≠3):Side w' p bs u base AI n cI sq:=by
 refine⟨h.head.grown hg (fun e=>?_),h.box.grown hg (fun e=>?_),h.gone.kept hg ?_⟩
 ·obtain⟨t,cs,hk,h1,_⟩:=hr p e.symm
  exact blk_other h.head hk (fun e=>h1 e.symm) rfl
 ·obtain⟨t,cs,hk,_,h1⟩:=hr bs e.symm
  exact blk_other h.box hk (fun e=>h1 e.symm) rfl
 ·rcases row with _ | k
  ·exact Classical.em _
  ·obtain⟨t,cs,hk,_,h1⟩:=hr k rfl
   exact own_other h.gone hk (fun e=>h1 e.symm)
theorem Side.ext (h:Side w p bs u base AI n cI sq) (hb:Below w.heap.size w w'):Side w' p bs u base AI n cI sq:=h.step (below_grownBy hb) (fun k hk=>by cases hk)
theorem Side.own (h:Side w p bs u base AI n cI sq) {v:Value} {e:TypeId} {size m:Nat} {xs:List Value} (ho:w.ownsRow B e size v m xs) (hg:w.grownBy w' v.ownBlock) (h1:e≠70) (h2:e≠3):Side w' p bs u base AI n cI sq:=
 h.step hg fun k hk=>by
  rcases ho.2 with⟨e',_⟩ | ⟨go,c,cur,e',_,hh,_⟩
  ·rw [e'] at hk;cases hk
  ·rw [e'] at hk
   cases hk
   exact⟨_,_,hh,h1,h2⟩
theorem Side.core (h:Side w p bs u base AI n cI sq) (hk:Blk w g 60 cs) (hg:w.grownBy w' (some g)):Side w' p bs u base AI n cI sq:=
 h.step hg fun k e=>by cases e;exact⟨_,_,hk,by decide,by decide⟩
end
end
theorem append_where {P:Program} (w:World) (base:Nat) (t ty e:TypeId) (i:TypeInfo) (z:Value) (size bytes:Nat) (ht:P.underlying t=some (.slice e)) (hi:P.info? e=some i) (hz:i.zero=some z)
  (hsize:i.size=size) (hby:i.bytes=bytes) (hzs:z.cells.size=size) (hsz:0<size)
  (v:Value) (n:Nat) (xs:List Value) (hown:w.ownsRow base e size v n xs)
  (a:Addr) (m c:Nat) (news:List Value) (hl:news.length=m*size) (hnews:∀ j u,news[j]? = some u→w.cell? (a.add j)=some u) (h1:∀ u∈news,u.oneCell'=true)
  (h63:n+m≤maxLen) (hbytes:(n+m)*bytes≤140737488355328) (v':Value) (w':World) (hr:(Builtin.append_ #[t,t] ty #[v, .slice (some a) m c]).run P w = .ok v' w') :
  v'.ownBlock=v.ownBlock∨∀ k,v'.ownBlock=some k→w.heap.size≤k:=by
 have hsmall:n+m≤9223372036854775807:=by simp only [maxLen] at h63;omega
 rcases hown.2 with⟨rfl,rfl⟩ | ⟨g,cap,cur,rfl,hbg,hg,hnc,hcm,hcs,htake⟩
 ·have hx:xs=[]:=List.eq_nil_of_length_eq_zero (by simpa using hown.1)
  subst hx
  obtain⟨v2,w2,h2,h3,_⟩:=run_append_own (P:=P) w w.heap.size t ty e i z size bytes ht hi hz hsize hby hzs hsz _ 0 [] (World.ownsRow_nil _ _ _ _) a m c news hl hnews h1 h63 hbytes (Nat.le_refl _)
  rw [hr] at h2
  injection h2 with h2 h2'
  subst h2
  exact Or.inr fun k hk=>(h3.lt k hk).1
 ·subst hsize
  subst hby
  by_cases hroom:n+m≤cap
  ·have hfit:n*i.size+news.length≤cur.size:=by rw [hl,hcs,←Nat.add_mul];exact Nat.mul_le_mul_right _ hroom
   have h2:=run_append_room (P:=P) w t ty e i ht hi g n cap cur hg a m c news hl hnews h1 hroom hfit
   rw [hr] at h2
   injection h2 with h2 h2'
   subst h2
   exact Or.inl rfl
  ·have holds:∀ j u,xs[j]? = some u→w.cell? ((⟨g,0,none⟩:Addr).add j)=some u:=hown.cells (g:=g) rfl
   have h2:=run_append_grow (P:=P) w t ty e i z ht hi hz ⟨g,0,none⟩ n cap xs hown.1 holds a m c news hl hnews (by omega) (by omega) (growslice_fits (by omega) hbytes)
   rw [hr] at h2
   injection h2 with h2 h2'
   subst h2
   right
   intro k hk
   simp [Value.ownBlock] at hk
   omega
theorem append_room_at {P:Program} (w:World) (t ty e:TypeId) (i:TypeInfo) (ht:P.underlying t=some (.slice e)) (hi:P.info? e=some i) (hsz:i.size=1)
  (g oo sLen sCap:Nat) (cur:Array Value) (hg:w.heap[g]? = some (.cells cur e (0,0)))
  (a:Addr) (c:Nat) (x:Value) (hnews:w.cell? a=some x) (h1:x.oneCell'=true)
  (hroom:sLen+1≤sCap) (hfit:oo+sLen+1≤cur.size) :
  (Builtin.append_ #[t,t] ty #[.slice (some ⟨g,oo,none⟩) sLen sCap, .slice (some a) 1 c]).run P w =
   .ok (.slice (some ⟨g,oo,none⟩) (sLen+1) sCap) (w.setRow g (cur.toList.take (oo+sLen)++[x]++cur.toList.drop (oo+sLen+1)).toArray):=by
 have hn':∀ j u,[x][j]? = some u→w.cell? (a.add j)=some u:=fun j u hu=>by
  match j with
  |0=>cases hu;simpa [Addr.add] using hnews
  |j+1=>cases hu
 have hf:=run_firstCells_some (P:=P) w i.size 1 a 1 c [x] (by simp [hsz]) hn'
 have hst:=run_storeCells_at P g (oo+sLen) e [x] 0 cur w hg (by simpa using hfit) (fun u hu=>by simp at hu;rw [hu];exact h1)
 simp only [Nat.add_zero] at hst
 rw [hsz] at hf
 simp [Builtin.append_,run_underlying ht,sizeOf,typeInfo,hi,hsz,Builtin.lenOf,hroom,hf,Addr.add_lit,hst]
theorem ptr_info:(Try.prog.info? 66).map (fun i=>(i.zero,i.size,i.bytes))=some (some (Value.pointer none),1,8):=by kernel_rfl
theorem run_append_ptr {w:World} {B:Nat} {v:Value} {ps:List Nat} (h:PtrRow w B v ps) (hB:B≤w.heap.size) (hl:ps.length≤1000) (ad:Addr) (c:Nat) (p:Nat) (hx:w.cell? ad=some (.pointer (some ⟨p,0,none⟩))) (ty:TypeId) :
  ∃ v' w',(Builtin.append_ #[57,57] ty #[v, .slice (some ad) 1 c]).run Try.prog w = .ok v' w'∧PtrRow w' B v' (ps++[p])∧w.grownBy w' v.ownBlock∧(v'.ownBlock=v.ownBlock∨∀ k,v'.ownBlock=some k→w.heap.size≤k):=by
 obtain⟨i0,hi,hz0,hz1,hz2⟩:=info_parts ptr_info
 have hn':∀ j u,[(Value.pointer (some ⟨p,0,none⟩))][j]? = some u→w.cell? (ad.add j)=some u:=fun j u hu=>by
  match j with
  |0=>cases hu;rw [←hx];obtain⟨b,o,fr⟩:=ad;rfl
  |j+1=>cases hu
 have newrow:∀ (n cap:Nat) (xs:List Nat) (cur:Array Value),xs.length=n→n≤cap→cap≤maxLen→cur.size=cap→(∀ (i:Nat) (q:Nat),xs[i]? = some q→cur[i]? = some (Value.pointer (some ⟨q,0,none⟩))) →
   PtrRow (w.drew.alloc (.cells cur 66)) B (.slice (some ⟨w.heap.size,0,none⟩) n cap) xs∧w.grownBy (w.drew.alloc (.cells cur 66)) v.ownBlock∧((Value.slice (some ⟨w.heap.size,0,none⟩) n cap).ownBlock=v.ownBlock∨∀ k,(Value.slice (some ⟨w.heap.size,0,none⟩) n cap).ownBlock=some k→w.heap.size≤k):=by
  intro n cap xs cur e1 e2 e3 e4 e5
  subst e1
  have hb:Below w.heap.size w (w.drew.alloc (.cells cur 66)):=((Below.refl _ _).drew).alloc (Nat.le_refl _) _
  refine⟨Or.inr ⟨w.heap.size,0,cap,cur,rfl,hB,?_,e2,by unfold maxLen at e3;omega,by omega,fun i q hq=>by rw [Nat.zero_add];exact e5 i q hq⟩,below_row hb _,Or.inr fun k hk=>?_⟩
  ·have:=Blk.new w.drew 66 cur
   exact this
  ·simp [Value.ownBlock] at hk
   omega
 rcases h with⟨rfl,rfl⟩ | ⟨go,oo,cap,cur,rfl,hb,hBk,h1,h2,h3,h4⟩
 ·have hr:=run_append_nil (P:=Try.prog) w 57 ty 66 i0 (.pointer none) Try.underlying57 hi hz0 ad 1 c [.pointer (some ⟨p,0,none⟩)] (by rw [hz1];rfl) hn' (by decide) (by decide) (by rw [hz2];decide)
  have hc:=grownCap_ge w 1 0 66
  have hcm:=grownCap_le_maxLen w 1 0 66 (by decide)
  refine⟨_,_,hr,newrow 1 _ [p] _ rfl hc hcm ?_ ?_⟩
  ·simp [Builtin.zeroCells,Value.cells]
   omega
  ·intro i q hq
   match i with
   |0=>cases hq;rw [Array.getElem?_append_left (by simp)];rfl
   |i+1=>cases hq
 ·have hsz:(Value.pointer none).cells.size=1:=rfl
  by_cases hroom:ps.length+1≤cap
  ·have hr:=append_room_at (P:=Try.prog) w 57 ty 66 i0 Try.underlying57 hi hz1 go oo ps.length cap cur hBk ad c _ hx rfl hroom (by omega)
   refine⟨_,_,hr,?_,grownBy_setRow _ _ _,Or.inl rfl⟩
   refine Or.inr ⟨go,oo,cap,_,by rw [List.length_append];rfl,hb,hBk.setRow _,by simpa using hroom,h2,?_,fun i q hq=>?_⟩
   ·simp
    omega
   ·rw [List.getElem?_toArray,List.append_assoc]
    by_cases hi:i<ps.length
    ·rw [List.getElem?_append_left (by simp;omega),List.getElem?_take,if_pos (by omega)]
     rw [List.getElem?_append_left hi] at hq
     simpa using h4 i q hq
    ·have hi2:i=ps.length:=by
      have:=(List.getElem?_eq_some_iff.1 hq).1
      simp at this
      omega
     subst hi2
     rw [List.getElem?_append_right (by omega),Nat.sub_self] at hq
     cases hq
     rw [List.getElem?_append_right (by simp;omega),List.length_take,Nat.min_eq_left (by simp;omega),Nat.sub_self]
     rfl
  ·have hold:∀ j u,(ps.map fun q=>Value.pointer (some ⟨q,0,none⟩))[j]? = some u→w.cell? ((⟨go,oo,none⟩:Addr).add j)=some u:=fun j u hu=>by
    rw [List.getElem?_map] at hu
    obtain⟨q,hq,rfl⟩:=Option.map_eq_some_iff.1 hu
    rw [Addr.add_lit,hBk.cell]
    exact h4 j q hq
   have hr:=run_append_grow (P:=Try.prog) w 57 ty 66 i0 (.pointer none) Try.underlying57 hi hz0 ⟨go,oo,none⟩ ps.length cap _ (by rw [hz1];simp) hold ad 1 c [.pointer (some ⟨p,0,none⟩)] (by rw [hz1];rfl) hn' (by omega) (by omega) (growslice_fits (by omega) (by rw [hz2];omega))
   have hc:=grownCap_ge w (ps.length+1) cap 66
   have hcm:=grownCap_le_maxLen w (ps.length+1) cap 66 (by unfold maxLen;omega)
   refine⟨_,_,hr,newrow (ps.length+1) _ (ps++[p]) _ (by simp) hc hcm ?_ ?_⟩
   ·simp [Builtin.zeroCells,Value.cells]
    omega
   ·intro i q hq
    rw [Array.getElem?_append_left (by
     have:=(List.getElem?_eq_some_iff.1 hq).1
     simp at this
     simp
     omega)]
    rw [List.append_toArray,List.getElem?_toArray]
    have e:(ps.map fun q=>Value.pointer (some ⟨q,0,none⟩))++[.pointer (some ⟨p,0,none⟩)]=(ps++[p]).map fun q=>Value.pointer (some ⟨q,0,none⟩):=by simp
    rw [e,List.getElem?_map,hq]
    rfl
theorem wpList_append_ptr {w:World} {ops:Array Oper} {rest:List Oper} {o:Oper} {a:Act} {Q:Exit→Act→World→Prop} (hgd:o.guard=none) (s x:Operand)
  (ho:o.op = .call { callee := .builtin .append,args:=#[s,x],argTypes:=#[57,57] })
  {B:Nat} {v:Value} {ps:List Nat} (hs:a.eval s=v) (h:PtrRow w B v ps) (hB:B≤w.heap.size) (hl:ps.length≤1000) (ad:Addr) (c:Nat) (p:Nat) (hx:a.eval x = .slice (some ad) 1 c) (hc:w.cell? ad=some (.pointer (some ⟨p,0,none⟩)))
  (hk:∀ v' w',PtrRow w' B v' (ps++[p])→w.grownBy w' v.ownBlock→(v'.ownBlock=v.ownBlock∨∀ k,v'.ownBlock=some k→w.heap.size≤k)→wpList Try.prog ops Q rest (a.put o.dst v') w'):wpList Try.prog ops Q (o::rest) a w:=
 wpList_plain hgd fun _ hK=>by
  obtain⟨v',w',hr,h2,h3,h4⟩:=run_append_ptr h hB hl ad c p hc o.type
  unfold Oper.wp execOp
  simp only [ho,resolve,invoke,builtin,Sem.run_bind,Sem.run_pure,Result.andThen_ok,List.map_toArray,List.map_cons,List.map_nil,hs,hx,hr]
  exact hK _ _ (hk v' w' h2 h3 h4)
theorem ptr_elem:Try.prog.underlying 57=some (.slice (Try.prog.elem 57)):=by kernel_rfl
theorem ptr_sizeOf (w:World):(sizeOf (Try.prog.elem 57)).run Try.prog w = .ok 1 w:=by
 have h:Try.prog.elem 57=66:=by kernel_rfl
 obtain⟨i0,hi,hz0,hz1,hz2⟩:=info_parts ptr_info
 rw [h]
 simp [sizeOf,typeInfo,hi,hz1]
theorem run_tail_ptr {w:World} {B go oo n cap q:Nat} {ps:List Nat} (h:PtrRow w B (.slice (some ⟨go,oo,none⟩) n cap) (q::ps)) :
  ∃ A m c,(Instr.sliceAt 57 (.slice (some ⟨go,oo,none⟩) n cap) (some (.int .i64 1)) none none).run Try.prog w = .ok (.slice A m c) w∧PtrRow w B (.slice A m c) ps∧(Value.slice A m c).ownBlock=some go:=by
 obtain⟨hn,hc,hcm,h1,h2⟩:=ptr_tail h
 have hr:=run_slice_l (P:=Try.prog) w 57 (some ⟨go,oo,none⟩) n cap ptr_elem .i64 1 (by decide) (by omega)
 rw [←run_sliceAt_slice (P:=Try.prog) w 57 _ _ _ _ ptr_elem,ptr_sizeOf] at hr
 by_cases e:cap=1
 ·refine⟨some ⟨go,oo,none⟩,0,0,?_,h1 e,rfl⟩
  rw [hr]
  have:n=1:=by omega
  simp [Result.andThen,sliced,e,this]
 ·refine⟨some ⟨go,oo+1,none⟩,ps.length,cap - 1,?_,h2 e,rfl⟩
  rw [hr]
  have e':¬ cap=1:=e
  simp [Result.andThen,sliced,e',hn,Addr.add_lit]
theorem wpList_tail_ptr {w:World} {ops:Array Oper} {rest:List Oper} {o:Oper} {a:Act} {Q:Exit→Act→World→Prop} (hgd:o.guard=none) (x:Operand)
  (ho:o.op = .slice 57 x (some (.const (.int .i64 1))) none none) {B go oo n cap q:Nat} {ps:List Nat} (hx:a.eval x = .slice (some ⟨go,oo,none⟩) n cap) (h:PtrRow w B (.slice (some ⟨go,oo,none⟩) n cap) (q::ps))
  (hk:∀ A m c,PtrRow w B (.slice A m c) ps→(Value.slice A m c).ownBlock=some go→wpList Try.prog ops Q rest (a.put o.dst (.slice A m c)) w):wpList Try.prog ops Q (o::rest) a w:=
 wpList_plain hgd fun _ hK=>by
  obtain⟨A,m,c,hr,h2,h3⟩:=run_tail_ptr h
  have e1:a.eval (.const (.int .i64 1)) = .int .i64 1:=rfl
  unfold Oper.wp execOp
  simp only [ho,hx,Option.map_some,Option.map_none,e1,Sem.run_bind,Sem.run_pure,Result.andThen_ok,hr]
  exact hK _ _ (hk A m c h2 h3)
end Go.Proofs.Ytapgojgcmlnbgac
namespace Go.Proofs.Ytapgojgcmlnbgac
open Go.RowKit
theorem wrong_any (A:Option Addr) (cap:Nat) (l:List Acc) (seq:Int) (w:World) (hl:l.length≤maxLen) (hwf:∀ a∈l,a.Wf) (hA:AccsAt w w.heap.size A l) :
  Calls Try.prog 63 #[.slice A l.length cap, .int .i64 seq] w
   fun e w'=>e = .returned (.tuple #[.int .i64 (wrongP l seq).1, .bool (wrongP l seq).2])∧Below w.heap.size w w':=by
 unfold maxLen at hl
 generalize hx:wrongP l seq=x
 have Hx:=Lib.hid hx
 clear hx
 go_enter Try.func63,Try.ntmps63
 go_wp2_with fail
 go_loopw [14] (fun v wr=>∃ k:Nat,v = .int .i64 k∧k≤l.length∧Below w.heap.size w wr∧Hid (wrongGo l seq (l.drop k)=x)) (fun v _=>l.length - (intOf v).toNat)
 case atStart=>exact⟨0,rfl,by omega,Below.refl _ _,Hx⟩
 case round=>
  obtain⟨k,rfl,hk,hbr,HR⟩:=hrel
  by_cases hlt:k<l.length
  ·obtain⟨b,o,s,rfl,hbB,hs,hd,hmem,hcs⟩:=(hA.below hbr).at_ hlt
   obtain⟨c0,c1,c2,c3,c4,c5,c6⟩:=hcs
   have Hd:=Lib.hid hd
   have Hs:=Lib.hid hs
   clear hd hs
   obtain⟨sq,st,kn,sat,smn,sdt,sdn⟩:=s
   dsimp only at c0 c1 c2 c3 c4 c5 c6
   by_cases hst:isStore seq ⟨sq,st,kn,sat,smn,sdt,sdn⟩=true
   ·obtain⟨rfl,rfl,rfl⟩:st=true∧kn=true∧sq=seq:=by
     simp [isStore] at hst
     simp [hst]
    have HX:Hid (l.foldl (wrongStep ⟨sq,true,true,sat,smn,sdt,sdn⟩) (0,false)=x):=by
     have h:=HR.out
     rw [Hd.out,wrongGo,if_pos hst] at h
     exact h
    have hz:=hbr.size
    have h3:(sq != sq)=false:=by simp
    clear hst HR Hd Hs
    go_wp2_with fail
    refine wp_gen ?_
    intro W1 hW1
    have hbs:BlkIs W1 wr.heap.size (Acc.cells ⟨sq,true,true,sat,smn,sdt,sdn⟩):=fun i=>by rw [hW1,World.cell?_alloc_new]
    have hbr1:Below w.heap.size w W1:=by rw [hW1];exact hbr.alloc hbr.size _
    have hz1:=Lib.hid (show W1.heap.size=wr.heap.size+1 by rw [hW1];simp)
    clear hW1
    generalize wr.heap.size=g at hbs hz hz1 ⊢
    go_loopw [8,9,34] (fun v8 v9 v34 w2=>∃ (j:Nat) (y:Int×Bool),v8 = .int .i64 y.1∧v9 = .bool y.2∧v34 = .int .i64 j∧j≤l.length∧Below (g+1) W1 w2∧Hid ((l.drop j).foldl (wrongStep ⟨sq,true,true,sat,smn,sdt,sdn⟩) y=x)) (fun _ _ v _=>l.length - (intOf v).toNat)
    case atStart=>exact⟨0,(0,false),rfl,rfl,rfl,by omega,Below.refl _ _,HX⟩
    case round=>
     obtain⟨j,⟨y1,y2⟩,rfl,rfl,rfl,hj,hb2,HR⟩:=hrel
     dsimp only
     have hbr2:=hbr1.trans (hb2.mono (by omega))
     by_cases hjlt:j<l.length
     ·obtain⟨b',o',a,hA',hbB',ha,hda,hmem',hcs'⟩:=((hA.below hbr1).below (hb2.mono (by omega))).at_ hjlt
      obtain⟨rfl,rfl⟩:b=b'∧o=o':=by simpa using hA'
      obtain⟨d0,d1,d2,d3,d4,d5,d6⟩:=hcs'
      have hbs2:=hbs.below hb2 (by omega)
      unfold BlkIs at hbs2
      have hgl:g<wr.heap.size:=by have:=hb2.size;have:=hz1.out;omega
      have hwa:=hwf a hmem'
      have hws:=hwf _ hmem
      have HR':Hid ((l.drop (j+1)).foldl (wrongStep ⟨sq,true,true,sat,smn,sdt,sdn⟩) (wrongStep ⟨sq,true,true,sat,smn,sdt,sdn⟩ (y1,y2) a)=x):=by
       have h:=HR.out
       rw [hda,List.foldl_cons] at h
       exact h
      clear hda ha hA' HR
      obtain⟨aq,ast,akn,aat,amn,adt,adn⟩:=a
      dsimp only at d0 d1 d2 d3 d4 d5 d6
      rcases ast with _ | _
      ·rcases akn with _ | _
       ·go_wp2_with fail
        go_roundw
        case rel=>exact⟨j+1,(y1,y2),rfl,rfl,by go_num,by omega,hb2.alloc (by omega) _,HR'⟩
        case measure=>simp [intOf];omega
       ·rcases adn with _ | _
        ·go_wp2_with fail
         go_roundw
         case rel=>exact⟨j+1,(y1,y2),rfl,rfl,by go_num,by omega,hb2.alloc (by omega) _,HR'⟩
         case measure=>simp [intOf];omega
        ·by_cases hsa:sq<aq
         ·have hbn:=hb2.alloc (by omega) (.cells (Acc.cells ⟨aq,false,true,aat,amn,adt,true⟩) 82)
          rcases hm:meetB ⟨sq,true,true,sat,smn,sdt,sdn⟩ ⟨aq,false,true,aat,amn,adt,true⟩ with _ | _
          ·go_wp2_with(go_at_call 83;((with_reducible refine(meet_any ⟨sq,true,true,sat,smn,sdt,sdn⟩ ⟨aq,false,true,aat,amn,adt,true⟩ _ hws hwa).mono ?_);rintro e w3 ⟨rfl,hb3⟩;rw [hm]))
           go_roundw
           case rel=>exact⟨j+1,(y1,y2),rfl,rfl,by go_num,by omega,hbn.trans (hb3.mono (by simp;omega)),by
            have h:=HR'.out
            simp only [wrongStep,hm,Bool.and_false,Bool.false_and] at h
            exact h⟩
           case measure=>simp [intOf];omega
          ·have key:∀ b:Bool,(!y2 || decide (aq<y1))=b→Hid ((l.drop (j+1)).foldl (wrongStep ⟨sq,true,true,sat,smn,sdt,sdn⟩) (if b then (aq,true) else (y1,y2))=x):=fun b hb=>by
            have h:=HR'.out
            simp only [wrongStep,hm,decide_eq_true hsa,Bool.not_false,Bool.and_true,Bool.true_and,hb] at h
            exact h
           have Key:=Lib.hid key
           clear key HR'
           rcases y2 with _ | _
           ·go_wp2_with(go_at_call 83;((with_reducible refine(meet_any ⟨sq,true,true,sat,smn,sdt,sdn⟩ ⟨aq,false,true,aat,amn,adt,true⟩ _ hws hwa).mono ?_);rintro e w3 ⟨rfl,hb3⟩;rw [hm];have hf3:∀ i,w3.cell? ⟨wr.heap.size,i,none⟩=(Acc.cells ⟨aq,false,true,aat,amn,adt,true⟩)[i]? := fun i=>by rw [hb3.cell (by simp),World.cell?_alloc_new]))
            go_roundw
            case rel=>exact⟨j+1,(aq,true),rfl,rfl,by go_num,by omega,hbn.trans (hb3.mono (by simp;omega)),Key.out true rfl⟩
            case measure=>simp [intOf];omega
           ·by_cases hlq:aq<y1
            ·go_wp2_with(go_at_call 83;((with_reducible refine(meet_any ⟨sq,true,true,sat,smn,sdt,sdn⟩ ⟨aq,false,true,aat,amn,adt,true⟩ _ hws hwa).mono ?_);rintro e w3 ⟨rfl,hb3⟩;rw [hm];have hf3:∀ i,w3.cell? ⟨wr.heap.size,i,none⟩=(Acc.cells ⟨aq,false,true,aat,amn,adt,true⟩)[i]? := fun i=>by rw [hb3.cell (by simp),World.cell?_alloc_new]))
             go_roundw
             case rel=>exact⟨j+1,(aq,true),rfl,rfl,by go_num,by omega,hbn.trans (hb3.mono (by simp;omega)),Key.out true (by simp [hlq])⟩
             case measure=>simp [intOf];omega
            ·go_wp2_with(go_at_call 83;((with_reducible refine(meet_any ⟨sq,true,true,sat,smn,sdt,sdn⟩ ⟨aq,false,true,aat,amn,adt,true⟩ _ hws hwa).mono ?_);rintro e w3 ⟨rfl,hb3⟩;rw [hm];have hf3:∀ i,w3.cell? ⟨wr.heap.size,i,none⟩=(Acc.cells ⟨aq,false,true,aat,amn,adt,true⟩)[i]? := fun i=>by rw [hb3.cell (by simp),World.cell?_alloc_new]))
             go_roundw
             case rel=>exact⟨j+1,(y1,true),rfl,rfl,by go_num,by omega,hbn.trans (hb3.mono (by simp;omega)),Key.out false (by simp [hlq])⟩
             case measure=>simp [intOf];omega
         ·go_wp2_with fail
          go_roundw
          case rel=>exact⟨j+1,(y1,y2),rfl,rfl,by go_num,by omega,hb2.alloc (by omega) _,by
           have h:=HR'.out
           simp only [wrongStep,decide_eq_false hsa,Bool.and_false,Bool.false_and] at h
           exact h⟩
          case measure=>simp [intOf];omega
      ·go_wp2_with fail
       go_roundw
       case rel=>exact⟨j+1,(y1,y2),rfl,rfl,by go_num,by omega,hb2.alloc (by omega) _,HR'⟩
       case measure=>simp [intOf];omega
     ·have e:x=(y1,y2):=by
       have h:=HR.out
       rw [List.drop_eq_nil_of_le (by omega)] at h
       exact h.symm
      go_wp2_with fail
      go_ret2
      rw [e]
      exact⟨rfl,hbr2⟩
   ·have HR':Hid (wrongGo l seq (l.drop (k+1))=x):=by
     have h:=HR.out
     rw [Hd.out,wrongGo,if_neg hst] at h
     exact h
    have hb3:=hbr.alloc hbr.size (.cells (Acc.cells ⟨sq,st,kn,sat,smn,sdt,sdn⟩) 82)
    clear HR Hd Hs
    rcases st with _ | _
    ·clear hst
     go_wp2_with fail
     go_roundw
     case rel=>exact⟨k+1,by go_num,by omega,hb3,HR'⟩
     case measure=>simp [intOf];omega
    ·rcases kn with _ | _
     ·clear hst
      go_wp2_with fail
      go_roundw
      case rel=>exact⟨k+1,by go_num,by omega,hb3,HR'⟩
      case measure=>simp [intOf];omega
     ·have h3:(sq != seq)=true:=by simpa [isStore] using hst
      clear hst
      go_wp2_with fail
      go_roundw
      case rel=>exact⟨k+1,by go_num,by omega,hb3,HR'⟩
      case measure=>simp [intOf];omega
  ·have e:x=(0,false):=by
    have h:=HR.out
    rw [List.drop_eq_nil_of_le (by omega)] at h
    exact h.symm
   go_wp2_with fail
   go_ret2
   rw [e]
   exact⟨rfl,hbr⟩
end Go.Proofs.Ytapgojgcmlnbgac
