/- Parts of a proof. -/
import Derived.Test.YtapgojgcmlnbgacK15
import Derived.Test.YtapgojgcmlnbgacK00
import Derived.Test.YtapgojgcmlnbgacProg
import Derived.ProofKit
import Derived.OpenShut
import Derived.SizedLaws
import Derived.WalkLawsBesides
import Derived.WalkSpells
import Derived.Lib.Hide
import Derived.WalkKit
import Derived.Maps.OwnSet
import Derived.Maps.OwnOps
import Derived.Test.YtapgojgcmlnbgacK10
import Derived.Deep.RegionWith
import Derived.Outline
import Derived.Deep.Cut
set_option linter.unusedSimpArgs false
set_option linter.unusedVariables false
set_option maxRecDepth 100000
set_option maxHeartbeats 16000000
namespace Go.Proofs.Ytapgojgcmlnbgac
open Go.RowKit
structure Two (x y:Option Nat) (w w':World):Prop where
 os:w'.os=w.os
 tape:w'.tape=w.tape
 output:w'.output=w.output
 size:w.heap.size≤w'.heap.size
 block:∀ k,k<w.heap.size→some k≠x→some k≠y→w'.heap[k]? = w.heap[k]?
theorem Two.of {x y:Option Nat} {w w1 w':World} (h:w.grownBy w1 x) (k:w1.grownBy w' y):Two x y w w':=
 ⟨k.os.trans h.os,k.tape.trans h.tape,k.output.trans h.output,Nat.le_trans h.size k.size,fun j hj h1 h2=>(k.block j (Nat.lt_of_lt_of_le hj h.size) h2).trans (h.block j hj h1)⟩
theorem Two.refl (x y:Option Nat) (w:World):Two x y w w:=⟨rfl,rfl,rfl,Nat.le_refl _,fun _ _ _ _=>rfl⟩
theorem Two.trans {x y:Option Nat} {w w1 w':World} (h:Two x y w w1) (k:Two x y w1 w'):Two x y w w':=
 ⟨k.os.trans h.os,k.tape.trans h.tape,k.output.trans h.output,Nat.le_trans h.size k.size,fun j hj h1 h2=>(k.block j (Nat.lt_of_lt_of_le hj h.size) h1 h2).trans (h.block j hj h1 h2)⟩
theorem Two.grown {x y:Option Nat} {w w1 w':World} (h:Two x y w w1) {r:Option Nat} (k:w1.grownBy w' r) (hr:∀ j,r=some j→w.heap.size≤j):Two x y w w':=
 ⟨k.os.trans h.os,k.tape.trans h.tape,k.output.trans h.output,Nat.le_trans h.size k.size,fun j hj h1 h2=>(k.block j (Nat.lt_of_lt_of_le hj h.size) (fun e=>by have:=hr j e.symm;omega)).trans (h.block j hj h1 h2)⟩
theorem Two.after {x y:Option Nat} {w w1 w':World} {B:Nat} (hb:Below B w w1) (hB:w.heap.size≤B) (k:Two x y w1 w'):Two x y w w':=
 ⟨k.os.trans hb.os,k.tape.trans hb.tape,k.output.trans hb.output,Nat.le_trans hb.size k.size,fun j hj h1 h2=>(k.block j (Nat.lt_of_lt_of_le hj hb.size) h1 h2).trans (hb.block j (by omega))⟩
theorem Two.blk {x y:Option Nat} {w w':World} {g:Nat} {t:TypeId} {cs:Array Value} (k:Two x y w w') (h:Blk w g t cs) (h1:some g≠x) (h2:some g≠y):Blk w' g t cs:=(k.block g h.lt h1 h2).trans h
theorem Two.below {x y:Option Nat} {w0 w w':World} {B:Nat} (hb:Below B w0 w) (k:Two x y w w') (hB:B≤w.heap.size) (h1:∀ j,x=some j→B≤j) (h2:∀ j,y=some j→B≤j):Below B w0 w':=
 ⟨k.os.trans hb.os,k.tape.trans hb.tape,k.output.trans hb.output,Nat.le_trans hb.size k.size,fun j hj=>(k.block j (by omega) (fun e=>by have:=h1 j e.symm;omega) (fun e=>by have:=h2 j e.symm;omega)).trans (hb.block j hj)⟩
theorem own_keep {w w':World} {base:Nat} {e:TypeId} {size:Nat} {v:Value} {n:Nat} {xs:List Value} (h:w.ownsRow base e size v n xs) (hb:Below w.heap.size w w'):w'.ownsRow base e size v n xs:=by
 rcases hv:v.ownBlock with _ | k
 ·exact h.kept (below_any hb none) (Or.inl hv)
 ·exact h.kept (below_any hb none) (Or.inr (by rw [hv];simp))
theorem cells_one (c:Com):c.cells.all (·.oneCell')=true:=com_one
section
variable {P:Program} {fn:Func} {tmps:Array Value} {w:World} {ad ad2:Addr} {v u x y z:Value} {p q a b c:Tmp} {ty ty2:TypeId}
end
theorem own_mono {w:World} {base base':Nat} {e:TypeId} {size:Nat} {v:Value} {n:Nat} {xs:List Value} (h:w.ownsRow base e size v n xs) (hb:base'≤base):w.ownsRow base' e size v n xs:=
 ⟨h.1,h.2.imp id fun⟨g,cap,cur,e,l,r⟩=>⟨g,cap,cur,e,Nat.le_trans hb l,r⟩⟩
def hart0:Hart:=⟨List.replicate 32 0,0,0,0⟩
def com0:Com:=⟨0,0,0,0,0,0,0,0,0,false,0⟩
theorem wfU {n:Int} (h0:0≤n) (h1:n≤4294967295):(Lit.int .u32 n).wf=true:=by simp only [Lit.wf,Bool.and_eq_true,decide_eq_true_eq];exact⟨h0,h1⟩
theorem wfI {n:Int} (h0 : -9223372036854775808≤n) (h1:n≤9223372036854775807):(Lit.int .i64 n).wf=true:=by simp only [Lit.wf,Bool.and_eq_true,decide_eq_true_eq];exact⟨h0,h1⟩
def hartKinds:List (Option IntKind):=List.replicate 32 (some .u32)++[some .u32,some .i64,some .i64]
def comKinds:List (Option IntKind):=[some .u32,some .u32,some .i64,some .i64,some .i64,some .u32,some .u32,some .i64,some .u32,none,some .u32]
theorem com_key:Try.prog.keyTypeAt 20 65=true:=by kernel_rfl
theorem com_fitsB:fitsB Try.prog 20 65 comKinds=true:=by kernel_rfl
theorem com_guard:Try.prog.eqGuardType Try.prog.depth 65=false:=by kernel_rfl
theorem com_cellsOf:Try.prog.cellsOf 65=11:=by kernel_rfl
theorem words_fits:∀ {vs:List Value} {n:Nat},Fits (List.replicate n (some .u32)) vs→∃ l:List Int,vs=l.map (Value.int .u32)∧l.length=n∧∀ x∈l,0≤x∧x≤4294967295
 |[],0,_=>⟨[],rfl,rfl,by simp⟩
 |v::vs,n+1,⟨⟨x,hx,hw⟩,h⟩=>by
  obtain⟨l,h1,h2,h3⟩:=words_fits h
  refine⟨x::l,by simp [hx,h1],by simp [h2],fun y hy=>?_⟩
  rcases List.mem_cons.1 hy with rfl | hy
  ·exact bounds_u32 hw
  ·exact h3 y hy
 |[],n+1,h=>by cases h
 |v::vs,0,h=>by cases h
def Hart.Num (h:Hart):Prop:=(-9223372036854775808≤h.state∧h.state≤9223372036854775807)∧(-9223372036854775808≤h.cause∧h.cause≤9223372036854775807)
theorem hart_cells_list (h:Hart):h.cells.toList=h.regs.map (Value.int .u32)++[.int .u32 h.pc, .int .i64 h.state, .int .i64 h.cause]:=by
 unfold Hart.cells
 simp
theorem com_fits {c:Com} (hc:c.Wf):Fits comKinds c.cells.toList:=by
 obtain⟨c0,c1,c2,c3,c4,c5,c6,c7,c8,c9,c10⟩:=c
 obtain⟨h0,h1,h4,h5,h6,h7,h8,h10,h2⟩:=hc
 dsimp only at *
 exact⟨⟨_,rfl,wfU h0.1 h0.2⟩,⟨_,rfl,wfU h1.1 h1.2⟩,⟨_,rfl,wfI (by omega) (by omega)⟩,⟨_,rfl,wfI (by omega) (by omega)⟩,⟨_,rfl,wfI (by omega) (by omega)⟩,⟨_,rfl,wfU h5.1 h5.2⟩,⟨_,rfl,wfU h6.1 h6.2⟩,⟨_,rfl,wfI (by omega) (by omega)⟩,⟨_,rfl,wfU h8.1 h8.2⟩,⟨_,rfl⟩,⟨_,rfl,wfU h10.1 h10.2⟩,trivial⟩
theorem com_eql {c:Com} (hc:c.Wf) (w:World):(binOp .eql 65 (.agg c.cells) (.agg c.cells)).run Try.prog w = .ok (.bool true) w:=
 eql_self w com_key (by omega) (formed_struct Try.underlying65 com_cellsOf rfl) com_fitsB (com_fits hc)
end Go.Proofs.Ytapgojgcmlnbgac
namespace Go.Proofs.Ytapgojgcmlnbgac
open Go.ChangeShapes Go.WideShapes Go.RowKit
theorem okWide_struct {P:Program} {w:World} {base:Nat} {t:TypeId} {fs:Array Field} {r:Reach} {v:Value} (he:P.underlying t=some (.struct fs)) (h:Value.okWide P w r base t v):∃ cs,v = .agg cs:=by
 unfold Value.okWide at h
 rw [he] at h
 obtain⟨cs,hv,_⟩:=h
 exact⟨cs,hv⟩
section
variable {H:Type} {enc:TypeId×Value→H} {w:World} {base:Nat} {spare:Nat→Bool} {held:Bool}
theorem fits_hart {cs:Array Value} (h:Fits hartKinds cs.toList):∃ hh:Hart,hh.Wf∧hh.Num∧cs=hh.cells:=by
 obtain⟨regs,h1,h2,h3⟩:=words_fits (n:=32) (h.take 32)
 have hd:=h.drop 32
 have hl:=h.length
 have hl':hartKinds.length=35:=rfl
 generalize hrest:cs.toList.drop 32=rest at hd
 have hr3:rest.length=3:=by rw [←hrest,List.length_drop,hl,hl']
 obtain⟨a,b,c,rfl⟩:∃ a b c,rest=[a,b,c]:=by
  match rest,hr3 with
  |[a,b,c],_=>exact⟨a,b,c,rfl⟩
 obtain⟨⟨x,rfl,hx⟩,⟨y,rfl,hy⟩,⟨z,rfl,hz⟩,_⟩:=hd
 have bx:=bounds_u32 hx
 have by_:=bounds_i64 hy
 have bz:=bounds_i64 hz
 refine⟨⟨regs,x,y,z⟩,⟨h2,h3,bx.1,bx.2⟩,⟨by_,bz⟩,?_⟩
 apply Array.toList_inj.1
 rw [hart_cells_list,←List.take_append_drop 32 cs.toList,h1,hrest]
theorem open_hart {fuel:Nat} {cs:Array Value} {x:DataW H×List MemPlace} (h:DataW.trod enc Try.prog w base spare held fuel 27 (Value.agg cs).cells.toList=some x):∃ hh:Hart,hh.Wf∧hh.Num∧cs=hh.cells:=
 fits_hart (trod_fits 20 27 hartKinds fuel _ _ (by kernel_rfl) h)
end
theorem okWide_cfg {P:Program} {w:World} {base:Nat} {t:TypeId} {fs:Array Field} {r:Reach} {v:Value} (he:P.underlying t=some (.struct fs)) (h:Value.okWide P w r base t v):∃ cs,v = .agg cs:=by
 unfold Value.okWide at h
 rw [he] at h
 obtain⟨cs,hv,_⟩:=h
 exact⟨cs,hv⟩
def cfgKinds:List (Option IntKind):=[some .i64,some .i64,some .i64]
theorem fits_cfg {cs:Array Value} (h:Fits cfgKinds cs.toList):∃ a b c:Int,cs=#[.int .i64 a, .int .i64 b, .int .i64 c]:=by
 have hl:=h.length
 obtain⟨a,b,c,hc⟩:∃ a b c,cs.toList=[a,b,c]:=by
  match hq:cs.toList,hl with
  |[a,b,c],_=>exact⟨a,b,c,rfl⟩
 rw [hc] at h
 obtain⟨⟨x,rfl,_⟩,⟨y,rfl,_⟩,⟨z,rfl,_⟩,_⟩:=h
 exact⟨x,y,z,by apply Array.toList_inj.1;rw [hc]⟩
section
variable {H:Type} {enc:TypeId×Value→H} {w:World} {base:Nat} {spare:Nat→Bool} {held:Bool}
theorem open_cfg {fuel:Nat} {cs:Array Value} {x:DataW H×List MemPlace} (h:DataW.trod enc Try.prog w base spare held fuel 23 (Value.agg cs).cells.toList=some x):∃ a b c:Int,cs=#[.int .i64 a, .int .i64 b, .int .i64 c]:=
 fits_cfg (trod_fits 20 23 cfgKinds fuel _ _ (by kernel_rfl) h)
theorem open_script {fuel:Nat} {a:Option Addr} {len cap:Nat} {x:DataW H×List MemPlace} (h:DataW.trod enc Try.prog w base spare held fuel 29 [.slice a len cap]=some x) :
  ∃ l:List Int,l.length=len∧(∀ v∈l,v≤9223372036854775807)∧IntsAt w w.heap.size .i64 a l∧(a=none→l=[]∧cap=0)∧len≤cap∧cap≤maxLen∧(x.1 = .nil∧len=0∨∃ es sp,x.1 = .slice es sp∧es.length=len):=by
 obtain⟨l,h1,h2,h3,h4,h5⟩:=open_intsAt Try.underlying29 Try.underlying3 (by kernel_rfl) h
 have hc:(a=none→cap=0)∧len≤cap∧cap≤maxLen:=by
  rcases open_ints Try.underlying29 Try.underlying3 (by kernel_rfl) h with⟨hcs,_⟩ | ⟨ad,len',cap',zs,hcs,hb,hl,hm,_⟩
  ·simp at hcs
   obtain⟨rfl,rfl,rfl⟩:=hcs
   exact⟨fun _=>rfl,Nat.le_refl _,Nat.zero_le _⟩
  ·simp at hcs
   obtain⟨rfl,rfl,rfl⟩:=hcs
   exact⟨fun hh=>(by cases hh),hl,hm⟩
 exact⟨l,h1,fun v hv=>(bounds_i64 (h2 v hv)).2,h3,fun hh=>⟨h4 hh,hc.1 hh⟩,hc.2.1,hc.2.2,h5⟩
end
end Go.Proofs.Ytapgojgcmlnbgac
namespace Go.Proofs.Ytapgojgcmlnbgac
open Go.RowKit
theorem cloneInts_any_info:(Try.prog.info? 3).map (fun i=>(i.zero,i.size,i.bytes))=some (some (.int .i64 0),1,8):=by kernel_rfl
theorem cloneInts_any (A:Option Addr) (n cap:Nat) (cs:List Value) (w:World) (hl:n*8≤140737488355328) (hlen:cs.length=n*1) (h1:∀ u∈cs,u.oneCell'=true)
  (hc:∀ ad,A=some ad→∀ j u,cs[j]? = some u→w.cell? (ad.add j)=some u) (hnil:A=none→n=0) :
  Calls Try.prog 44 #[.slice A n cap] w fun e w'=>∃ v,e = .returned v∧w'.ownsRow w.heap.size 3 1 v n cs∧Below w.heap.size w w':=by
 rcases A with _ | ad
 ·obtain rfl:=hnil rfl
  obtain rfl:cs=[]:=List.eq_nil_of_length_eq_zero (by simpa using hlen)
  have hn:=Lib.run_eql_slice_nil (P:=Try.prog) w 29 3 none 0 cap 0 0 Try.underlying29
  go_enter Try.func44,Try.ntmps44
  go_wp2
  go_ret
  exact⟨_,rfl,World.ownsRow_nil _ _ _ _,Below.refl _ _⟩
 ·have hn:=Lib.run_eql_slice_nil (P:=Try.prog) w 29 3 (some ad) n cap 0 0 Try.underlying29
  obtain⟨i0,hi,hz0,hz1,hz2⟩:=info_parts cloneInts_any_info
  have Hc:=Lib.hid (hc ad rfl)
  clear hc hnil
  have hown0:=World.ownsRow_lit (base:=w.heap.size) (e:=3) (size:=1) w #[] 0 (Nat.le_refl _) (by unfold maxLen;omega) rfl
  go_enter Try.func44,Try.ntmps44
  go_wp2_with(at_builtin;refine wpList_append_own _ rfl (.tmp 5) (.tmp 6) 29 rfl w.heap.size 3 i0 _ 1 8 Try.underlying29 hi hz0 hz1 hz2 rfl (by decide) _ 0 [] rfl hown0 ad n cap cs rfl hlen (fun j u hu=>(World.cell?_alloc_lt _ _ _ (World.block_lt_of_cell? _ _ (Hc.out j u hu))).trans (Hc.out j u hu)) h1 (by unfold maxLen;omega) (by omega) (by simp) ?_;intro v1 w1 hown1 hg1 hat1)
  go_ret
  refine⟨v1,rfl,by simpa using hown1,((Below.refl _ _).alloc (Nat.le_refl _) _).grown hg1 (by simp) (fun k hk=>?_)⟩
  cases hk
  exact Nat.le_refl _
end Go.Proofs.Ytapgojgcmlnbgac
namespace Go.Proofs.Ytapgojgcmlnbgac
open Go Go.Maps
def OwnSet (w:World) (P:Program) (k e:TypeId) (b n:Nat) (S:List Int):Prop:=
 ∃ D:DataW Unit,w.ownsMap P k (plainElem P e) b n D∧IsMap D∧∀ x:Int,D.atKey (.int .i64 x) (.lit (.bool false)) = .lit (.bool (S.contains x))
section
variable {P:Program} {k e:TypeId} {b n:Nat} {S:List Int} {w:World}
theorem OwnSet.lt (h:OwnSet w P k e b n S):b<w.heap.size:=by
 obtain⟨D,h1,_⟩:=h
 exact h1.lt
theorem OwnSet.made (w:World) (P:Program) (k e:TypeId):OwnSet (w.alloc (.map #[] 0)) P k e w.heap.size 0 []:=
 ⟨.map [],World.ownsMap_made w P k _,isMap_empty,fun _=>rfl⟩
theorem OwnSet.mono (h:OwnSet w P k e b n S) {n':Nat} (hn:n≤n'):OwnSet w P k e b n' S:=by
 obtain⟨D,h1,h2⟩:=h
 exact⟨D,h1.mono hn,h2⟩
theorem OwnSet.kept {w':World} {row:Option Nat} (h:OwnSet w P k e b n S) (hg:w.grownBy w' row) (hne:some b≠row):OwnSet w' P k e b n S:=by
 obtain⟨D,h1,h2⟩:=h
 exact⟨D,h1.kept hg hne,h2⟩
theorem OwnSet.alloc (h:OwnSet w P k e b n S) (o:Obj):OwnSet (w.alloc o) P k e b n S:=h.kept (World.grownBy_alloc w o none) (by simp)
theorem OwnSet.setCell (h:OwnSet w P k e b n S) {p:Addr} (hp:b≠p.block) (u:Value):OwnSet (w.setCell p u) P k e b n S:=by
 obtain⟨D,⟨es,clock,hb,h1⟩,h2⟩:=h
 refine⟨D,⟨es,clock,?_,h1⟩,h2⟩
 have:=RowKit.Below.heap_setCell w p u b hp
 rw [this]
 exact hb
theorem OwnSet.look {t:TypeId} (h:OwnSet w P k e b n S) (hk:P.underlying k=some (.int .i64)) (ht:P.underlying t=some (.map k e)) (he:P.underlying e=some .bool) (hz:(zeroValue e).run P w = .ok (.bool false) w)
  (x:Int) (hw:(Lit.int .i64 x).wf=true):(Instr.lookup t (.map (some b)) (.int .i64 x) false).run P w = .ok (.bool (S.contains x)) w:=by
 obtain⟨D,h1,_,h3⟩:=h
 obtain⟨v,ps,hrun,hv⟩:=h1.lookup (int_keyed hk) ht hz (plainElem_bool he false) (keyOf_int_mk hk hw)
 rw [h3] at hv
 unfold plainElem at hv
 rw [he] at hv
 cases v<;>simp at hv
 rw [hrun,hv.1]
 simp
theorem OwnSet.put {t:TypeId} (h:OwnSet w P k e b n S) (hk:P.underlying k=some (.int .i64)) (ht:P.underlying t=some (.map k e)) (he:P.underlying e=some .bool) (hn:n<maxLen)
  (x:Int) (hw:(Lit.int .i64 x).wf=true):∃ w',(Instr.mapUpdate t (.map (some b)) (.int .i64 x) (.bool true)).run P w = .ok () w'∧OwnSet w' P k e b (n+1) (x::S)∧w.grownBy w' (some b):=by
 obtain⟨D,h1,h2,h3⟩:=h
 obtain⟨w',hrun,r1,r2⟩:=h1.update (int_keyed hk) ht hn (keyOf_int_mk hk hw) (plainElem_bool he true)
 refine⟨w',hrun,⟨_,r1,h2.put _ _,fun y=>?_⟩,r2⟩
 by_cases hy:y=x
 ·subst hy
  rw [atKey_put_same h2 (by simp [WideAt.IsKeyLit])]
  simp
 ·rw [atKey_put_other (by intro hh;injection hh with _ hh;exact hy hh),h3]
  simp [hy]
end
end Go.Proofs.Ytapgojgcmlnbgac
namespace Go.Proofs.Ytapgojgcmlnbgac
open Go
def okL (phys:Int):List Int→List Int→Bool
 |_,[]=>true
 |had,p::l=>if p<0∨phys≤p∨p∈had then false else okL phys (p::had) l
def physOk (phys:Int):Bool:=decide (33≤phys∧phys≤96)
def mayP (phys:Int) (l:List Int):Bool:=okL phys [] l&&physOk phys
theorem okL_iff (phys:Int):∀ (l had:List Int),okL phys had l=true↔(∀ p∈l,0≤p∧p<phys∧p ∉ had)∧l.Nodup
 |[],had=>by simp [okL]
 |p::l,had=>by
  unfold okL
  by_cases h:p<0∨phys≤p∨p∈had
  ·rw [if_pos h]
   simp only [Bool.false_eq_true,false_iff]
   intro⟨h1,_⟩
   have:=h1 p (by simp)
   rcases h with h | h | h
   ·omega
   ·omega
   ·exact this.2.2 h
  ·rw [if_neg h,okL_iff phys l (p::had),List.nodup_cons]
   have h':0≤p∧p<phys∧p ∉ had:=⟨by omega,by omega,fun x=>h (Or.inr (Or.inr x))⟩
   constructor
   ·rintro⟨h1,h2⟩
    refine⟨fun q hq=>?_,?_,h2⟩
    ·rcases List.mem_cons.1 hq with rfl | hq
     ·exact h'
     ·have:=h1 q hq
      exact⟨this.1,this.2.1,fun x=>this.2.2 (by simp [x])⟩
    ·intro hp
     exact(h1 p hp).2.2 (by simp)
   ·rintro⟨h1,h2,h3⟩
    refine⟨fun q hq=>?_,h3⟩
    have:=h1 q (by simp [hq])
    refine⟨this.1,this.2.1,fun x=>?_⟩
    rcases List.mem_cons.1 x with rfl | x
    ·exact h2 hq
    ·exact this.2.2 x
theorem mayP_iff (phys:Int) (l:List Int):mayP phys l=true↔((∀ p∈l,0≤p∧p<phys)∧l.Nodup)∧33≤phys∧phys≤96:=by
 unfold mayP physOk
 rw [Bool.and_eq_true,okL_iff,decide_eq_true_eq]
 simp
open Classical in
theorem set_perm (regs rest:List Int) (p:Int) (rd:Nat) (h:rd<regs.length):(regs++p::rest).Perm (regs.getD rd 0::(regs.set rd p++rest)):=by
 have e:regs.getD rd 0=regs[rd]:=by simp [List.getD,List.getElem?_eq_getElem h]
 rw [e,List.set_eq_take_append_cons_drop,if_pos h]
 have h1:regs=regs.take rd++regs[rd]::regs.drop (rd+1):=by
  rw [←List.drop_eq_getElem_cons h,List.take_append_drop]
 generalize regs[rd]=x at h1 ⊢
 generalize regs.take rd=A at h1 ⊢
 generalize regs.drop (rd+1)=B at h1 ⊢
 subst h1
 rw [List.append_assoc,List.append_assoc]
 refine List.perm_middle.trans (List.Perm.cons _ ?_)
 refine List.Perm.append_left _ ?_
 exact List.perm_middle
theorem may_perm {phys:Int} {l l':List Int} (hp:l.Perm l'):mayP phys l=mayP phys l':=by
 rw [Bool.eq_iff_iff,mayP_iff,mayP_iff,hp.nodup_iff]
 constructor
 ·rintro⟨⟨h1,h2⟩,h3⟩
  exact⟨⟨fun p h=>h1 p (hp.mem_iff.2 h),h2⟩,h3⟩
 ·rintro⟨⟨h1,h2⟩,h3⟩
  exact⟨⟨fun p h=>h1 p (hp.mem_iff.1 h),h2⟩,h3⟩
theorem may_cons {phys p:Int} {l:List Int}:mayP phys (p::l)=true↔mayP phys l=true∧(0≤p∧p<phys)∧p ∉ l:=by
 rw [mayP_iff,mayP_iff,List.nodup_cons]
 constructor
 ·rintro⟨⟨h1,h2,h3⟩,h4⟩
  exact⟨⟨⟨fun q hq=>h1 q (by simp [hq]),h3⟩,h4⟩,h1 p (by simp),h2⟩
 ·rintro⟨⟨⟨h1,h2⟩,h3⟩,h4,h5⟩
  refine⟨⟨fun q hq=>?_,h5,h2⟩,h3⟩
  rcases List.mem_cons.1 hq with rfl | hq
  ·exact h4
  ·exact h1 q hq
theorem may_take {phys p:Int} {regs rest:List Int} {rd:Nat} (hrd:rd<regs.length) (h:mayP phys (regs++p::rest)=true) :
  mayP phys (regs.set rd p++rest)=true∧(0≤regs.getD rd 0∧regs.getD rd 0<phys)∧regs.getD rd 0 ∉ regs.set rd p++rest:=by
 rw [may_perm (set_perm regs rest p rd hrd),may_cons] at h
 exact h
theorem may_give {phys p:Int} {regs free:List Int} (h:mayP phys (regs++free)=true) (hp:0≤p∧p<phys) (hn:p ∉ regs++free):mayP phys (regs++(free++[p]))=true:=by
 rw [←List.append_assoc,may_perm (l':=p::(regs++free)) (by simpa using List.perm_append_comm (l₁:=regs++free) (l₂:=[p])),may_cons]
 exact⟨h,hp,hn⟩
def regs0:List Int:=(List.range 32).map Int.ofNat
def free0 (n:Nat):List Int:=(List.range n).map fun k=>((32+k:Nat):Int)
theorem new_eq (n:Nat):regs0++free0 n=(List.range (32+n)).map Int.ofNat:=by
 unfold regs0 free0
 rw [List.range_add,List.map_append,List.map_map]
 rfl
theorem may_new (n:Nat) (h1:1≤n) (h2:n≤64):mayP ((32+n:Nat):Int) (regs0++free0 n)=true:=by
 rw [new_eq,mayP_iff]
 refine⟨⟨fun p hp=>?_,?_⟩,by omega⟩
 ·obtain⟨k,hk,rfl⟩:=List.mem_map.1 hp
  have:=List.mem_range.1 hk
  show 0≤(k:Int)∧(k:Int)<_
  omega
 ·refine List.Pairwise.map _ (fun a b hab=>?_) (List.nodup_range (n:=32+n))
  intro h
  exact hab (Int.ofNat.inj h)
structure RMap where
 phys:Int
 regs:List Int
 free:List Int
 deriving DecidableEq
def RMap.zero:RMap:=⟨0,List.replicate 32 0,[]⟩
def RMap.all (m:RMap):List Int:=m.regs++m.free
def RMap.may (m:RMap):Bool:=mayP m.phys m.all
def otherP (m:RMap) (p:Int):Bool:=m.may&&(decide (0≤p)&&decide (p<m.phys)&&!decide (p∈m.all))
def newP (phys:Int):Option RMap:=if 33≤phys∧phys≤96 then some ⟨phys,regs0,free0 (phys - 32).toNat⟩ else none
def takeP (m:RMap) (rd:Int):Option (RMap×Int×Int):=
 match m.free with
 |[]=>none
 |p::f=>if m.may=true∧1≤rd∧rd≤31 then some (⟨m.phys,m.regs.set rd.toNat p,f⟩,p,m.regs.getD rd.toNat 0) else none
def giveP (m:RMap) (p:Int):Option RMap:=if otherP m p=true then some ⟨m.phys,m.regs,m.free++[p]⟩ else none
def undoP (m:RMap) (rd old:Int):Option RMap:=if otherP m old=true∧1≤rd∧rd≤31 then some ⟨m.phys,m.regs.set rd.toNat old,m.regs.getD rd.toNat 0::m.free⟩ else none
end Go.Proofs.Ytapgojgcmlnbgac
namespace Go.Proofs.Ytapgojgcmlnbgac
open Go.RowKit
def mapCells (phys:Int) (regs:List Int) (A:Option Addr) (n cap:Nat):Array Value:=(.int .i64 phys::(regs.map (.int .i64)++[.slice A n cap])).toArray
theorem mapCells_size (phys:Int) (regs:List Int) (A:Option Addr) (n cap:Nat) (h:regs.length=32):(mapCells phys regs A n cap).size=34:=by simp [mapCells,h]
theorem mapCells_0 (phys:Int) (regs:List Int) (A:Option Addr) (n cap:Nat):(mapCells phys regs A n cap)[0]? = some (.int .i64 phys):=rfl
theorem mapCells_reg (phys:Int) (regs:List Int) (A:Option Addr) (n cap:Nat) {i:Nat} (h:i<regs.length):(mapCells phys regs A n cap)[1+i]? = some (.int .i64 (regs.getD i 0)):=by
 unfold mapCells
 rw [List.getElem?_toArray,Nat.add_comm 1 i,List.getElem?_cons_succ,List.getElem?_append_left (by simpa using h),List.getElem?_map]
 simp [List.getD,List.getElem?_eq_getElem h]
theorem mapCells_free (phys:Int) (regs:List Int) (A:Option Addr) (n cap:Nat) (h:regs.length=32):(mapCells phys regs A n cap)[33]? = some (.slice A n cap):=by
 unfold mapCells
 rw [List.getElem?_toArray,List.getElem?_cons_succ,List.getElem?_append_right (by simp [h])]
 simp [h]
theorem getD_set' (m:List Int) (i j:Nat) (x:Int):(m.set i x).getD j 0=if i=j∧i<m.length then x else m.getD j 0:=by
 simp only [List.getD]
 by_cases h:i=j
 ·subst h
  by_cases h2:i<m.length
  ·rw [List.getElem?_set_self h2,if_pos ⟨rfl,h2⟩];rfl
  ·rw [if_neg (by omega),List.getElem?_eq_none (by simp;omega),List.getElem?_eq_none (by omega)]
 ·rw [List.getElem?_set_ne h,if_neg (by omega)]
theorem mapCells_set (phys:Int) (regs:List Int) (A A':Option Addr) (n cap n' cap':Nat) (k:Nat) (p:Int) (h:regs.length=32) (hk:k<32) :
  ((mapCells phys regs A n cap).setIfInBounds (1+k) (.int .i64 p)).setIfInBounds 33 (.slice A' n' cap')=mapCells phys (regs.set k p) A' n' cap':=by
 apply Array.ext_getElem?
 intro i
 have hs:=mapCells_size phys regs A n cap h
 have hs':(regs.set k p).length=32:=by simp [h]
 rw [Array.getElem?_setIfInBounds,Array.getElem?_setIfInBounds]
 simp only [Array.size_setIfInBounds,hs]
 by_cases h33:33=i
 ·subst h33
  rw [if_pos rfl,if_pos (by omega),mapCells_free _ _ _ _ _ hs']
 rw [if_neg h33]
 rcases(show i=0∨(∃ j,j<32∧i=1+j)∨34≤i by rcases Nat.lt_or_ge i 1 with h1 | h1;left;omega;rcases Nat.lt_or_ge i 33 with h2 | h2;exact Or.inr (Or.inl ⟨i - 1,by omega,by omega⟩);right;right;omega) with rfl | ⟨j,hj,rfl⟩ | h34
 ·rw [if_neg (by omega)];rfl
 ·rw [show(mapCells phys (regs.set k p) A' n' cap')[1+j]? = _ from mapCells_reg phys (regs.set k p) A' n' cap' (by rw [hs'];exact hj),getD_set']
  by_cases hkj:k=j
  ·subst hkj
   rw [if_pos rfl,if_pos (by omega),if_pos (by omega)]
  ·rw [if_neg (by omega),if_neg (by omega),mapCells_reg _ _ _ _ _ (by rw [h];exact hj)]
 ·rw [if_neg (by omega),Array.getElem?_eq_none (by rw [hs];exact h34),Array.getElem?_eq_none (by rw [mapCells_size _ _ _ _ _ hs'];exact h34)]
theorem wf_i64' {n:Int} (h0 : -9223372036854775808≤n) (h1:n≤9223372036854775807):(Lit.int .i64 n).wf=true:=by simp only [Lit.wf,Bool.and_eq_true,decide_eq_true_eq];exact⟨h0,h1⟩
theorem ints_info:(Try.prog.info? 3).map (fun i=>(i.zero,i.size,i.bytes))=some (some (.int .i64 0),1,8):=by kernel_rfl
theorem bool_zero (w:World):(zeroValue 4).run Try.prog w = .ok (.bool false) w:=by rfl
theorem okL_drop (phys:Int) (had:List Int) (l:List Int) (k:Nat) (hk:k<l.length):okL phys had (l.drop k)=if l.getD k 0<0∨phys≤l.getD k 0∨l.getD k 0∈had then false else okL phys (l.getD k 0::had) (l.drop (k+1)):=by
 rw [List.drop_eq_getElem_cons hk]
 have:l.getD k 0=l[k]:=by simp [List.getD,List.getElem?_eq_getElem hk]
 rw [this]
 rfl
theorem used_any (phys:Int) (regs free:List Int) (A:Option Addr) (cap:Nat) (w:World) (hp0 : -9223372036854775808≤phys) (hp1:phys≤9223372036854775807) (hr:regs.length=32) (hl:free.length≤17592186044000) (hA:IntsAt w w.heap.size .i64 A free) (hnil:A=none→free=[]∧cap=0)
  (hwf:∀ x∈regs++free,-9223372036854775808≤x∧x≤9223372036854775807) :
  Calls Try.prog 71 #[.agg (mapCells phys regs A free.length cap)] w fun e w'=>∃ v,e = .returned (.tuple #[v, .bool (mayP phys (regs++free))])∧Below w.heap.size w w' ∧
   (mayP phys (regs++free)=true→∃ b n S,v = .map (some b)∧OwnSet w' Try.prog 3 4 b n S∧∀ x:Int,S.contains x=(regs++free).contains x):=by
 obtain⟨l,hL⟩:∃ l,l=regs++free:=⟨_,rfl⟩
 rw [←hL] at hwf ⊢
 have hs:=mapCells_size phys regs A free.length cap hr
 have hf:=mapCells_free phys regs A free.length cap hr
 have h0:=mapCells_0 phys regs A free.length cap
 have hrg:∀ j u,(regs.map (Value.int .i64))[j]? = some u→(mapCells phys regs A free.length cap)[1+j]? = some u:=fun j u hu=>by
  have hj:j<regs.length:=by have:=(List.getElem?_eq_some_iff.1 hu).1;simpa using this
  rw [mapCells_reg phys regs A free.length cap hj]
  rw [List.getElem?_map,List.getElem?_eq_getElem hj] at hu
  simp [List.getD,List.getElem?_eq_getElem hj] at hu ⊢
  exact hu
 have hcl:=fun W B C D=>cloneInts_any (some ⟨w.heap.size,1,none⟩) 32 32 (regs.map (Value.int .i64)) W B (by simp [hr]) (ints_oneCell' _) C D
 generalize mapCells phys regs A free.length cap=cs at *
 have Hrg:=Lib.hid hrg
 have Hcl:=Lib.hid hcl
 have HA:=Lib.hid hA
 have hmm:=@run_makeMap Try.prog
 clear hrg hcl hA
 go_enter Try.func71,Try.ntmps71
 go_upto_region 2 with(fail)
 go_simp
 refine wp_gen fun wa hq=>?_
 have hB:Blk wa w.heap.size 53 cs:=by rw [hq];exact(Blk.new w _ _).alloc _
 have hM:OwnSet wa Try.prog 3 4 (w.heap.size+1) 0 []:=by rw [hq];have h:=OwnSet.made (w.alloc (.cells cs 53)) Try.prog 3 4;simpa using h
 have hb:Below w.heap.size w wa:=by rw [hq];exact((Below.refl _ _).alloc (Nat.le_refl _) _).alloc (by simp) _
 have hz:wa.heap.size=w.heap.size+2:=by rw [hq];simp
 clear hq
 refine wp_region_ob 203 16 219 [0,1,3,4,7,2,5,6] (by kernel_rfl) (by kernel_rfl) (by kernel_rfl) rfl ?_
 repeat'(first
  |refine oQ rfl rfl ?_
  |(refine' oE _ (by decide) (by decide) (fun wq K hK=>?_) ?_ ?_;rotate_left 1;(· go_wp2_with(fail);all_goals exact hK);rfl)
  |(refine' oR _ (by decide) (by decide) (by decide) (fun wq hwq K hK=>?_) ?_ ?_;rotate_left 1;(· have hc33:=(hB.ext hwq).cell 33;rw [hf] at hc33;go_wp2_with(fail);all_goals exact hK);rfl)
  |((first | refine oT rfl rfl rfl rfl ?_ ?_ | refine oF rfl rfl rfl rfl ?_ ?_)<;>intro hc<;>first | (cases hc;done) | ((try cases hc);simp only [Act.put,sA,sS,sZ]))
  |refine oU rfl rfl rfl rfl ?_)
 refine wpOW_beside (by decide) (by decide) (by decide) (by kernel_rfl) (fun w1 hw1 K1 hK1=>?_)
 subst hw1
 have hBd:=hB.ext (Below.refl _ _).drew
 go_wp2_with(go_at_call 44;(with_reducible refine(Hcl.out _ (by decide) ?_ ?_).mono ?_);(intro ad had j u hu;obtain rfl:=Option.some.inj had;(rw [Addr.add_lit,hBd.cell];exact Hrg.out j u hu));(intro h;cases h);rintro e w2 ⟨v2,rfl,hown2,hb2⟩)
 refine hK1 _ _ ((Below.refl _ _).drew.trans (hb2.mono (Nat.le_refl _))) ?_
 clear hK1 K1
 simp only [Act.put,sA,sS,sZ]
 have hnews:∀ ad,A=some ad→∀ j u,(free.map (Value.int .i64))[j]? = some u→w2.cell? (ad.add j)=some u:=by
  have h1:=(((HA.out.below hb).mono (show w.heap.size≤wa.heap.size by omega)).below ((Below.refl _ _).drew.trans (hb2.mono (Nat.le_refl _)))).cells
  exact h1
 obtain⟨i0,hi,hz0,hz1,hz2⟩:=info_parts ints_info
 refine oQ rfl rfl ?_
 refine wpOW_beside (by decide) (by decide) (by decide) (by kernel_rfl) (fun w1 hw1 K hK=>?_)
 subst hw1
 refine wp_append_any (.tmp 10) (.tmp 12) 29 rfl wa.drew.heap.size 3 i0 _ 1 8 Try.underlying29 hi hz0 hz1 hz2 rfl (by decide) v2 32 _ rfl hown2 A free.length cap (free.map (.int .i64)) rfl (by simp) (fun h=>by have:=hnil h;simp [this]) hnews (ints_oneCell' _) (by unfold maxLen;omega) (by omega) hb2.size ?_
 intro v3 w3 hown3 hg3
 have hsz2:=hb2.size
 have hb3:Below wa.heap.size wa w3:=(((Below.refl _ _).drew.trans (hb2.mono (Nat.le_refl _)))).grown hg3 hsz2 (fun k hk=>(hown2.lt k hk).1)
 refine hK _ _ hb3 ?_
 simp only [Act.put,sA,sS,sZ]
 rw [←List.map_append,←hL] at hown3
 obtain⟨g,cap3,cur,rfl,hgb,hG,hcur⟩:=own_blk hown3 (by omega)
 repeat'(first
  |refine oQ rfl rfl ?_
  |(refine' oE _ (by decide) (by decide) (fun wq K hK=>?_) ?_ ?_;rotate_left 1;(· go_wp2_with(fail);all_goals exact hK);rfl)
  |((first | refine oT rfl rfl rfl rfl ?_ ?_ | refine oF rfl rfl rfl rfl ?_ ?_)<;>intro hc<;>first | (cases hc;done) | ((try cases hc);simp only [Act.put,sA,sS,sZ]))
  |refine oU rfl rfl rfl rfl ?_)
 refine wpO_nil ?_
 rintro w4 rfl
 replace hB:=hB.ext hb3
 replace hM:=hM.kept (below_grownBy hb3) (by simp)
 have hgz:wa.heap.size≤g:=hgb
 replace hb:=hb.trans (hb3.mono hb.size)
 clear hown2 hown3 hg3 hb3 hgb hK K hBd hsz2 hb2 hnews i0 hi hz0 hz1 hz2
 have hll:l.length=32+free.length:=by rw [hL];simp [hr]
 generalize hX:okL phys [] l=X
 have HX:Hid (okL phys [] (l.drop 0)=X):=Lib.hid hX
 have Hm:=Lib.hid (show mayP phys l=(X&&physOk phys) by unfold mayP;rw [hX])
 have Hcur:=Lib.hid hcur
 have Hwf:=Lib.hid hwf
 have Hll:=Lib.hid hll
 clear hX hcur hwf hll hL
 go_wp2_with(fail)
 go_loopw [15] (fun v wr=>∃ (k:Nat) (S:List Int),v = .int .i64 k∧k≤32+free.length∧Below w.heap.size w wr∧OwnSet wr Try.prog 3 4 (w.heap.size+1) k S∧Hid (∀ x:Int,S.contains x=(l.take k).contains x)∧Blk wr w.heap.size 53 cs∧Blk wr g 3 cur∧Hid (okL phys S (l.drop k)=X)) (fun v _=>32+free.length+1 - (intOf v).toNat)
 case atStart=>exact⟨0,[],rfl,by omega,hb,hM,Lib.hid (fun x=>by simp),hB,hG,HX⟩
 case round=>
  clear hM hB hG hb HX
  obtain⟨k,S,rfl,hk,hb,hM,HS,hB,hG,HR⟩:=hrel
  have zB:=hB.lt
  have c0:=hB.cell 0
  rw [h0] at c0
  by_cases hlt:k<32+free.length
  ·have hs:=okL_drop phys S l k (by rw [Hll.out];exact hlt)
   have hgl:l[k]? = some (l.getD k 0):=by
    have:k<l.length:=by rw [Hll.out];exact hlt
    simp [List.getD,List.getElem?_eq_getElem this]
   have hw:=Hwf.out (l.getD k 0) (List.mem_of_getElem? hgl)
   have ck:=hG.cell k
   rw [Hcur.out k hlt] at ck
   have HT:=Lib.hid (show ∀ x:Int,(l.take (k+1)).contains x=((l.take k).contains x || x==l.getD k 0) by
    intro x
    rw [List.take_succ_eq_append_getElem (by rw [Hll.out];exact hlt),List.contains_append]
    have:l.getD k 0=l[k]'(by rw [Hll.out];exact hlt):=by simp [List.getD,List.getElem?_eq_getElem (show k<l.length by rw [Hll.out];exact hlt)]
    rw [this,List.contains_cons,List.contains_nil,Bool.or_false])
   clear hgl
   generalize l.getD k 0=p at hs hw ck HT
   have hlk:=hM.look (t:=136) Try.underlying3 Try.underlying136 Try.underlying4 (bool_zero _) p (wf_i64' hw.1 hw.2)
   obtain⟨w5,hpt,hM5,hg5⟩:=hM.put (t:=136) Try.underlying3 Try.underlying136 Try.underlying4 (by unfold maxLen;omega) p (wf_i64' hw.1 hw.2)
   have hB5:=Lib.hid (hB.grown hg5 (by simp))
   have hG5:=Lib.hid (hG.grown hg5 (by simp;omega))
   have hb5:=Lib.hid (below_grown hb hg5 (by have:=hb.size;omega) (Nat.le_succ _))
   have hM5:=Lib.hid hM5
   clear hM hg5
   by_cases h1:p<0
   ·have HR2:false=X:=by have h:=HR.out;rw [hs,if_pos (Or.inl h1)] at h;exact h
    subst HR2
    clear HR hs hlk hpt
    go_wp2_with(fail)
    go_ret2
    exact⟨_,by rw [Hm.out];rfl,hb,fun h=>by rw [Hm.out] at h;cases h⟩
   by_cases h2:phys≤p
   ·have HR2:false=X:=by have h:=HR.out;rw [hs,if_pos (Or.inr (Or.inl h2))] at h;exact h
    subst HR2
    clear HR hs hlk hpt
    go_wp2_with(fail)
    go_ret2
    exact⟨_,by rw [Hm.out];rfl,hb,fun h=>by rw [Hm.out] at h;cases h⟩
   rcases hS:S.contains p with _ | _
   ·have HR2:Hid (okL phys (p::S) (l.drop (k+1))=X):=by
     have h:=HR.out
     rw [hs,if_neg (by rintro(h | h | h);exact h1 h;exact h2 h;(have:S.contains p=true:=List.contains_iff_mem.2 h);rw [hS] at this;cases this)] at h
     exact Lib.hid h
    rw [hS] at hlk
    have h1':decide (p<0)=false:=by simpa using h1
    have h2':decide (phys≤p)=false:=by simpa using h2
    clear HR hs h1 h2
    go_wp2_with(fail)
    go_roundw
    case rel=>exact⟨k+1,p::S,by go_num,by omega,hb5.out,hM5.out,Lib.hid (fun x=>by rw [HT.out,List.contains_cons,HS.out,Bool.or_comm]),hB5.out,hG5.out,HR2⟩
    case measure=>simp [intOf];omega
   ·have HR2:false=X:=by
     have h:=HR.out
     rw [hs,if_pos (Or.inr (Or.inr (List.contains_iff_mem.1 hS)))] at h;exact h
    subst HR2
    rw [hS] at hlk
    have h1':decide (p<0)=false:=by simpa using h1
    have h2':decide (phys≤p)=false:=by simpa using h2
    clear HR hs hpt h1 h2
    go_wp2_with(fail)
    go_ret2
    exact⟨_,by rw [Hm.out];rfl,hb,fun h=>by rw [Hm.out] at h;cases h⟩
  ·obtain rfl:k=32+free.length:=by omega
   have HR2:true=X:=by have h:=HR.out;rw [List.drop_of_length_le (by rw [Hll.out];omega)] at h;exact h
   subst HR2
   have HS2:=Lib.hid (show ∀ x:Int,S.contains x=l.contains x by intro x;rw [HS.out,List.take_of_length_le (by rw [Hll.out];omega)])
   have hMh:=Lib.hid hM
   clear HR hM
   go_wp2_with(fail)
   go_simp
   refine wp_region_ob 1979 68 2047 [0,1,2,3,4,5,6,7,8,9,10] (by kernel_rfl) (by kernel_rfl) (by kernel_rfl) rfl ?_
   repeat'(first
    |refine oQ rfl rfl ?_
    |(refine' oE _ (by decide) (by decide) (fun wq K hK=>?_) ?_ ?_;rotate_left 1;(· go_wp2_with(fail);all_goals exact hK);rfl)
    |(refine' oR _ (by decide) (by decide) (by decide) (fun wq hwq K hK=>?_) ?_ ?_;rotate_left 1;(· have cq:=(hB.ext hwq).cell 0;rw [h0] at cq;go_wp2_with(fail);all_goals exact hK);rfl)
    |((first | refine oT rfl rfl rfl rfl ?_ ?_ | refine oF rfl rfl rfl rfl ?_ ?_)<;>intro hc<;>first | (cases hc;done) | ((try cases hc);simp only [Act.put,sA,sS,sZ]))
    |refine oU rfl rfl rfl rfl ?_)
   all_goals
    refine wpO_nil ?_
    rintro w4 rfl
    go_wp2
    go_ret2
    refine⟨_,?_,hb.drew,fun _=>⟨_,_,S,rfl,hMh.out.kept (below_grownBy (Below.refl _ _).drew) (by simp),HS2.out⟩⟩
    rw [Hm.out]
    unfold physOk
    simp at hc ⊢
    try omega
structure MapIn (w:World) (m:RMap) (A:Option Addr) (cap:Nat):Prop where
 p0 : -9223372036854775808≤m.phys
 p1:m.phys≤9223372036854775807
 len:m.regs.length=32
 few:m.free.length≤17592186044000
 room:m.free.length≤cap
 free:IntsAt w w.heap.size .i64 A m.free
 nil:A=none→m.free=[]∧cap=0
 wf:∀ x∈m.all,-9223372036854775808≤x∧x≤9223372036854775807
theorem MapIn.ext {w w':World} {m:RMap} {A:Option Addr} {cap:Nat} (h:MapIn w m A cap) (hb:Below w.heap.size w w'):MapIn w' m A cap:=
 ⟨h.p0,h.p1,h.len,h.few,h.room,(h.free.below hb).mono hb.size,h.nil,h.wf⟩
def MapV (w:World) (m:RMap) (v:Value):Prop:=∃ A cap,v = .agg (mapCells m.phys m.regs A m.free.length cap)∧MapIn w m A cap
theorem MapV.ext {w w':World} {m:RMap} {v:Value} (h:MapV w m v) (hb:Below w.heap.size w w'):MapV w' m v:=by
 obtain⟨A,cap,h1,h2⟩:=h
 exact⟨A,cap,h1,h2.ext hb⟩
theorem MapV.zero (w:World):MapV w RMap.zero (.agg (mapCells 0 (List.replicate 32 0) none 0 0)):=
 ⟨none,0,rfl,by decide,by decide,rfl,by decide,by decide,fun h=>absurd rfl h,fun _=>⟨rfl,rfl⟩,by decide⟩
def MapF (w:World) (B:Nat) (m:RMap) (v:Value):Prop:=∃ A cap,v = .agg (mapCells m.phys m.regs A m.free.length cap)∧MapIn w m A cap∧∀ ad,A=some ad→B≤ad.block
theorem MapF.v {w:World} {B:Nat} {m:RMap} {v:Value} (h:MapF w B m v):MapV w m v:=by
 obtain⟨A,cap,h1,h2,_⟩:=h
 exact⟨A,cap,h1,h2⟩
theorem MapF.zero (w:World) (B:Nat):MapF w B RMap.zero (.agg (mapCells 0 (List.replicate 32 0) none 0 0)):=by
 refine⟨none,0,rfl,⟨by decide,by decide,rfl,by decide,by decide,fun h=>absurd rfl h,fun _=>⟨rfl,rfl⟩,by decide⟩,fun _ h=>by cases h⟩
theorem map_info {phys:Int} {regs:List Int} {A:Option Addr} {n cap:Nat} (h:regs.length=32):(Try.prog.info? 53).map (·.size)=some (mapCells phys regs A n cap).size:=by rw [mapCells_size _ _ _ _ _ h];kernel_rfl
theorem map_one (phys:Int) (regs:List Int) (A:Option Addr) (n cap:Nat):(mapCells phys regs A n cap).all (·.oneCell')=true:=by
 rw [Array.all_eq_true_iff_forall_mem]
 intro v hv
 unfold mapCells at hv
 simp only [List.mem_toArray,List.mem_cons,List.mem_append,List.mem_map,List.not_mem_nil,or_false] at hv
 rcases hv with rfl | ⟨x,_,rfl⟩ | rfl<;>rfl
theorem built_map0:Try.prog.built 53 []=some (mapCells 0 (List.replicate 32 0) none 0 0):=by kernel_rfl
theorem may_any {w:World} {m:RMap} {v:Value} (h:MapV w m v) :
  Calls Try.prog 69 #[v] w fun e w'=>e = .returned (.bool m.may)∧Below w.heap.size w w':=by
 obtain⟨A,cap,rfl,h⟩:=h
 have hs:=map_info (phys:=m.phys) (A:=A) (n:=m.free.length) (cap:=cap) h.len
 have hu:=fun W (hb:Below w.heap.size w W)=>used_any m.phys m.regs m.free A cap W h.p0 h.p1 h.len h.few ((h.ext hb).free) h.nil h.wf
 have hmay:mayP m.phys (m.regs++m.free)=m.may:=rfl
 rw [hmay] at hu
 generalize mapCells m.phys m.regs A m.free.length cap=cs at *
 generalize m.may=X at *
 have Hu:=Lib.hid hu
 clear hu hmay
 go_enter Try.func69,Try.ntmps69
 have hb1:=(Below.refl w.heap.size w).alloc (Nat.le_refl _) (.cells cs 53)
 have hB:=Blk.new w 53 cs
 go_wp2_with(first
  |(refine wpList_load_all rfl 53 _ rfl w.heap.size rfl 53 cs _ hB Try.underlying53 rfl hs ?_)
  |(go_at_call 71;(with_reducible refine(Hu.out _ hb1).mono ?_);rintro e w2 ⟨v2,rfl,hb2,hh⟩;clear hh))
 go_ret
 exact⟨rfl,hb1.trans (hb2.mono hb1.size)⟩
theorem other_any {w:World} {m:RMap} {v:Value} (h:MapV w m v) (p:Int) (hp0 : -9223372036854775808≤p) (hp1:p≤9223372036854775807) :
  Calls Try.prog 43 #[v, .int .i64 p] w fun e w'=>e = .returned (.bool (otherP m p))∧Below w.heap.size w w':=by
 obtain⟨A,cap,rfl,h⟩:=h
 have hs:=map_info (phys:=m.phys) (A:=A) (n:=m.free.length) (cap:=cap) h.len
 have h0:=mapCells_0 m.phys m.regs A m.free.length cap
 have hu:=fun W (hb:Below w.heap.size w W)=>used_any m.phys m.regs m.free A cap W h.p0 h.p1 h.len h.few ((h.ext hb).free) h.nil h.wf
 have hmay:mayP m.phys (m.regs++m.free)=m.may:=rfl
 have hot:otherP m p=(m.may&&(decide (0≤p)&&decide (p<m.phys)&&!((m.regs++m.free).contains p))):=by
  unfold otherP RMap.all
  congr 2
  rw [Bool.eq_iff_iff]
  simp
 rw [hot]
 rw [hmay] at hu
 generalize m.regs++m.free=l at *
 obtain⟨z,hz⟩:∃ z,z=l.contains p:=⟨_,rfl⟩
 rw [←hz]
 generalize mapCells m.phys m.regs A m.free.length cap=cs at *
 generalize m.may=X at *
 generalize m.phys=phys at *
 have Hu:=Lib.hid hu
 clear hu hmay hot
 have hb1:=(Below.refl w.heap.size w).alloc (Nat.le_refl _) (.cells cs 53)
 have hB:=Blk.new w 53 cs
 cases X with
 |false=>
  go_enter Try.func43,Try.ntmps43
  go_wp2_with(first
   |(refine wpList_load_all rfl 53 _ rfl w.heap.size rfl 53 cs _ hB Try.underlying53 rfl hs ?_)
   |(go_at_call 71;(with_reducible refine(Hu.out _ hb1).mono ?_);rintro e w2 ⟨v2,rfl,hb2,hh⟩;clear hh))
  go_ret
  exact⟨rfl,hb1.trans (hb2.mono hb1.size)⟩
 |true=>
  by_cases h1:0≤p
  ·by_cases h2:p<phys
   ·go_enter Try.func43,Try.ntmps43
    go_wp2_with(first
     |(refine wpList_load_all rfl 53 _ rfl w.heap.size rfl 53 cs _ hB Try.underlying53 rfl hs ?_)
     |(go_at_call 71;(with_reducible refine(Hu.out _ hb1).mono ?_);rintro e w2 ⟨v2,rfl,hb2,hh⟩;obtain⟨b,n,S,rfl,hM,hS⟩:=hh rfl;have c0:=(hB.ext hb2).cell 0;rw [h0] at c0;have hlk:=hM.look (t:=136) Try.underlying3 Try.underlying136 Try.underlying4 (bool_zero _) p (wf_i64' hp0 hp1);rw [hS,←hz] at hlk;clear hh hM hS))
    go_ret
    exact⟨by simp [*],hb1.trans (hb2.mono hb1.size)⟩
   ·go_enter Try.func43,Try.ntmps43
    go_wp2_with(first
     |(refine wpList_load_all rfl 53 _ rfl w.heap.size rfl 53 cs _ hB Try.underlying53 rfl hs ?_)
     |(go_at_call 71;(with_reducible refine(Hu.out _ hb1).mono ?_);rintro e w2 ⟨v2,rfl,hb2,hh⟩;have c0:=(hB.ext hb2).cell 0;rw [h0] at c0;clear hh))
    go_ret
    exact⟨by rw [decide_eq_false (p:=p<phys) (by omega)];simp,hb1.trans (hb2.mono hb1.size)⟩
  ·go_enter Try.func43,Try.ntmps43
   go_wp2_with(first
    |(refine wpList_load_all rfl 53 _ rfl w.heap.size rfl 53 cs _ hB Try.underlying53 rfl hs ?_)
    |(go_at_call 71;(with_reducible refine(Hu.out _ hb1).mono ?_);rintro e w2 ⟨v2,rfl,hb2,hh⟩;have c0:=(hB.ext hb2).cell 0;rw [h0] at c0;clear hh))
   go_ret
   exact⟨by rw [decide_eq_false (p:=0≤p) (by omega)];simp,hb1.trans (hb2.mono hb1.size)⟩
end Go.Proofs.Ytapgojgcmlnbgac
namespace Go.Proofs.Ytapgojgcmlnbgac
open Go Go.RowKit
section
variable {P:Program} {fn:Func} {tmps:Array Value} {w:World} {ad:Addr} {v x y z:Value} {p a b c:Tmp} {ty:TypeId}
theorem results_ct (h:fn.results=#[.cell p ty, .tmp a]) (hp:tmps.getD p undef = .pointer (some ad)) (ha:tmps.getD a undef=x) (hl:(loadVar ty ad).run P w = .ok v w):(results fn tmps).run P w = .ok (.tuple #[v,x]) w:=by
 have hp':tmps[p]?.getD undef = .pointer (some ad):=by simpa using hp
 have ha':tmps[a]?.getD undef=x:=by simpa using ha
 simp [results,h,hp',ha',asAddr,hl]
theorem results_cttt (h:fn.results=#[.cell p ty, .tmp a, .tmp b, .tmp c]) (hp:tmps.getD p undef = .pointer (some ad)) (ha:tmps.getD a undef=x) (hb:tmps.getD b undef=y) (hc:tmps.getD c undef=z) (hl:(loadVar ty ad).run P w = .ok v w) :
  (results fn tmps).run P w = .ok (.tuple #[v,x,y,z]) w:=by
 have hp':tmps[p]?.getD undef = .pointer (some ad):=by simpa using hp
 have ha':tmps[a]?.getD undef=x:=by simpa using ha
 have hb':tmps[b]?.getD undef=y:=by simpa using hb
 have hc':tmps[c]?.getD undef=z:=by simpa using hc
 simp [results,h,hp',ha',hb',hc',asAddr,hl]
end
end Go.Proofs.Ytapgojgcmlnbgac
