/- Parts of a proof. -/
import Derived.Test.YtapgojgcmlnbgacK26
import Derived.WalkLawsBesides
import Derived.Lib.Hide
set_option linter.unusedSimpArgs false
set_option linter.unusedVariables false
set_option maxRecDepth 100000
set_option maxHeartbeats 16000000
namespace Go.Proofs.Ytapgojgcmlnbgac
open Go.RowKit
def coreT (t:TypeId):Bool:=t==60 || t==70 || t==66 || t==5 || t==65 || t==82
structure Turned (B:Nat) (w w':World):Prop where
 os:w'.os=w.os
 tape:w'.tape=w.tape
 output:w'.output=w.output
 size:w.heap.size≤w'.heap.size
 low:∀ k,k<w.heap.size→k<B→w'.heap[k]? = w.heap[k]?
 block:∀ k,k<w.heap.size→(∀ cs t fr,w.heap[k]? = some (.cells cs t fr)→coreT t=false)→w'.heap[k]? = w.heap[k]?
theorem Turned.refl (B:Nat) (w:World):Turned B w w:=⟨rfl,rfl,rfl,Nat.le_refl _,fun _ _ _=>rfl,fun _ _ _=>rfl⟩
theorem Turned.trans {B:Nat} {a b c:World} (h:Turned B a b) (k:Turned B b c):Turned B a c:=
 ⟨k.os.trans h.os,k.tape.trans h.tape,k.output.trans h.output,Nat.le_trans h.size k.size,fun i hi hb=>(k.low i (Nat.lt_of_lt_of_le hi h.size) hb).trans (h.low i hi hb),
  fun i hi hc=>(k.block i (Nat.lt_of_lt_of_le hi h.size) (fun cs t fr e=>hc cs t fr (by rw [←h.block i hi hc];exact e))).trans (h.block i hi hc)⟩
theorem Turned.below {B:Nat} {w w':World} (h:Below w.heap.size w w'):Turned B w w':=
 ⟨h.os,h.tape,h.output,h.size,fun k hk _=>h.block k hk,fun k hk _=>h.block k hk⟩
theorem Turned.grown {B:Nat} {w w':World} {row:Option Nat} (h:w.grownBy w' row) (hB:∀ k,row=some k→B≤k∧∃ cs t fr,w.heap[k]? = some (.cells cs t fr)∧coreT t=true):Turned B w w':=
 ⟨h.os,h.tape,h.output,h.size,fun k hk hb=>h.block k hk (fun e=>by have:=(hB k e.symm).1;omega),
  fun k hk hc=>h.block k hk (fun e=>by
   obtain⟨_,cs,t,fr,h1,h2⟩:=hB k e.symm
   rw [hc cs t fr h1] at h2
   cases h2)⟩
theorem Turned.blk {B:Nat} {w w':World} {g:Nat} {t:TypeId} {cs:Array Value} (h:Turned B w w') (hb:Blk w g t cs) (ht:coreT t=false):Blk w' g t cs:=
 (h.block g hb.lt (fun cs' t' fr e=>by
  have hb:w.heap[g]? = some (.cells cs t (0,0)):=hb
  rw [hb] at e
  injection e with e
  injection e with _ e
  rw [←e]
  exact ht)).trans hb
theorem Turned.own {B:Nat} {w w':World} {base:Nat} {e:TypeId} {size:Nat} {v:Value} {n:Nat} {xs:List Value} (h:Turned B w w') (ho:w.ownsRow base e size v n xs) (ht:coreT e=false):w'.ownsRow base e size v n xs:=by
 refine⟨ho.1,?_⟩
 rcases ho.2 with hn | ⟨g,cap,cur,rfl,hb,hgg,rest⟩
 ·exact .inl hn
 ·exact .inr ⟨g,cap,cur,rfl,hb,h.blk (t:=e) (cs:=cur) hgg ht,rest⟩
theorem Turned.toBelow {B:Nat} {w0 w w':World} (hb:Below B w0 w) (h:Turned B w w') (hB:B≤w.heap.size):Below B w0 w':=
 ⟨h.os.trans hb.os,h.tape.trans hb.tape,h.output.trans hb.output,Nat.le_trans hb.size h.size,fun k hk=>(h.low k (by omega) hk).trans (hb.block k hk)⟩
section
variable {B:Nat} {w:World} {g:Nat} {C:Core} {L:Lay} {ps:List Nat} {cs:Array Value}
theorem CoreIs.turned (h:CoreIs B w g C L ps cs) {w':World} (hg:w.grownBy w' (some g)):Turned B w w':=
 Turned.grown hg fun k hk=>by cases hk;exact⟨h.rows.base,cs,_,_,h.blk,rfl⟩
theorem CoreIs.lt (h:CoreIs B w g C L ps cs):g<w.heap.size:=h.blk.lt
theorem CoreIs.cell (h:CoreIs B w g C L ps cs) {k:Nat} {v:Value} (hk:cs[k]? = some v):w.cell? ⟨g,k,none⟩=some v:=(h.blk.cell k).trans hk
theorem CoreIs.script (h:CoreIs B w g C L ps cs):w.cell? ⟨g,43,none⟩=some L.script:=h.cell h.cells.script
theorem CoreIs.slots (h:CoreIs B w g C L ps cs):w.cell? ⟨g,334,none⟩=some L.slots:=h.cell h.cells.slots
theorem CoreIs.ops (h:CoreIs B w g C L ps cs):w.cell? ⟨g,335,none⟩=some L.ops:=h.cell h.cells.ops
theorem CoreIs.access (h:CoreIs B w g C L ps cs):w.cell? ⟨g,336,none⟩=some L.access:=h.cell h.cells.access
theorem CoreIs.mem (h:CoreIs B w g C L ps cs):w.cell? ⟨g,39,none⟩=some L.mem:=h.cell h.cells.mem
theorem CoreIs.commits (h:CoreIs B w g C L ps cs):w.cell? ⟨g,3,none⟩=some L.commits:=h.cell h.cells.commits
theorem CoreIs.word (h:CoreIs B w g C L ps cs) {d:Nat} (hd:d<96):w.cell? ⟨g,142+d,none⟩=some (.int .u32 (C.words.getD d 0)):=h.cell (h.cells.words d hd)
theorem CoreIs.has (h:CoreIs B w g C L ps cs) {d:Nat} (hd:d<96):w.cell? ⟨g,238+d,none⟩=some (.bool (C.there.getD d false)):=h.cell (h.cells.there d hd)
theorem CoreIs.reg (h:CoreIs B w g C L ps cs) {r:Nat} (hr:r<32):w.cell? ⟨g,109+r,none⟩=some (.int .i64 (C.names.regs.getD r 0)):=by
 have:=h.cells.names (1+r) (by omega)
 rw [mapCells_reg _ _ _ _ _ (by rw [h.rows.names.len];exact hr),show 108+(1+r)=109+r by omega] at this
 exact h.cell this
theorem CoreIs.nfree (h:CoreIs B w g C L ps cs):w.cell? ⟨g,141,none⟩=some (.slice L.freeA C.names.free.length L.freeCap):=by
 have:=h.cells.names 33 (by omega)
 rw [mapCells_free _ _ _ _ _ h.rows.names.len] at this
 exact h.cell this
theorem CoreIs.hstate (h:CoreIs B w g C L ps cs) (hl:C.hart.regs.length=32):w.cell? ⟨g,37,none⟩=some (.int .i64 C.hart.state):=by
 have:=h.cells.hart 33 (by omega)
 rw [(Hart.cells_pc hl).2.1] at this
 exact h.cell this
end
theorem choice_any {B:Nat} {w:World} {g:Nat} {C:Core} {L:Lay} {ps:List Nat} {cs:Array Value} (h:CoreIs B w g C L ps cs) :
  Calls Try.prog 34 #[.pointer (some ⟨g,0,none⟩)] w fun e w'=>e = .returned (.int .i64 (headP C.script))∧w.grownBy w' (some g)∧∃ L' cs',CoreIs B w' g { C with script:=C.script.tail } L' ps cs':=by
 have hk:=h.script
 have hl:=h.lt
 obtain⟨A,cap,hs,hc,hcm,hA,hn⟩:=h.rows.script
 rw [hs] at hk
 have H:=Lib.hid h
 cases hsc:C.script with
 |nil=>
  rw [hsc] at hk
  simp only [List.length_nil] at hk
  have e0:((0:Int)==0)=true:=rfl
  have HC:=Lib.hid (show C={ C with script:=[] } by rw [←hsc])
  clear hA hn h hs
  go_enter Try.func34,Try.ntmps34
  go_wp2_with(fail)
  go_ret
  exact⟨rfl,World.grownBy.refl _ _,L,cs,by have:=H.out;rw [HC.out] at this;exact this⟩
 |cons n l=>
  rw [hsc] at hk hc hA hs
  obtain⟨b,o,rfl,hb,hcell⟩:=hA (by simp)
  have c0:w.cell? ⟨b,o,none⟩=some (.int .i64 n):=by have:=hcell 0 n rfl;simpa using this
  have hf:=h.blk.frozen 43
  have hlen:(n::l).length=l.length+1:=rfl
  rw [hlen] at hk hc
  have e0:(((l.length:Int)+1)==0)=false:=by simp;omega
  have H2:Hid (∀ v,(∃ A' cap',v = .slice A' l.length cap'∧l.length≤cap'∧cap'≤9223372036854775807∧IntsAt w B .i64 A' l∧(A'=none→l=[]∧cap'=0))→CoreIs B (w.setCell ⟨g,43,none⟩ v) g { C with script:=l } { L with script:=v } ps (cs.setIfInBounds 43 v)):=
   Lib.hid fun v hv=>h.set 43 v (h.cells.set_script v l) (h.rows.scr hv)
  have hbw:b<w.heap.size:=Nat.lt_of_lt_of_le hb h.low
  have Hcell:=Lib.hid hcell
  clear hA hn h hs hcell
  by_cases hc1:cap=1
  ·subst hc1
   have hl0:l=[]:=List.eq_nil_of_length_eq_zero (by omega)
   subst hl0
   go_enter Try.func34,Try.ntmps34
   go_wp2_with(fail)
   go_ret
   exact⟨rfl,grownBy_setCell _ _ _,_,_,H2.out _ ⟨some ⟨b,o,none⟩,0,rfl,Nat.le_refl _,by omega,fun hh=>absurd rfl hh,fun hh=>by cases hh⟩⟩
  ·go_enter Try.func34,Try.ntmps34
   go_wp2_with(fail)
   go_ret
   refine⟨rfl,grownBy_setCell _ _ _,_,_,H2.out _ ⟨some ⟨b,o+1,none⟩,cap - 1,rfl,by omega,by omega,fun hh=>⟨b,o+1,rfl,hb,fun i v hi=>?_⟩,fun hh=>by cases hh⟩⟩
   have:=Hcell.out (i+1) v (by simpa using hi)
   rwa [show o+(i+1)=o+1+i by omega] at this
end Go.Proofs.Ytapgojgcmlnbgac
