/- Parts of a proof. -/
import Derived.Test.YtapgojgcmlnbgaaGreatDoorTZ
import Derived.Test.YtapgojgcmlnbgaaGreatDoorT09
import Derived.Test.YtapgojgcmlnbgaaGreatDoorT18
import Derived.Test.YtapgojgcmlnbgaaGreatDoorT07
import Derived.Test.YtapgojgcmlnbgaaGreatDoorRows
import Derived.Test.YtapgojgcmlnbgaaGreatDoorT00
import Derived.Lib.LaidU8
import Derived.ShapedOpen
import Derived.LaidMore
import Derived.LaidLaws
set_option linter.unusedSimpArgs false
set_option linter.unusedVariables false
set_option maxRecDepth 100000
set_option maxHeartbeats 16000000
namespace Go.Proofs.YtapgojgcmlnbgaaGreatDoor
open Go Go.RowKit
def Nf (p:Plr) (n:Int):List Com×Aq×Int:=
 if Hb p.hart p.mem n=0 then ((Cz n.toNat p.hart p.mem).1,(Cz n.toNat p.hart p.mem).2.1,0) else ([],Eq,Hb p.hart p.mem n)
def Ng (p:Plr) (n:Int):List Com×Aq×Int:=
 if Ha p.window p.phys p.wide p.hart p.mem.length p.choices.length n=0 then ((Jm p.window p.phys p.wide p.hart p.mem p.choices n.toNat).commits,(Jm p.window p.phys p.wide p.hart p.mem p.choices n.toNat).hart,0) else ([],Eq,Ha p.window p.phys p.wide p.hart p.mem.length p.choices.length n)
theorem Qr:(0:Int)≤0∧(0:Int)≤1000:=by decide
theorem Ah5 {h:Aq} (hm:Ip h=true):(0≤h.state∧h.state≤1000)∧0≤h.cause∧h.cause≤1000:=by
 unfold Ip at hm
 simp at hm
 omega
theorem Adv {p:Plr} (hp:Fi p) (n:Int):Jx (Nf p n):=by
 unfold Nf
 by_cases h:Hb p.hart p.mem n=0
 ·rw [if_pos h]
  have hn:n≤2000:=by
   unfold Hb at h
   split at h
   ·cases h
   ·split at h
    ·cases h
    ·omega
  obtain⟨k1,k2,k3,k4,_⟩:=Tw n.toNat (h:=p.hart) (m:=p.mem) ⟨hp.hart,hp.may,hp.mem⟩
  obtain⟨b1,b2⟩:=Ah5 k1.may
  exact⟨by show(Cz n.toNat p.hart p.mem).1.length≤1000000;omega,fun c hc=>(k3 c hc).1,k1.hart,b1,b2,by simp⟩
 ·rw [if_neg h]
  have hb:0≤Hb p.hart p.mem n∧Hb p.hart p.mem n≤1000:=by unfold Hb;split;omega;split<;>omega
  exact⟨by simp,fun c hc=>(by cases hc),Aaz,Qr,Qr,hb⟩
theorem Agv {p:Plr} (hp:Fi p) (n:Int):Jx (Ng p n):=by
 unfold Ng
 by_cases h:Ha p.window p.phys p.wide p.hart p.mem.length p.choices.length n=0
 ·rw [if_pos h]
  obtain⟨ask,hk,n0,n1⟩:=Zy hp.hart hp.mem h
  have S:=Agm ask p.choices n.toNat
  generalize Jm p.window p.phys p.wide p.hart p.mem p.choices n.toNat=C at S ⊢
  obtain⟨k1,_,k3,_,_⟩:=Tw C.commits.length (h:=p.hart) (m:=p.mem) ⟨hp.hart,hp.may,hp.mem⟩
  rw [S.run] at k1 k3
  dsimp only at k1 k3
  obtain⟨b1,b2⟩:=Ah5 k1.may
  have h1:=S.few
  have h2:=S.cycles
  have h3:C.cycles*p.wide≤6000*4:=Int.mul_le_mul (by omega) ask.wide.2 (by have:=ask.wide.1;omega) (by omega)
  exact⟨by show C.commits.length≤1000000;omega,fun c hc=>(k3 c hc).1,k1.hart,b1,b2,by simp⟩
 ·rw [if_neg h]
  have hb:0≤Ha p.window p.phys p.wide p.hart p.mem.length p.choices.length n∧Ha p.window p.phys p.wide p.hart p.mem.length p.choices.length n≤1000:=by
   obtain⟨q1,q2⟩:=Te p.window p.phys p.wide p.hart p.mem.length p.choices.length n
   by_cases hq:(p.window<1∨32<p.window∨p.phys<33∨96<p.phys∨p.wide<1∨4<p.wide∨Ip p.hart=false∨4096<p.mem.length)
   ·rw [q1 hq];decide
   ·rw [q2 hq];split;decide;split<;>decide
  exact⟨by simp,fun c hc=>(by cases hc),Aaz,Qr,Qr,hb⟩
theorem Vh {w:World} {base:Nat} {e:TypeId} {A:Option Addr} {cap n:Nat} {l:List Int} {k:IntKind} (h:w.ownsRow base e 1 (.slice A n cap) n (l.map (.int k))):(A=none→l=[]∧cap=0)∧n≤cap∧cap≤9223372036854775807:=by
 have hl:l.length=n:=by simpa using h.1
 rcases h.2 with⟨hv,rfl⟩ | ⟨g,c,cur,hv,_,_,h1,h2,_⟩
 ·injection hv with _ _ hc
  subst hc
  exact⟨fun _=>⟨qN hl,rfl⟩,qC _,Nat.zero_le _⟩
 ·injection hv with ha _ hc
  subst ha hc
  exact⟨fun e=>(by cases e),h1,h2⟩
theorem Ah7 {p:Plr} (hp:Fi p) (n:Int) (n0:0≤n) (n1:n≤4294967295) {base:Nat} (A:Option Addr) (cap:Nat) (w:World) (hA:w.ownsRow base 5 1 (.slice A p.mem.length cap) p.mem.length (p.mem.map (.int .u8))) :
  Calls Tryz.prog 11 #[.agg p.hart.cells, .slice A p.mem.length cap, .int .i64 n] w (Zv w (Nf p n)):=by
 have hr:=hp.room
 by_cases h:Hb p.hart p.mem n=0
 ·have e:Nf p n=((Cz n.toNat p.hart p.mem).1,(Cz n.toNat p.hart p.mem).2.1,0):=by unfold Nf;rw [if_pos h]
  rw [e]
  refine(Ak1 p.hart A cap p.mem n w hp.hart (by omega) hp.mem (Ar.own hA) (fun e=>((Vh hA).1 e).1) h).mono ?_
  rintro e w' ⟨AL,cL,A2,c2,rfl,hb,hL,_⟩
  exact⟨hb,AL,cL,_,_,_,rfl,hL⟩
 ·have e:Nf p n=([],Eq,Hb p.hart p.mem n):=by unfold Nf;rw [if_neg h]
  rw [e]
  refine(Ak0 p.hart A cap p.mem n w hp.hart (by omega) (by omega) (by omega) h).mono ?_
  rintro e w' ⟨rfl,hb⟩
  exact⟨hb,none,0,none,0,0,rfl,qT _ _ _ _⟩
theorem Ahg {p:Plr} (hp:Fi p) (n:Int) (n0:0≤n) (n1:n≤4294967295) {base:Nat} (A:Option Addr) (cap:Nat) (A2:Option Addr) (cap2:Nat) (w:World) (hA:w.ownsRow base 5 1 (.slice A p.mem.length cap) p.mem.length (p.mem.map (.int .u8))) (hC:w.ownsRow base 3 1 (.slice A2 p.choices.length cap2) p.choices.length (p.choices.map (.int .i64))) :
  Calls Tryz.prog 13 #[.agg #[.int .i64 p.window, .int .i64 p.phys, .int .i64 p.wide], .agg p.hart.cells, .slice A p.mem.length cap, .slice A2 p.choices.length cap2, .int .i64 n] w (Zt w (Ng p n)):=by
 have hr:=hp.room
 have hm:=hp.many
 by_cases h:Ha p.window p.phys p.wide p.hart p.mem.length p.choices.length n=0
 ·obtain⟨ask,hk,n0,n1⟩:=Zy hp.hart hp.mem h
  have e:Ng p n=((Jm p.window p.phys p.wide p.hart p.mem p.choices n.toNat).commits,(Jm p.window p.phys p.wide p.hart p.mem p.choices n.toNat).hart,0):=by unfold Ng;rw [if_pos h]
  rw [e]
  obtain⟨q1,q2,q3⟩:=Vh hC
  refine(Aj5 p.window p.phys p.wide p.hart A cap p.mem A2 cap2 p.choices n w ask (Ar.own hA) (fun e=>((Vh hA).1 e).1) (Ar.own hC) q1 q2 q3 hk (fun x hx=>by have:=hp.cho x hx;omega) n0 n1).mono ?_
  rintro e w' ⟨hb,vc,vm,rfl,hL,hM⟩
  obtain⟨AL,cL,rfl⟩:=Al hL
  obtain⟨AM,cM,rfl⟩:=Al hM
  exact⟨hb,AL,cL,AM,_,cM,_,_,_,_,rfl,rfl,hL⟩
 ·have e:Ng p n=([],Eq,Ha p.window p.phys p.wide p.hart p.mem.length p.choices.length n):=by unfold Ng;rw [if_neg h]
  rw [e]
  refine(Aj4 p.window p.phys p.wide p.hart A cap p.mem.length A2 cap2 p.choices.length n w hp.hart.len (by omega) (by omega) (by omega) (by omega) h).mono ?_
  rintro e w' ⟨rfl,hb⟩
  exact⟨hb,none,0,none,0,0,0,0,0,_,rfl,rfl,qT _ _ _ _⟩
theorem runs:Aha Nf Ng:=⟨Adv,Agv,Ah7,Ahg⟩
theorem Y6:Ab8 Nf Ng:=fun _ s hp hs=>Aig runs hp s hs
theorem Agc:Rm 16 59 Nf Ng:=fun _ g p vM vC s w V hB hp hP hl=>Ah1 runs g p vM vC s w V hB hp hP hl
def S8 (s:List UInt8):List UInt8:=N1 Nf Ng Et Fh s
theorem Q2 {B:Nat} (s:List UInt8) (w:World) (V:Ig B w) (hB:B≤w.heap.size) (hl:s.length≤2000000) :
  Calls Tryz.prog 7 #[sV s] w fun e w'=>e = .returned (sV (S8 s))∧Below w.heap.size w w':=Aj0 Y6 Agc s w V hB hl
theorem Vj {M R:Plr→Int→List Com×Aq×Int} (HO:Ab8 M R):∀ (K:List (List UInt8)) (p:Plr),Fi p→(∀ x∈K,x.length≤2000000)→(F0 M R Et Fh p K).length≤K.length*21002001
 |[],_,_,_=>Nat.zero_le _
 |x::K,p,hp,h=>by
  obtain⟨h1,h2⟩:=HO p x hp (h x List.mem_cons_self)
  have ih:=Vj HO K _ h1 (fun y hy=>h y (qP _ hy))
  rw [I7]
  simp only [qO,List.length_cons]
  omega
theorem Agi (s:List UInt8) (hl:s.length≤2000000):(S8 s).length≤1000000000:=by
 obtain⟨D,z,hDz⟩:=Sg 10 s
 have hpart:=Ds 10 s
 rw [hDz] at hpart
 unfold S8 N1
 rw [Sc hDz]
 obtain⟨K,hK⟩:∃ K,K=(if z=[] then D else D++[z]).take 40:=⟨_,rfl⟩
 rw [←hK]
 have h40:K.length≤40:=by rw [hK,List.length_take];exact Nat.min_le_left _ _
 have:=Vj Y6 K Ki Q3 (fun x hx=>by
  rw [hK] at hx
  have hx:=List.mem_of_mem_take hx
  have:x∈D++[z]:=by split at hx;exact List.mem_append_left _ hx;exact hx
  exact qD (hpart x this) hl)
 omega
end Go.Proofs.YtapgojgcmlnbgaaGreatDoor
namespace Go.Proofs.YtapgojgcmlnbgaaGreatDoor
open Go Go.Lib Go.RowKit
theorem iface_of_trod {H:Type} {enc:TypeId×Value→H} {P:Program} {w:World} {base:Nat} {sp:Nat→Bool} {t:TypeId} {ms:Array (String×TypeId)} (ht:P.underlying t=some (.interface ms)) {n:Nat} {cs:List Value} {x:DataW H×List MemPlace}
  (h:DataW.trod enc P w base sp false n t cs=some x):∃ E,cs=[E]∧(E = .nilIface∨∃ u v,E = .iface u v):=by
 cases n with
 |zero=>simp [DataW.trod] at h
 |succ n=>
  match cs,h with
  |[],h=>simp [DataW.trod,ht] at h
  |[E],h=>
   refine⟨E,rfl,?_⟩
   cases E with
   |nilIface=>exact Or.inl rfl
   |iface u v=>exact Or.inr ⟨u,v,rfl⟩
   |_=>simp [DataW.trod,ht] at h
  |_::_::_,h=>simp [DataW.trod,ht] at h
theorem var?_below {P:Program} {w w':World} {n:String} {cs:Array Value} (h:w.var? P n=some cs) (hb:Below w.heap.size w w'):w'.var? P n=some cs:=by
 unfold World.var? at h ⊢
 cases hg:P.globalNamed n with
 |none=>simp [hg] at h
 |some g=>
  simp only [hg,Option.bind_some] at h ⊢
  have hlt:g<w.heap.size:=by
   rcases Nat.lt_or_ge g w.heap.size with h' | h'
   ·exact h'
   ·simp [Array.getElem?_eq_none h'] at h
  rw [hb.block g hlt]
  exact h
theorem Aii:(Rows.laid_internal_strconv_uint64pow10:DataW Unit)=tabData .u64 pow10Tab:=by kernel_rfl
theorem Amp : Tryz.prog.globalNamed "strconv.ErrSyntax" = some 3 := by kernel_rfl
theorem Amo : Tryz.prog.globalNamed "strconv.ErrRange" = some 4 := by kernel_rfl
theorem Amn : Tryz.prog.globalNamed "internal/strconv.uint64pow10" = some 5 := by kernel_rfl
theorem Amh:(Tryz.prog.globals[3]?).map (·.type)=some 119:=by kernel_rfl
theorem Ami:(Tryz.prog.globals[4]?).map (·.type)=some 119:=by kernel_rfl
theorem Aak {W:World} {n:String} {g:Nat} {t:TypeId} {ms:Array (String×TypeId)} {d:DataW Unit} (hg:Tryz.prog.globalNamed n=some g) (hty:(Tryz.prog.globals[g]?).map (·.type)=some t) (ht:Tryz.prog.underlying t=some (.interface ms)) (h:VarReads Tryz.prog W n d) :
  ∃ ev,W.cell? ⟨g,0,none⟩=some ev∧(ev = .nilIface∨∃ te pe,ev = .iface te pe):=by
 obtain⟨g',t',cs,fuel,p,hg',ht',hv,hd⟩:=h
 obtain rfl:=qK (hg.symm.trans hg')
 obtain rfl:=qK (hty.symm.trans ht')
 obtain⟨E,hE,hE2⟩:=iface_of_trod ht hd
 refine⟨E,?_,hE2⟩
 have:=World.var?_cell hg hv 0
 rw [←Array.getElem?_toList,hE] at this
 exact this
theorem Y2 {P:Program} {w:World} {g:Nat} {t:TypeId} {k:IntKind} {zero:Array Value} (h:w.ShapedOpen P) (hg:g<P.globals.size)
  (h0:((begin P (fun _ _=>0) default).world.heap[g]?).bind Obj.row? = some (zero,t)) (hz:zero.size=1) (hb:P.buildable t=true) (hc:P.cellTypes P.depth t=some [t]) (hu:P.underlying t=some (.int k)):∃ m,w.cell? ⟨g,0,none⟩=some (.int k m):=by
 obtain⟨cs,hh,hs,hr⟩:=h.1 g zero t hg h0
 obtain⟨ts,hts,_,hall⟩:=hr hb
 rw [hc] at hts
 cases hts
 have h1:0<cs.size:=by omega
 obtain⟨u,hu',hok⟩:=hall 0 cs[0] (by simp [h1])
 have:u=t:=by simpa using hu'.symm
 subst this
 have hcell:w.cell? ⟨g,0,none⟩=some cs[0]:=by simp [World.cell?,hh,h1]
 rw [hcell]
 unfold Cell.ok at hok
 rw [hu] at hok
 cases hv:cs[0] with
 |int k' m=>
  rw [hv] at hok
  obtain rfl:k'=k:=hok.1
  exact⟨_,rfl⟩
 |_=>rw [hv] at hok;simp at hok
theorem Ah4 {W:World} (h:W.ShapedOpen Tryz.prog):∃ m,W.cell? ⟨0,0,none⟩=some (.int .i64 m):=
 Y2 (zero:=#[.int .i64 0]) (t:=3) h (of_decide_eq_true (by kernel_rfl)) (by kernel_rfl) rfl (by kernel_rfl) (by kernel_rfl) Tryz.underlying3
theorem Am5:(Tryz.prog.globals[5]?).map (·.type)=some 223:=by kernel_rfl
theorem Ak9:Tryz.prog.cellsOf 117=1:=by kernel_rfl
theorem Amj:Tryz.prog.cellsOf 223=20:=by kernel_rfl
theorem Am4:((begin Tryz.prog (fun _ _=>0) default).world.heap[7]?).bind Obj.row? = some ((List.replicate 64 (Value.int .u8 0)).toArray,237):=by kernel_rfl
theorem Aet {W : World} {l : List (String × DataW Unit)} (hL : laidMet Tryz.prog l W) (h1 : ("internal/strconv.uint64pow10", Rows.laid_internal_strconv_uint64pow10) ∈ l) (h2 : ("strconv.ErrRange", Rows.laid_strconv_ErrRange) ∈ l) (h3 : ("strconv.ErrSyntax", Rows.laid_strconv_ErrSyntax) ∈ l) (hS : W.ShapedOpen Tryz.prog) : Ig W.heap.size W := by
 have hsyn:=Aak Amp Amh Tryz.underlying119 (Lib.laidMet.reads hL h3)
 have hrng:=Aak Amo Ami Tryz.underlying119 (Lib.laidMet.reads hL h2)
 obtain⟨g',t',cs,fuel,p,hg',ht',hv,hd⟩:=Lib.laidMet.reads hL h1
 obtain rfl:=qK (Amn.symm.trans hg')
 obtain rfl:=qK (Am5.symm.trans ht')
 rw [Aii] at hd
 have hcs:=cells_of_tab Tryz.underlying223 Tryz.underlying117 Ak9 Amj hd
 refine⟨fun w' hb=>?_,hsyn,hrng,Ah4 hS,?_⟩
 ·show w'.var? _ _=_
  rw [var?_below hv hb,←hcs]
 ·obtain⟨o,ho⟩:∃ o,W.heap[7]? = some o:=by
   obtain⟨cs,h,_⟩:=hS.1 7 _ _ (of_decide_eq_true (by kernel_rfl)) Am4
   exact⟨_,h⟩
  rcases Nat.lt_or_ge 7 W.heap.size with h | h
  ·exact h
  ·rw [Array.getElem?_eq_none h] at ho;cases ho
end Go.Proofs.YtapgojgcmlnbgaaGreatDoor
namespace Go.Proofs.YtapgojgcmlnbgaaGreatDoor
open Go
noncomputable def Im (os:Os):World:=
 let w0:=World.doorLaid Tryz.prog 72 os
 { w0 with heap:=w0.heap.modify 1 fun
   |.cells _ t frozen => .cells (match (Rows.laid_unicode_utf8_first) with | .agg l=>(l.map fun | .lit (.int k z)=>Value.int k z | _ => .nilIface).toArray | _=>#[]) t frozen
   |o=>o }
set_option maxRecDepth 100000
theorem Aa2 (os:Os) (args:Array Value):laidMet Tryz.prog Rows.driveOnUptoRow.laid ((Im os).forCall (fun _ _=>0) ⟨#[],args,[]⟩).memory:=
 laidMet_of_run' 8 (by kernel_rfl) (by kernel_rfl)
theorem Xv (os:Os) (args:Array Value):((Im os).forCall (fun _ _=>0) ⟨#[],args,[]⟩).variablesRefB Tryz.prog=true:=by kernel_rfl
theorem Xu (os:Os) (args:Array Value):(((Im os).forCall (fun _ _=>0) ⟨#[],args,[]⟩).heap.toList.drop Tryz.prog.globals.size).take ((begin Tryz.prog (fun _ _=>0) default).world.heap.size - Tryz.prog.globals.size) =
  (begin Tryz.prog (fun _ _=>0) default).world.heap.toList.drop Tryz.prog.globals.size:=by kernel_rfl
end Go.Proofs.YtapgojgcmlnbgaaGreatDoor
