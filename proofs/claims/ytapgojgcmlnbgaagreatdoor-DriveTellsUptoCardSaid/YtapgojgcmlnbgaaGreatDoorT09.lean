/- Parts of a proof. -/
import Derived.Test.YtapgojgcmlnbgaaGreatDoorTZ
import Derived.Test.YtapgojgcmlnbgaaGreatDoorT06
import Derived.Test.YtapgojgcmlnbgaaGreatDoorT08
import Derived.Test.YtapgojgcmlnbgaaGreatDoorT04
import Derived.Test.YtapgojgcmlnbgaaGreatDoorT00
import Derived.Test.YtapgojgcmlnbgaaGreatDoorT03
import Derived.Test.YtapgojgcmlnbgaaGreatDoorT02
set_option linter.unusedSimpArgs false
set_option linter.unusedVariables false
set_option maxRecDepth 100000
set_option maxHeartbeats 16000000
namespace Go.Proofs.YtapgojgcmlnbgaaGreatDoor
open Go Go.RowKit
def K4 (a b c:Int) (sv:Value) (pc:Int):Array Value:=
 ([Value.int .i64 a,Value.int .i64 b,Value.int .i64 c,Value.slice none 0 0]++List.replicate 32 (Value.int .u32 0)++[Value.int .u32 0,Value.int .i64 0,Value.int .i64 0]++[Value.slice none 0 0,Value.int .i64 0,Value.int .i64 0,Value.int .i64 0,sv] ++
  ((List.replicate 16 [Value.int .i64 0,Value.int .u32 0]).flatten++(List.replicate 8 [Value.int .u32 0,Value.int .u32 0,Value.int .u32 0,Value.int .i64 0]).flatten)++[Value.int .i64 0]++List.replicate 32 (Value.int .i64 0)++[Value.slice none 0 0] ++
  List.replicate 96 (Value.int .u32 0)++List.replicate 96 (Value.bool false)++[Value.slice none 0 0,Value.slice none 0 0,Value.slice none 0 0,Value.int .i64 0,Value.int .u32 pc,Value.bool false]).toArray
def O1 (a b c:Int) (sc:List Int) (pc:Int):Core:=⟨a,b,c,[],⟨List.replicate 32 0,0,0,0⟩,[],0,0,0,sc,Wx,Ax.zero,List.replicate 96 0,List.replicate 96 false,[],[],[],0,pc,false⟩
def Ajj (sv:Value):Lay:=⟨.slice none 0 0, .slice none 0 0,sv, .slice none 0 0, .slice none 0 0, .slice none 0 0,none,0⟩
theorem Z5 (a b c:Int) (A:Option Addr) (n cap:Nat) (pc:Int):Tryz.prog.built 86 [(0, .agg #[.int .i64 a, .int .i64 b, .int .i64 c]),(2, .slice A n cap),(11, .int .u32 pc)]=some (K4 a b c (.slice A n cap) pc):=by kernel_rfl
theorem Aad (a b c:Int) (sv:Value) (pc:Int):∀ i,i<35→(K4 a b c sv pc)[4+i]? = (Aq.cells ⟨List.replicate 32 0,0,0,0⟩)[i]?
 |0,_=>by kernel_rfl
 |1,_=>by kernel_rfl
 |2,_=>by kernel_rfl
 |3,_=>by kernel_rfl
 |4,_=>by kernel_rfl
 |5,_=>by kernel_rfl
 |6,_=>by kernel_rfl
 |7,_=>by kernel_rfl
 |8,_=>by kernel_rfl
 |9,_=>by kernel_rfl
 |10,_=>by kernel_rfl
 |11,_=>by kernel_rfl
 |12,_=>by kernel_rfl
 |13,_=>by kernel_rfl
 |14,_=>by kernel_rfl
 |15,_=>by kernel_rfl
 |16,_=>by kernel_rfl
 |17,_=>by kernel_rfl
 |18,_=>by kernel_rfl
 |19,_=>by kernel_rfl
 |20,_=>by kernel_rfl
 |21,_=>by kernel_rfl
 |22,_=>by kernel_rfl
 |23,_=>by kernel_rfl
 |24,_=>by kernel_rfl
 |25,_=>by kernel_rfl
 |26,_=>by kernel_rfl
 |27,_=>by kernel_rfl
 |28,_=>by kernel_rfl
 |29,_=>by kernel_rfl
 |30,_=>by kernel_rfl
 |31,_=>by kernel_rfl
 |32,_=>by kernel_rfl
 |33,_=>by kernel_rfl
 |34,_=>by kernel_rfl
 |i+35,h=>by omega
theorem Acm (a b c:Int) (sv:Value) (pc:Int):∀ i,i<64→(K4 a b c sv pc)[44+i]? = Wx[i]?
 |0,_=>by kernel_rfl
 |1,_=>by kernel_rfl
 |2,_=>by kernel_rfl
 |3,_=>by kernel_rfl
 |4,_=>by kernel_rfl
 |5,_=>by kernel_rfl
 |6,_=>by kernel_rfl
 |7,_=>by kernel_rfl
 |8,_=>by kernel_rfl
 |9,_=>by kernel_rfl
 |10,_=>by kernel_rfl
 |11,_=>by kernel_rfl
 |12,_=>by kernel_rfl
 |13,_=>by kernel_rfl
 |14,_=>by kernel_rfl
 |15,_=>by kernel_rfl
 |16,_=>by kernel_rfl
 |17,_=>by kernel_rfl
 |18,_=>by kernel_rfl
 |19,_=>by kernel_rfl
 |20,_=>by kernel_rfl
 |21,_=>by kernel_rfl
 |22,_=>by kernel_rfl
 |23,_=>by kernel_rfl
 |24,_=>by kernel_rfl
 |25,_=>by kernel_rfl
 |26,_=>by kernel_rfl
 |27,_=>by kernel_rfl
 |28,_=>by kernel_rfl
 |29,_=>by kernel_rfl
 |30,_=>by kernel_rfl
 |31,_=>by kernel_rfl
 |32,_=>by kernel_rfl
 |33,_=>by kernel_rfl
 |34,_=>by kernel_rfl
 |35,_=>by kernel_rfl
 |36,_=>by kernel_rfl
 |37,_=>by kernel_rfl
 |38,_=>by kernel_rfl
 |39,_=>by kernel_rfl
 |40,_=>by kernel_rfl
 |41,_=>by kernel_rfl
 |42,_=>by kernel_rfl
 |43,_=>by kernel_rfl
 |44,_=>by kernel_rfl
 |45,_=>by kernel_rfl
 |46,_=>by kernel_rfl
 |47,_=>by kernel_rfl
 |48,_=>by kernel_rfl
 |49,_=>by kernel_rfl
 |50,_=>by kernel_rfl
 |51,_=>by kernel_rfl
 |52,_=>by kernel_rfl
 |53,_=>by kernel_rfl
 |54,_=>by kernel_rfl
 |55,_=>by kernel_rfl
 |56,_=>by kernel_rfl
 |57,_=>by kernel_rfl
 |58,_=>by kernel_rfl
 |59,_=>by kernel_rfl
 |60,_=>by kernel_rfl
 |61,_=>by kernel_rfl
 |62,_=>by kernel_rfl
 |63,_=>by kernel_rfl
 |i+64,h=>by omega
theorem Yr (a b c:Int) (sv:Value) (pc:Int):∀ i,i<34→(K4 a b c sv pc)[108+i]? = (Ag Ax.zero.phys Ax.zero.regs none Ax.zero.free.length 0)[i]?
 |0,_=>by kernel_rfl
 |1,_=>by kernel_rfl
 |2,_=>by kernel_rfl
 |3,_=>by kernel_rfl
 |4,_=>by kernel_rfl
 |5,_=>by kernel_rfl
 |6,_=>by kernel_rfl
 |7,_=>by kernel_rfl
 |8,_=>by kernel_rfl
 |9,_=>by kernel_rfl
 |10,_=>by kernel_rfl
 |11,_=>by kernel_rfl
 |12,_=>by kernel_rfl
 |13,_=>by kernel_rfl
 |14,_=>by kernel_rfl
 |15,_=>by kernel_rfl
 |16,_=>by kernel_rfl
 |17,_=>by kernel_rfl
 |18,_=>by kernel_rfl
 |19,_=>by kernel_rfl
 |20,_=>by kernel_rfl
 |21,_=>by kernel_rfl
 |22,_=>by kernel_rfl
 |23,_=>by kernel_rfl
 |24,_=>by kernel_rfl
 |25,_=>by kernel_rfl
 |26,_=>by kernel_rfl
 |27,_=>by kernel_rfl
 |28,_=>by kernel_rfl
 |29,_=>by kernel_rfl
 |30,_=>by kernel_rfl
 |31,_=>by kernel_rfl
 |32,_=>by kernel_rfl
 |33,_=>by kernel_rfl
 |i+34,h=>by omega
theorem Yt (a b c:Int) (sv:Value) (pc:Int):∀ i,i<96→(K4 a b c sv pc)[142+i]? = some (.int .u32 ((List.replicate 96 (0:Int)).getD i 0))
 |0,_=>by kernel_rfl
 |1,_=>by kernel_rfl
 |2,_=>by kernel_rfl
 |3,_=>by kernel_rfl
 |4,_=>by kernel_rfl
 |5,_=>by kernel_rfl
 |6,_=>by kernel_rfl
 |7,_=>by kernel_rfl
 |8,_=>by kernel_rfl
 |9,_=>by kernel_rfl
 |10,_=>by kernel_rfl
 |11,_=>by kernel_rfl
 |12,_=>by kernel_rfl
 |13,_=>by kernel_rfl
 |14,_=>by kernel_rfl
 |15,_=>by kernel_rfl
 |16,_=>by kernel_rfl
 |17,_=>by kernel_rfl
 |18,_=>by kernel_rfl
 |19,_=>by kernel_rfl
 |20,_=>by kernel_rfl
 |21,_=>by kernel_rfl
 |22,_=>by kernel_rfl
 |23,_=>by kernel_rfl
 |24,_=>by kernel_rfl
 |25,_=>by kernel_rfl
 |26,_=>by kernel_rfl
 |27,_=>by kernel_rfl
 |28,_=>by kernel_rfl
 |29,_=>by kernel_rfl
 |30,_=>by kernel_rfl
 |31,_=>by kernel_rfl
 |32,_=>by kernel_rfl
 |33,_=>by kernel_rfl
 |34,_=>by kernel_rfl
 |35,_=>by kernel_rfl
 |36,_=>by kernel_rfl
 |37,_=>by kernel_rfl
 |38,_=>by kernel_rfl
 |39,_=>by kernel_rfl
 |40,_=>by kernel_rfl
 |41,_=>by kernel_rfl
 |42,_=>by kernel_rfl
 |43,_=>by kernel_rfl
 |44,_=>by kernel_rfl
 |45,_=>by kernel_rfl
 |46,_=>by kernel_rfl
 |47,_=>by kernel_rfl
 |48,_=>by kernel_rfl
 |49,_=>by kernel_rfl
 |50,_=>by kernel_rfl
 |51,_=>by kernel_rfl
 |52,_=>by kernel_rfl
 |53,_=>by kernel_rfl
 |54,_=>by kernel_rfl
 |55,_=>by kernel_rfl
 |56,_=>by kernel_rfl
 |57,_=>by kernel_rfl
 |58,_=>by kernel_rfl
 |59,_=>by kernel_rfl
 |60,_=>by kernel_rfl
 |61,_=>by kernel_rfl
 |62,_=>by kernel_rfl
 |63,_=>by kernel_rfl
 |64,_=>by kernel_rfl
 |65,_=>by kernel_rfl
 |66,_=>by kernel_rfl
 |67,_=>by kernel_rfl
 |68,_=>by kernel_rfl
 |69,_=>by kernel_rfl
 |70,_=>by kernel_rfl
 |71,_=>by kernel_rfl
 |72,_=>by kernel_rfl
 |73,_=>by kernel_rfl
 |74,_=>by kernel_rfl
 |75,_=>by kernel_rfl
 |76,_=>by kernel_rfl
 |77,_=>by kernel_rfl
 |78,_=>by kernel_rfl
 |79,_=>by kernel_rfl
 |80,_=>by kernel_rfl
 |81,_=>by kernel_rfl
 |82,_=>by kernel_rfl
 |83,_=>by kernel_rfl
 |84,_=>by kernel_rfl
 |85,_=>by kernel_rfl
 |86,_=>by kernel_rfl
 |87,_=>by kernel_rfl
 |88,_=>by kernel_rfl
 |89,_=>by kernel_rfl
 |90,_=>by kernel_rfl
 |91,_=>by kernel_rfl
 |92,_=>by kernel_rfl
 |93,_=>by kernel_rfl
 |94,_=>by kernel_rfl
 |95,_=>by kernel_rfl
 |i+96,h=>by omega
theorem Ys (a b c:Int) (sv:Value) (pc:Int):∀ i,i<96→(K4 a b c sv pc)[238+i]? = some (.bool ((List.replicate 96 false).getD i false))
 |0,_=>by kernel_rfl
 |1,_=>by kernel_rfl
 |2,_=>by kernel_rfl
 |3,_=>by kernel_rfl
 |4,_=>by kernel_rfl
 |5,_=>by kernel_rfl
 |6,_=>by kernel_rfl
 |7,_=>by kernel_rfl
 |8,_=>by kernel_rfl
 |9,_=>by kernel_rfl
 |10,_=>by kernel_rfl
 |11,_=>by kernel_rfl
 |12,_=>by kernel_rfl
 |13,_=>by kernel_rfl
 |14,_=>by kernel_rfl
 |15,_=>by kernel_rfl
 |16,_=>by kernel_rfl
 |17,_=>by kernel_rfl
 |18,_=>by kernel_rfl
 |19,_=>by kernel_rfl
 |20,_=>by kernel_rfl
 |21,_=>by kernel_rfl
 |22,_=>by kernel_rfl
 |23,_=>by kernel_rfl
 |24,_=>by kernel_rfl
 |25,_=>by kernel_rfl
 |26,_=>by kernel_rfl
 |27,_=>by kernel_rfl
 |28,_=>by kernel_rfl
 |29,_=>by kernel_rfl
 |30,_=>by kernel_rfl
 |31,_=>by kernel_rfl
 |32,_=>by kernel_rfl
 |33,_=>by kernel_rfl
 |34,_=>by kernel_rfl
 |35,_=>by kernel_rfl
 |36,_=>by kernel_rfl
 |37,_=>by kernel_rfl
 |38,_=>by kernel_rfl
 |39,_=>by kernel_rfl
 |40,_=>by kernel_rfl
 |41,_=>by kernel_rfl
 |42,_=>by kernel_rfl
 |43,_=>by kernel_rfl
 |44,_=>by kernel_rfl
 |45,_=>by kernel_rfl
 |46,_=>by kernel_rfl
 |47,_=>by kernel_rfl
 |48,_=>by kernel_rfl
 |49,_=>by kernel_rfl
 |50,_=>by kernel_rfl
 |51,_=>by kernel_rfl
 |52,_=>by kernel_rfl
 |53,_=>by kernel_rfl
 |54,_=>by kernel_rfl
 |55,_=>by kernel_rfl
 |56,_=>by kernel_rfl
 |57,_=>by kernel_rfl
 |58,_=>by kernel_rfl
 |59,_=>by kernel_rfl
 |60,_=>by kernel_rfl
 |61,_=>by kernel_rfl
 |62,_=>by kernel_rfl
 |63,_=>by kernel_rfl
 |64,_=>by kernel_rfl
 |65,_=>by kernel_rfl
 |66,_=>by kernel_rfl
 |67,_=>by kernel_rfl
 |68,_=>by kernel_rfl
 |69,_=>by kernel_rfl
 |70,_=>by kernel_rfl
 |71,_=>by kernel_rfl
 |72,_=>by kernel_rfl
 |73,_=>by kernel_rfl
 |74,_=>by kernel_rfl
 |75,_=>by kernel_rfl
 |76,_=>by kernel_rfl
 |77,_=>by kernel_rfl
 |78,_=>by kernel_rfl
 |79,_=>by kernel_rfl
 |80,_=>by kernel_rfl
 |81,_=>by kernel_rfl
 |82,_=>by kernel_rfl
 |83,_=>by kernel_rfl
 |84,_=>by kernel_rfl
 |85,_=>by kernel_rfl
 |86,_=>by kernel_rfl
 |87,_=>by kernel_rfl
 |88,_=>by kernel_rfl
 |89,_=>by kernel_rfl
 |90,_=>by kernel_rfl
 |91,_=>by kernel_rfl
 |92,_=>by kernel_rfl
 |93,_=>by kernel_rfl
 |94,_=>by kernel_rfl
 |95,_=>by kernel_rfl
 |i+96,h=>by omega
theorem Yq (a b c:Int) (sv:Value) (sc:List Int) (pc:Int):Ak (K4 a b c sv pc) (O1 a b c sc pc) (Ajj sv):=
 ⟨by kernel_rfl,by kernel_rfl,by kernel_rfl,by kernel_rfl,by kernel_rfl,by kernel_rfl,by kernel_rfl,by kernel_rfl,by kernel_rfl,by kernel_rfl,by kernel_rfl,by kernel_rfl,by kernel_rfl,by kernel_rfl,by kernel_rfl,by kernel_rfl,
  Aad a b c sv pc,Acm a b c sv pc,Yr a b c sv pc,Yt a b c sv pc,Ys a b c sv pc⟩
theorem Ak.set_mem {cs:Array Value} {C:Core} {L:Lay} (h:Ak cs C L) (v:Value) (l:List Int):Ak (cs.setIfInBounds 39 (v)) { C with mem:=l } { L with mem:=v }:=
 ⟨(by simp [h.size]),(by rw [Aa h.size,if_neg (by omega)];exact h.window),(by rw [Aa h.size,if_neg (by omega)];exact h.phys),(by rw [Aa h.size,if_neg (by omega)];exact h.wide),(by rw [Aa h.size,if_neg (by omega)];exact h.commits),(by rw [Aa h.size,if_pos ⟨rfl,by omega⟩]),(by rw [Aa h.size,if_neg (by omega)];exact h.cycles),(by rw [Aa h.size,if_neg (by omega)];exact h.taken),(by rw [Aa h.size,if_neg (by omega)];exact h.backs),(by rw [Aa h.size,if_neg (by omega)];exact h.script),(by rw [Aa h.size,if_neg (by omega)];exact h.slots),(by rw [Aa h.size,if_neg (by omega)];exact h.ops),(by rw [Aa h.size,if_neg (by omega)];exact h.access),(by rw [Aa h.size,if_neg (by omega)];exact h.seq),(by rw [Aa h.size,if_neg (by omega)];exact h.pc),(by rw [Aa h.size,if_neg (by omega)];exact h.still),(fun i hi=>by rw [Aa h.size,if_neg (by omega)];exact h.hart i hi),(fun i hi=>by rw [Aa h.size,if_neg (by omega)];exact h.tab i hi),(fun i hi=>by rw [Aa h.size,if_neg (by omega)];exact h.names i hi),(fun i hi=>by rw [Aa h.size,if_neg (by omega)];exact h.words i hi),(fun i hi=>by rw [Aa h.size,if_neg (by omega)];exact h.there i hi)⟩
def Cq (vc:Value) (H:Aq) (vm:Value) (cy tk bk:Int):Array Value:=(vc::(H.cells.toList++[vm, .int .i64 cy, .int .i64 tk, .int .i64 bk])).toArray
theorem It (vc:Value) {H:Aq} (hl:H.regs.length=32) (vm:Value) (cy tk bk:Int):(Cq vc H vm cy tk bk).size=40:=by
 unfold Cq
 have:=Aq.cells_size hl
 simp [this]
theorem Ak.shownX {cs:Array Value} {C:Core} {L:Lay} (h:Ak cs C L) (hl:C.hart.regs.length=32):cs.extract 3 (3+40)=Cq L.commits C.hart L.mem C.cycles C.taken C.backs:=by
 apply Array.ext_getElem?
 intro i
 have hz:=Aq.cells_size hl
 rw [Array.getElem?_extract]
 have es:(Cq L.commits C.hart L.mem C.cycles C.taken C.backs)[i]? = (L.commits::(C.hart.cells.toList++[L.mem, .int .i64 C.cycles, .int .i64 C.taken, .int .i64 C.backs]))[i]? := by
  unfold Cq
  simp
 rw [es]
 clear es
 by_cases hi:i<40
 ·rw [if_pos (by rw [h.size];omega)]
  match i,hi with
  |0,_=>exact h.commits
  |i+1,hi=>
   rw [List.getElem?_cons_succ]
   by_cases h35:i<35
   ·rw [qQ (by simpa [hz] using h35),show 3+(i+1)=4+i by omega,h.hart i h35]
    simp
   ·rw [qR (by simp [hz];omega)]
    have e:C.hart.cells.toList.length=35:=by simp [hz]
    rw [e]
    obtain rfl | rfl | rfl | rfl:i=35∨i=36∨i=37∨i=38:=by omega
    ·exact h.mem
    ·exact h.cycles
    ·exact h.taken
    ·exact h.backs
 ·rw [if_neg (by omega),List.getElem?_eq_none (by simp [hz];omega)]
theorem Kz (vc:Value) {H:Aq} (hl:H.regs.length=32) (vm:Value) (cy tk bk:Int):(Cq vc H vm cy tk bk).extract 1 (1+35)=H.cells:=by
 have hs:H.cells.toList.length=35:=by rw [M2];simp [hl]
 apply Array.toList_inj.1
 unfold Cq
 rw [Array.toList_extract]
 simp only [List.extract_eq_take_drop]
 have:(vc::(H.cells.toList++[vm, .int .i64 cy, .int .i64 tk, .int .i64 bk])).drop 1=H.cells.toList++[vm, .int .i64 cy, .int .i64 tk, .int .i64 bk]:=rfl
 rw [this]
 exact List.take_left' hs
structure Jx (x:List Com×Aq×Int):Prop where
 many:x.1.length≤1000000
 coms:∀ c∈x.1,c.Wf
 hart:x.2.1.Wf
 state:0≤x.2.1.state∧x.2.1.state≤1000
 cause:0≤x.2.1.cause∧x.2.1.cause≤1000
 err:0≤x.2.2∧x.2.2≤1000
theorem Ty {B:Nat} (A:Option Addr) (x:List Com×Aq×Int) (cap:Nat) (w:World) (V:Ig B w) (hB:B≤w.heap.size) (hx:Jx x) (hA:Dq w w.heap.size A x.1) :
  Calls Tryz.prog 31 #[.slice A x.1.length cap, .agg x.2.1.cells, .int .i64 x.2.2] w fun r w'=>r = .returned (sV (M5 x.1 x.2.1 x.2.2))∧Below w.heap.size w w':=by
 obtain⟨L,H,e⟩:=x
 have h1:=hx.err
 dsimp only at h1 hA ⊢
 unfold M5
 by_cases h0:e=0
 ·subst h0
  rw [if_neg (by simp)]
  exact Aka A L cap H w V hB hx.many hx.coms hx.hart hx.state hx.cause hA
 ·rw [if_pos h0]
  exact Aiv A L.length cap H.cells e w V hB (by omega) h1.2
theorem Ab1 {x:List Com×Aq×Int} (hx:Jx x):(M5 x.1 x.2.1 x.2.2).length≤21002000:=by
 obtain⟨L,H,e⟩:=x
 have h1:=hx.err
 have h2:=hx.many
 have h3:=hx.state
 have h4:=hx.cause
 have h5:=hx.hart.pc0
 have h6:=hx.hart.pc1
 have h7:=hx.coms
 dsimp only at h1 h2 h3 h4 h5 h6 h7 ⊢
 unfold M5
 split
 ·have:=(I9 [e] Yl (by simp;omega)).2
  have hb:Yl.length=3:=rfl
  simp only [List.length_cons,List.length_nil] at this
  omega
 ·have k1:=X5 L (Dz (Lib.decDigits L.length) [H.state,H.cause,H.pc]) h7
  have k2:=(I9 [H.state,H.cause,H.pc] (Lib.decDigits L.length) (by simp;omega)).2
  have k3:=Eo L.length (by omega)
  rw [←Lib.decDigits_length] at k3
  simp only [List.length_cons,List.length_nil] at k2
  have k4:((L.length:Int)).toNat=L.length:=by simp
  omega
def Zv (w:World) (x:List Com×Aq×Int) (e:Ending) (w':World):Prop:=
 Below w.heap.size w w'∧∃ AL cL A2 n2 c2,e = .returned (.tuple #[.slice AL x.1.length cL, .agg x.2.1.cells, .slice A2 n2 c2, .int .i64 x.2.2])∧w'.ownsRow w.heap.size 65 11 (.slice AL x.1.length cL) x.1.length (Ec x.1)
def Zt (w:World) (x:List Com×Aq×Int) (e:Ending) (w':World):Prop:=
 Below w.heap.size w w'∧∃ AL cL A2 n2 c2 cy tk bk T,T=Cq (.slice AL x.1.length cL) x.2.1 (.slice A2 n2 c2) cy tk bk∧e = .returned (.tuple #[.agg T, .int .i64 x.2.2])∧w'.ownsRow w.heap.size 65 11 (.slice AL x.1.length cL) x.1.length (Ec x.1)
structure Aha (M R:Plr→Int→List Com×Aq×Int):Prop where
 tellM:∀ {p:Plr},Fi p→∀ n,Jx (M p n)
 tellR:∀ {p:Plr},Fi p→∀ n,Jx (R p n)
 callM:∀ {p:Plr},Fi p→∀ (n:Int),0≤n→n≤4294967295→∀ {base:Nat} (A:Option Addr) (cap:Nat) (w:World),w.ownsRow base 5 1 (.slice A p.mem.length cap) p.mem.length (p.mem.map (.int .u8)) →
  Calls Tryz.prog 11 #[.agg p.hart.cells, .slice A p.mem.length cap, .int .i64 n] w (Zv w (M p n))
 callR:∀ {p:Plr},Fi p→∀ (n:Int),0≤n→n≤4294967295→∀ {base:Nat} (A:Option Addr) (cap:Nat) (A2:Option Addr) (cap2:Nat) (w:World),w.ownsRow base 5 1 (.slice A p.mem.length cap) p.mem.length (p.mem.map (.int .u8)) →
  w.ownsRow base 3 1 (.slice A2 p.choices.length cap2) p.choices.length (p.choices.map (.int .i64)) →
  Calls Tryz.prog 13 #[.agg #[.int .i64 p.window, .int .i64 p.phys, .int .i64 p.wide], .agg p.hart.cells, .slice A p.mem.length cap, .slice A2 p.choices.length cap2, .int .i64 n] w (Zt w (R p n))
end Go.Proofs.YtapgojgcmlnbgaaGreatDoor
namespace Go.Proofs.YtapgojgcmlnbgaaGreatDoor
open Go
section
variable (M R:Plr→Int→List Com×Aq×Int) (D:Int→Option (List Int)) (may:Int→Int→Int→Bool)
def Dm (p:Plr) (k:List UInt8) (l:List Int):Plr×List UInt8:=
 if k=Kf then if 4096<p.mem.length+4*l.length then (p,Ly) else ({ p with mem:=p.mem++l.flatMap Bb },Dz okB [((p.mem++l.flatMap Bb).length:Nat)])
 else if k=pcB∧l.length=1 then ({ p with hart:={ p.hart with pc:=l.getD 0 0 } },okB)
 else if k=Sd∧l.length=2∧1≤l.getD 0 0∧l.getD 0 0≤31 then ({ p with hart:={ p.hart with regs:=p.hart.regs.set (l.getD 0 0).toNat (l.getD 1 0) } },okB)
 else if k=M0∧l.length=3 then if may (l.getD 0 0) (l.getD 1 0) (l.getD 2 0)=true then ({ p with window:=l.getD 0 0,phys:=l.getD 1 0,wide:=l.getD 2 0 },okB) else (p,Ly)
 else if k=H5 then ({ p with choices:=l },Dz okB [(l.length:Nat)])
 else if k=Jd∧l.length=1 then (p,M5 (M p (l.getD 0 0)).1 (M p (l.getD 0 0)).2.1 (M p (l.getD 0 0)).2.2)
 else if k=Tm∧l.length=1 then (p,M5 (R p (l.getD 0 0)).1 (R p (l.getD 0 0)).2.1 (R p (l.getD 0 0)).2.2)
 else if k=M7∧l.length=1 then (p,K0 D (l.getD 0 0))
 else (p,Ly)
theorem Pr {p:Plr} {s k:List UInt8} {ws:List (List UInt8)} (h:As 32 s=k::ws) (hn:D2 ws=none):Gf M R D may p s=(p,Ly):=by
 unfold Gf
 rw [h,List.tail_cons,hn]
theorem Ps {p:Plr} {s k:List UInt8} {ws:List (List UInt8)} {l:List Int} (h:As 32 s=k::ws) (hn:D2 ws=some l):Gf M R D may p s=Dm M R D may p k l:=by
 unfold Gf
 rw [h,List.tail_cons,hn]
 rfl
variable {M R D may}
theorem V2 (p:Plr) (l:List Int):Dm M R D may p Kf l=if 4096<p.mem.length+4*l.length then (p,Ly) else ({ p with mem:=p.mem++l.flatMap Bb },Dz okB [((p.mem++l.flatMap Bb).length:Nat)]):=if_pos rfl
theorem Ais (p:Plr) (x:Int):Dm M R D may p pcB [x]=({ p with hart:={ p.hart with pc:=x } },okB):=by unfold Dm;rw [if_neg (by decide),if_pos ⟨rfl,rfl⟩];rfl
theorem Adu (p:Plr) (a b:Int) (h:1≤a∧a≤31):Dm M R D may p Sd [a,b]=({ p with hart:={ p.hart with regs:=p.hart.regs.set a.toNat b } },okB):=by
 unfold Dm;rw [if_neg (by decide),if_neg (fun h=>absurd h.1 (by decide)),if_pos ⟨rfl,rfl,h.1,h.2⟩];rfl
theorem Zj (p:Plr) (a b c:Int):Dm M R D may p M0 [a,b,c]=if may a b c=true then ({ p with window:=a,phys:=b,wide:=c },okB) else (p,Ly):=by
 unfold Dm;rw [if_neg (by decide),if_neg (fun h=>absurd h.1 (by decide)),if_neg (fun h=>absurd h.1 (by decide)),if_pos ⟨rfl,rfl⟩];rfl
theorem Si (p:Plr) (l:List Int):Dm M R D may p H5 l=({ p with choices:=l },Dz okB [(l.length:Nat)]):=by
 unfold Dm;rw [if_neg (by decide),if_neg (fun h=>absurd h.1 (by decide)),if_neg (fun h=>absurd h.1 (by decide)),if_neg (fun h=>absurd h.1 (by decide)),if_pos rfl]
theorem V0 (p:Plr) (x:Int):Dm M R D may p Jd [x]=(p,M5 (M p x).1 (M p x).2.1 (M p x).2.2):=by
 unfold Dm;rw [if_neg (by decide),if_neg (fun h=>absurd h.1 (by decide)),if_neg (fun h=>absurd h.1 (by decide)),if_neg (fun h=>absurd h.1 (by decide)),if_neg (by decide),if_pos ⟨rfl,rfl⟩];rfl
theorem Adt (p:Plr) (x:Int):Dm M R D may p Tm [x]=(p,M5 (R p x).1 (R p x).2.1 (R p x).2.2):=by
 unfold Dm;rw [if_neg (by decide),if_neg (fun h=>absurd h.1 (by decide)),if_neg (fun h=>absurd h.1 (by decide)),if_neg (fun h=>absurd h.1 (by decide)),if_neg (by decide),if_neg (fun h=>absurd h.1 (by decide)),if_pos ⟨rfl,rfl⟩];rfl
theorem Zl (p:Plr) (x:Int):Dm M R D may p M7 [x]=(p,K0 D x):=by
 unfold Dm;rw [if_neg (by decide),if_neg (fun h=>absurd h.1 (by decide)),if_neg (fun h=>absurd h.1 (by decide)),if_neg (fun h=>absurd h.1 (by decide)),if_neg (by decide),if_neg (fun h=>absurd h.1 (by decide)),if_neg (fun h=>absurd h.1 (by decide)),if_pos ⟨rfl,rfl⟩];rfl
def Ag9 (k:List UInt8) (l:List Int):Prop:=
 (k≠Kf∧k≠pcB∧k≠Sd∧k≠M0∧k≠H5∧k≠Jd∧k≠Tm∧k≠M7)∨((k=pcB∨k=Jd∨k=Tm∨k=M7)∧l.length≠1)∨(k=Sd∧l.length≠2)∨(k=M0∧l.length≠3)
theorem Zk (p:Plr) {k:List UInt8} {l:List Int} (h:Ag9 k l):Dm M R D may p k l=(p,Ly):=by
 unfold Dm
 rcases h with⟨h1,h2,h3,h4,h5,h6,h7,h8⟩ | ⟨rfl | rfl | rfl | rfl,hn⟩ | ⟨rfl,hn⟩ | ⟨rfl,hn⟩
 ·simp [h1,h2,h3,h4,h5,h6,h7,h8]
 all_goals simp [hn,Kf,pcB,Sd,M0,H5,Jd,Tm,M7]
theorem V1 (p:Plr) (a b:Int) (h:¬ (1≤a∧a≤31)):Dm M R D may p Sd [a,b]=(p,Ly):=by
 unfold Dm
 have h':1≤a→¬ a≤31:=fun h1 h2=>h ⟨h1,h2⟩
 simp [Kf,pcB,Sd,M0,H5,Jd,Tm,M7]
 omega
theorem U1 (k:List UInt8) (l:List Int):k=Kf∨(k=pcB∧∃ x,l=[x])∨(k=Sd∧∃ a b,l=[a,b])∨(k=M0∧∃ a b c,l=[a,b,c])∨k=H5∨(k=Jd∧∃ x,l=[x])∨(k=Tm∧∃ x,l=[x])∨(k=M7∧∃ x,l=[x])∨Ag9 k l:=by
 have one:l.length=1→∃ x,l=[x]:=List.length_eq_one_iff.1
 have two:l.length=2→∃ a b,l=[a,b]:=fun h=>by
  match l,h with
  |[a,b],_=>exact⟨a,b,rfl⟩
 have three:l.length=3→∃ a b c,l=[a,b,c]:=fun h=>by
  match l,h with
  |[a,b,c],_=>exact⟨a,b,c,rfl⟩
 unfold Ag9
 by_cases h1:k=Kf
 ·exact Or.inl h1
 by_cases h2:k=pcB
 ·by_cases n:l.length=1
  ·exact Or.inr (Or.inl ⟨h2,one n⟩)
  ·simp [h2,n]
 by_cases h3:k=Sd
 ·by_cases n:l.length=2
  ·exact Or.inr (Or.inr (Or.inl ⟨h3,two n⟩))
  ·simp [h3,n]
 by_cases h4:k=M0
 ·by_cases n:l.length=3
  ·exact Or.inr (Or.inr (Or.inr (Or.inl ⟨h4,three n⟩)))
  ·simp [h4,n]
 by_cases h5:k=H5
 ·simp [h5]
 by_cases h6:k=Jd
 ·by_cases n:l.length=1
  ·exact Or.inr (Or.inr (Or.inr (Or.inr (Or.inr (Or.inl ⟨h6,one n⟩)))))
  ·simp [h6,n]
 by_cases h7:k=Tm
 ·by_cases n:l.length=1
  ·exact Or.inr (Or.inr (Or.inr (Or.inr (Or.inr (Or.inr (Or.inl ⟨h7,one n⟩))))))
  ·simp [h7,n]
 by_cases h8:k=M7
 ·by_cases n:l.length=1
  ·exact Or.inr (Or.inr (Or.inr (Or.inr (Or.inr (Or.inr (Or.inr (Or.inl ⟨h8,one n⟩)))))))
  ·simp [h8,n]
 simp [h1,h2,h3,h4,h5,h6,h7,h8]
end
end Go.Proofs.YtapgojgcmlnbgaaGreatDoor
namespace Go.Proofs.YtapgojgcmlnbgaaGreatDoor
open Go Go.RowKit
theorem Ai0 (x:Int) (h0:0≤x) (h1:x≤4294967295):(K0 Et x).length≤1000:=by
 unfold K0 Et
 rcases hd:Ns x with _ | ⟨op,rd,r1,r2,imm⟩
 ·exact Nat.le_of_ble_eq_true rfl
 ·have him:=Uf h0 h1 hd
  obtain⟨⟨o1,o2⟩,⟨d1,d2⟩,⟨a1,a2⟩,b1,b2⟩:=Ho (Yv hd)
  dsimp only at o1 o2 d1 d2 a1 a2 b1 b2 him
  have:=(I9 [op,rd,r1,r2,imm%4294967296] isB (by simp;omega)).2
  have hb:isB.length=2:=rfl
  simp only [List.length_cons,List.length_nil] at this
  show(Dz isB [op,rd,r1,r2,imm%4294967296]).length≤1000
  omega
theorem Adg {M R:Plr→Int→List Com×Aq×Int} (H:Aha M R) {p:Plr} (hp:Fi p) (k:List UInt8) (l:List Int) (hr:∀ x∈l,0≤x∧x≤4294967295) (hl:l.length≤4294967296) :
  Fi (Dm M R Et Fh p k l).1∧(Dm M R Et Fh p k l).2.length≤21002000:=by
 have say1:∀ n:Nat,n≤4294967296→(Dz okB [(n:Int)]).length≤21002000:=fun n hn=>by
  have:=(I9 [(n:Int)] okB (by simp;omega)).2
  have hb:okB.length=2:=rfl
  simp only [List.length_cons,List.length_nil] at this
  omega
 have ask:Ly.length≤21002000:=Nat.le_of_ble_eq_true rfl
 have ok:okB.length≤21002000:=Nat.le_of_ble_eq_true rfl
 rcases U1 k l with rfl | ⟨rfl,x,rfl⟩ | ⟨rfl,a,b,rfl⟩ | ⟨rfl,a,b,c,rfl⟩ | rfl | ⟨rfl,x,rfl⟩ | ⟨rfl,x,rfl⟩ | ⟨rfl,x,rfl⟩ | hk
 ·rw [V2]
  split
  ·exact⟨hp,ask⟩
  ·rename_i h
   have hlen:(p.mem++l.flatMap Bb).length=p.mem.length+4*l.length:=by rw [qO,Iw]
   refine⟨⟨hp.hart,hp.state,hp.cause,hp.may,fun b hb=>?_,by show(p.mem++l.flatMap Bb).length≤4096;omega,hp.cho,hp.many⟩,say1 _ (by omega)⟩
   rcases List.mem_append.1 hb with hb | hb
   ·exact hp.mem b hb
   ·obtain⟨x,_,hx⟩:=List.mem_flatMap.1 hb
    exact Afa b hx
 ·rw [Ais]
  have hx:=hr x (by simp)
  exact⟨⟨⟨hp.hart.len,hp.hart.word,hx.1,hx.2⟩,hp.state,hp.cause,hp.may,hp.mem,hp.room,hp.cho,hp.many⟩,ok⟩
 ·by_cases h:1≤a∧a≤31
  ·rw [Adu p a b h]
   have hb:=hr b (by simp)
   have hm:=hp.may
   have h0:(p.hart.regs.set a.toNat b).getD 0 0=p.hart.regs.getD 0 0:=by
    rw [List.getD_eq_getElem?_getD,List.getElem?_set_ne (by omega),←List.getD_eq_getElem?_getD]
   refine⟨⟨⟨by show(p.hart.regs.set a.toNat b).length=32;rw [List.length_set];exact hp.hart.len,fun x hx=>?_,hp.hart.pc0,hp.hart.pc1⟩,hp.state,hp.cause,?_,hp.mem,hp.room,hp.cho,hp.many⟩,ok⟩
   ·rcases List.mem_or_eq_of_mem_set hx with hx | rfl
    ·exact hp.hart.word x hx
    ·exact hb
   ·unfold Ip Aq.reg at hm ⊢
    rw [show((0:Int)).toNat=0 from rfl] at hm ⊢
    dsimp only at hm ⊢
    rw [h0]
    exact hm
  ·rw [V1 p a b h];exact⟨hp,ask⟩
 ·rw [Zj]
  split
  ·exact⟨⟨hp.hart,hp.state,hp.cause,hp.may,hp.mem,hp.room,hp.cho,hp.many⟩,ok⟩
  ·exact⟨hp,ask⟩
 ·rw [Si]
  exact⟨⟨hp.hart,hp.state,hp.cause,hp.may,hp.mem,hp.room,hr,hl⟩,say1 _ hl⟩
 ·rw [V0];exact⟨hp,Ab1 (H.tellM hp x)⟩
 ·rw [Adt];exact⟨hp,Ab1 (H.tellR hp x)⟩
 ·rw [Zl]
  have hx:=hr x (by simp)
  exact⟨hp,qD (Ai0 x hx.1 hx.2) (by decide)⟩
 ·rw [Zk p hk];exact⟨hp,ask⟩
theorem Aig {M R:Plr→Int→List Com×Aq×Int} (H:Aha M R) {p:Plr} (hp:Fi p) (s:List UInt8) (hs:s.length≤2000000):Fi (Gf M R Et Fh p s).1∧(Gf M R Et Fh p s).2.length≤21002000:=by
 obtain⟨k,ws,h⟩:=N4 32 s
 have hlw:=Hv 32 s
 rw [h] at hlw
 simp only [List.length_cons] at hlw
 rcases hn:D2 ws with _ | l
 ·rw [Pr M R Et Fh h hn]
  exact⟨hp,Nat.le_of_ble_eq_true rfl⟩
 ·rw [Ps M R Et Fh h hn]
  have:=Mo hn
  exact Adg H hp k l (Mp hn) (by omega)
def Ajo (a b c:Int):Bool:=decide (1≤a)&&decide (a≤32)&&decide (33≤b)&&decide (b≤96)&&decide (1≤c)&&decide (c≤4)
def Ha (a b c:Int) (h:Aq) (m k:Nat) (cycles:Int):Int:=
 if Ajo a b c=false∨Ip h=false∨4096<m then 2 else if 3000<k then 1 else if cycles<0∨6000<cycles then 3 else 0
def J7:Array Value:=Cq (.slice none 0 0) Eq (.slice none 0 0) 0 0 0
theorem Z9 {a b c:Int}:(Tryz.prog.info? 26).map (·.size)=some (#[.int .i64 a, .int .i64 b, .int .i64 c]:Array Value).size:=by kernel_rfl
theorem Gk {cs:Array Value} (hz:cs.size=40):(Tryz.prog.info? 49).map (·.size)=some cs.size:=by rw [hz];kernel_rfl
theorem Ta:J7.size=40:=rfl
theorem Adn:J7.all (·.oneCell')=true:=by kernel_rfl
theorem Yn:Tryz.prog.built 49 []=some J7:=by kernel_rfl
theorem Px {w:World} {g:Nat} {cs:Array Value} (hz:cs.size=40) (hB:Blk w g 49 cs):(loadVar 49 ⟨g,0,none⟩).run Tryz.prog w = .ok (.agg cs) w:=by
 rw [Ey w g 0 49 49 cs cs.size _ hB Tryz.underlying49 rfl (Gk hz) (by omega),I2 _ _ rfl]
theorem Pe {P:Program} {ops:Array Oper} {Q:Exit→Act→World→Prop} {a:Act} {w:World} {rest:List Oper} {o:Oper} (hw:Region.wanted o (yielded ops a.tmps)=true)
  (h:∀ K:Act→World→Prop,(∀ a w,wpList P ops Q rest a w→K a w)→o.wp P a w K Q):wpList P ops Q (o::rest) a w:=by
 unfold wpList
 rw [if_pos hw]
 exact Or.inl (h _ fun _ _ h=>h)
theorem Aj4 (a b c:Int) (h:Aq) (A:Option Addr) (cap:Nat) (m:Nat) (A2:Option Addr) (cap2:Nat) (k:Nat) (cycles:Int) (w:World) (hh:h.regs.length=32) (hl:m≤140737488351232) (hl2:k≤4611686018427387904) (s0 : -9223372036854775808≤cycles) (s1:cycles≤9223372036854775807) (hno:Ha a b c h m k cycles≠0) :
  Calls Tryz.prog 13 #[.agg #[.int .i64 a, .int .i64 b, .int .i64 c], .agg h.cells, .slice A m cap, .slice A2 k cap2, .int .i64 cycles] w fun e w'=>e = .returned (.tuple #[.agg J7, .int .i64 (Ha a b c h m k cycles)])∧Below w.heap.size w w':=by
 have CC:=qA (fun W=>Kq a b c W)
 have CM:=qA (fun W=>Qs h W hh)
 obtain⟨X,hx⟩:∃ X,Ha a b c h m k cycles=X:=⟨_,rfl⟩
 rw [hx] at hno ⊢
 unfold Ha Ajo at hx
 generalize (decide (1≤a)&&decide (a≤32)&&decide (33≤b)&&decide (b≤96)&&decide (1≤c)&&decide (c≤4))=mc at *
 rcases mc with _ | _
 focus
  obtain rfl:X=2:=by rw [←hx,if_pos (Or.inl rfl)]
  clear hx hno
 rotate_left 1
 rcases hm:Ip h with _ | _
 focus
  rw [hm] at CM hx
  obtain rfl:X=2:=by rw [←hx,if_pos (Or.inr (Or.inl rfl))]
  clear hx hno hm
 rotate_left 1
 rw [hm] at CM hx
 by_cases hN:4096<m
 focus
  obtain rfl:X=2:=by rw [←hx,if_pos (Or.inr (Or.inr hN))]
  have f1:decide ((4096:Int)<(m:Int))=true:=qF (by omega)
  clear hx hno hm hN
 rotate_left 1
 rw [if_neg (by simp;omega)] at hx
 have f1:decide ((4096:Int)<(m:Int))=false:=qG (by omega)
 by_cases hK:3000<k
 focus
  obtain rfl:X=1:=by rw [←hx,if_pos hK]
  have f2:decide ((3000:Int)<(k:Int))=true:=qF (by omega)
  clear hx hno hm hK
 rotate_left 1
 rw [if_neg hK] at hx
 have f2:decide ((3000:Int)<(k:Int))=false:=qG (by omega)
 by_cases hs:cycles<0
 focus
  obtain rfl:X=3:=by rw [←hx,if_pos (Or.inl hs)]
  have f3:decide (cycles<0)=true:=qF hs
  clear hx hno hm hs hN hK
 rotate_left 1
 by_cases hs2:6000<cycles
 focus
  obtain rfl:X=3:=by rw [←hx,if_pos (Or.inr hs2)]
  have f3:decide (cycles<0)=false:=qG hs
  have f4:decide (6000<cycles)=true:=qF hs2
  clear hx hno hm hs hs2 hN hK
 rotate_left 1
 exact absurd (by rw [←hx,if_neg (by omega)]) hno
 all_goals
  go_enter Tryz.func13,Tryz.ntmps13
  go_upto_region 1 with(fail)
  go_simp
  refine A1 fun wa hq=>?_
  have hC:Blk wa w.heap.size 26 #[.int .i64 a, .int .i64 b, .int .i64 c]:=by rw [hq];exact((Blk.new w _ _).alloc _).alloc _
  have hH:Blk wa (w.heap.size+1) 30 h.cells:=by rw [hq];exact(Blk.newAt (w.alloc _) 30 _ (by simp)).alloc _
  have hR:Blk wa (w.heap.size+2) 49 J7:=by rw [hq];exact Blk.newAt ((w.alloc _).alloc _) 49 _ (by simp)
  have hbl:Below w.heap.size w wa:=by rw [hq];exact(((qB _ _).alloc (qC _) _).alloc (by simp) _).alloc (by simp;omega) _
  clear hq
  go_wp2_with(first
   |(refine Ab rfl 26 _ rfl w.heap.size rfl 26 _ _ hC Tryz.underlying26 rfl Z9 ?_)
   |(go_at_call 10;(with_reducible refine(CC.out _).mono ?_);rintro e w1 ⟨rfl,hb1⟩;replace hbl:=hbl.trans (hb1.mono hbl.size);replace hR:=hR.ext hb1;replace hH:=hH.ext hb1;clear hb1)
   |(refine Pe rfl fun K hK=>?_;refine E3 30 _ rfl (w.heap.size+1) rfl 30 _ _ hH Tryz.underlying30 rfl (Ca hh) ?_;refine hK _ _ ?_)
   |(go_at_call 18;(with_reducible refine(CM.out _).mono ?_);rintro e w2 ⟨rfl,hb2⟩;replace hbl:=hbl.trans (hb2.mono hbl.size);replace hR:=hR.ext hb2;clear hb2)
   |(refine Am rfl 49 _ rfl [] rfl _ Yn ?_)
   |(refine Ae rfl 49 _ _ rfl (w.heap.size+2) J7 rfl rfl 49 _ hR (Gk Ta) rfl Adn ?_;intro w6 hB6 hg6))
  refine bodyPost_ret (Ea rfl rfl rfl (Px Ta hB6)) rfl ?_
  exact⟨rfl,below_grown hbl hg6 hbl.size (by omega)⟩
end Go.Proofs.YtapgojgcmlnbgaaGreatDoor
namespace Go.Proofs.YtapgojgcmlnbgaaGreatDoor
open Go
structure UF (u:Uop):Prop where
 a:0≤u.a∧u.a<96
 b:0≤u.b∧u.b<96
 dest:0≤u.dest∧u.dest<96
 old:0<u.dest→0≤u.old∧u.old<96
 rd:0≤u.ins.rd∧u.ins.rd≤31
 rs1:0≤u.ins.rs1∧u.ins.rs1≤31
 rs2:0≤u.ins.rs2∧u.ins.rs2≤31
 pc:0≤u.pc∧u.pc≤4294967295
 next:0≤u.next∧u.next≤4294967295
 seq:0≤u.seq
 com:u.state=2→u.commit.Wf
theorem Aju {N:Ax} (hg:Do N) {u:Uop} (h:NOk N u) (hd:0<u.dest):0≤u.old∧u.old<96:=by
 have:=h.dst hd
 rw [this.2.2.2]
 exact hg.reg_range (by omega)
theorem Inv.uf {C:Core} (h:Inv C):∀ u∈C.ops,UF u:=by
 intro u hu
 obtain⟨L,R,e⟩:=List.append_of_mem hu
 obtain⟨N,hgN,_,hcN,_⟩:=h.names
 have hO:=h.ops L u R e
 rw [e] at hcN
 obtain⟨K,_,hK,hNk,_⟩:=Ga hcN hgN rfl
 obtain⟨q1,q2,q3⟩:=Kd hcN hgN hO
 have hins:(0≤u.ins.rd∧u.ins.rd≤31)∧(0≤u.ins.rs1∧u.ins.rs1≤31)∧0≤u.ins.rs2∧u.ins.rs2≤31:=by
  by_cases hc:u.cause=0
  ·exact(Ho (Inv.insOk hO hc)).2
  ·have hf:=hO.fetch
   rcases Ky (known L) C.mem u.seq u.pc with⟨h1,_⟩ | ⟨_,h2⟩
   ·rw [←hf] at h1;exact absurd h1 hc
   ·rw [←hf] at h2
    have h2:u.ins=Fz:=h2
    rw [h2]
    decide
 refine⟨q1,q2,q3,Aju hK hNk,hins.1,hins.2.1,hins.2.2,hO.pc,hO.next,hO.seq.1,fun hs=>?_⟩
 by_cases hc:u.cause=0
 ·rw [hO.com hc hs]
  exact Qm h hins.1 hO.pc
 ·rw [(hO.fault hc).2.1]
  have:=hO.cause
  exact Ka hO.pc (by omega)
theorem Qv (op:Int):0≤loadBytes op∧loadBytes op≤4:=by
 unfold loadBytes
 generalize (op - 11).toNat=k
 match k with
 |0=>decide
 |1=>decide
 |2=>decide
 |3=>decide
 |4=>decide
 |k+5=>simp [List.getD]
theorem acc_wf {words:List Int} {u:Uop} (h:UF u) (hs:u.seq≤9223372036854775807):(Bf words u).Wf:=by
 have hz:=h.seq
 unfold Bf
 split
 ·rename_i hk
  have h2:u.state=2:=by unfold A4 at hk;simp at hk;exact hk.1.2
  have hw:=h.com h2
  have hm:=hw.many
  unfold G5
  exact⟨hw.at_.1,hw.at_.2,hw.data.1,hw.data.2,by show -9223372036854775808≤u.seq;omega,hs,by show -9223372036854775808≤u.commit.many;omega,by show u.commit.many≤9223372036854775807;omega⟩
 ·split
  ·have hm:=Qv u.ins.op
   have hb:=Da (V3 words u.a+u.ins.imm)
   exact⟨hb.1,hb.2,Int.le_refl 0,(by show(0:Int)≤4294967295;omega),by show -9223372036854775808≤u.seq;omega,hs,by show -9223372036854775808≤loadBytes u.ins.op;omega,by show loadBytes u.ins.op≤9223372036854775807;omega⟩
  ·exact⟨Int.le_refl 0,(by show(0:Int)≤4294967295;omega),Int.le_refl 0,(by show(0:Int)≤4294967295;omega),by show -9223372036854775808≤u.seq;omega,hs,(by show(-9223372036854775808:Int)≤0;omega),(by show(0:Int)≤9223372036854775807;omega)⟩
theorem Bq.free_len {M:Ax}:∀ {L:List Uop} {N:Ax},Bq N L M→M.free.length≤N.free.length
 |[],_,h=>by cases h;exact qC _
 |u::L,N,h=>by
  have:=Bq.free_len h.2
  have h2:(Dk N u).free.length≤N.free.length:=by
   unfold Dk
   split
   ·simp
   ·exact qC _
  omega
theorem Inv.free_len {C:Core} (h:Inv C):C.names.free.length≤64:=by
 obtain⟨N,hg,hl,hc,_⟩:=h.names
 have h1:=hc.free_len
 have h2:=hg.phys
 have h3:=hg.len
 unfold Ax.all at hl
 rw [qO,h3] at hl
 omega
theorem Uo {α β:Type} (p:α→Bool) (f:α→β) (l:List α):((l.filter p).map f).length≤l.length:=by
 rw [List.length_map]
 exact List.length_filter_le _ _
theorem Inv.lens {C:Core} (h:Inv C):C.ops.length≤32∧C.slots.length≤32∧C.access.length≤32:=by
 have h1:=h.len
 have h2:=h.cfg.1
 refine⟨by omega,by rw [h.slots,List.length_map];omega,?_⟩
 rw [h.access]
 have:=Uo Be (Bf C.words) C.ops
 omega
theorem Inv.acc_wf {C:Core} (h:Inv C) (hs:C.seq≤9223372036854775807):∀ a∈C.access,a.Wf:=by
 intro a ha
 rw [h.access] at ha
 obtain⟨u,hu,rfl⟩:=List.mem_map.1 ha
 have hu:=(List.mem_filter.1 hu).1
 refine Go.Proofs.YtapgojgcmlnbgaaGreatDoor.acc_wf (h.uf u hu) ?_
 obtain⟨L,R,e⟩:=List.append_of_mem hu
 have:=(h.ops L u R e).seq
 omega
theorem Afl {C:Core} (hs:C.slots=C.ops.map B5) (seq:Int):∀ s∈Lj C.slots seq,∃ k:Nat,I6 C.ops s=(k:Int)∧k<C.ops.length:=by
 intro s hm
 unfold Lj at hm
 rw [List.mem_reverse,List.mem_map] at hm
 obtain⟨x,hx,rfl⟩:=hm
 have hx:=(List.mem_filter.1 hx).1
 rw [hs] at hx
 obtain⟨u,hu,rfl⟩:=List.mem_map.1 hx
 rcases E5 (fun v:Uop=>decide (v.seq=u.seq)) C.ops 0 with⟨h1,h2⟩ | ⟨i,x,h1,h2,_⟩
 ·have:=h2 u hu
  simp at this
 ·exact⟨i,by
   show Cy (fun v:Uop=>decide (v.seq=u.seq)) C.ops ((0:Nat):Int)=_
   rw [h1,Nat.zero_add],(qJ.1 h2).1⟩
theorem Ahm {ops:List Uop} {s:Int} (h:∃ u∈ops,u.seq=s):∃ k:Nat,I6 ops s=(k:Int)∧k<ops.length:=by
 obtain⟨u,hu,rfl⟩:=h
 rcases E5 (fun v:Uop=>decide (v.seq=u.seq)) ops 0 with⟨h1,h2⟩ | ⟨i,x,h1,h2,_⟩
 ·have:=h2 u hu
  simp at this
 ·exact⟨i,by
   show Cy (fun v:Uop=>decide (v.seq=u.seq)) ops ((0:Nat):Int)=_
   rw [h1,Nat.zero_add],(qJ.1 h2).1⟩
theorem Og {l:List Acc} {s:Int} (h:∃ a∈l,a.seq=s):∃ k:Nat,Jh l s=(k:Int)∧k<l.length:=by
 obtain⟨u,hu,rfl⟩:=h
 rcases E5 (fun v:Acc=>decide (v.seq=u.seq)) l 0 with⟨h1,h2⟩ | ⟨i,x,h1,h2,_⟩
 ·have:=h2 u hu
  simp at this
 ·exact⟨i,by
   show Cy (fun v:Acc=>decide (v.seq=u.seq)) l ((0:Nat):Int)=_
   rw [h1,Nat.zero_add],(qJ.1 h2).1⟩
theorem Tf (l:List Acc) (seq:Int):∀ (r:List Acc),(If l seq r).2=true→∃ a∈l,a.seq=(If l seq r).1
 |[],h=>by cases h
 |s::r,h=>by
  unfold If at h ⊢
  split at h
  ·rename_i hs
   rw [if_pos hs]
   rw [Ag6] at h ⊢
   rcases(Nx (Td s) (·.seq) l (0,false)).1 h with⟨h1,_⟩ | ⟨a,ha,_,h2⟩
   ·cases h1
   ·exact⟨a,ha,h2.symm⟩
  ·rename_i hs
   rw [if_neg hs]
   exact Tf l seq r h
theorem Aat {ops:List Uop} {acc:List Acc} (hacc:∀ a∈acc,∃ u∈ops,u.seq=a.seq) (seq at_ many:Int) (h:(ops.foldl (Dj seq at_ many) (Ix acc seq)).2=true) :
  ∃ k:Nat,I6 ops (ops.foldl (Dj seq at_ many) (Ix acc seq)).1=(k:Int)∧k<ops.length:=by
 rw [Xj] at h ⊢
 refine Ahm ?_
 rcases(Nx (Ab5 seq at_ many) (·.seq) ops (Ix acc seq)).1 h with⟨h1,h2⟩ | ⟨u,hu,_,h2⟩
 ·obtain⟨a,ha,e⟩:=Tf acc seq acc h1
  obtain⟨u,hu,e2⟩:=hacc a ha
  exact⟨u,hu,by rw [h2,e2,e];rfl⟩
 ·exact⟨u,hu,h2.symm⟩
theorem Ad9 {ops:List Uop} {g:Uop→Acc} (hg:∀ v,(g v).seq=v.seq):∀ a∈(ops.filter Be).map g,∃ u∈ops,u.seq=a.seq:=by
 intro a ha
 obtain⟨u,hu,rfl⟩:=List.mem_map.1 ha
 exact⟨u,(List.mem_filter.1 hu).1,(hg u).symm⟩
theorem Tt {ops:List Uop} {g:Uop→Acc} (hg:∀ v,(g v).seq=v.seq) {u:Uop} (hu:u∈ops) (hm:Be u=true):∃ a∈(ops.filter Be).map g,a.seq=u.seq:=
 ⟨g u,List.mem_map.2 ⟨u,List.mem_filter.2 ⟨hu,hm⟩,rfl⟩,hg u⟩
structure Bd (C:Core) (N:Int):Prop where
 seq:0≤C.seq∧C.seq≤N
 taken:0≤C.taken∧C.taken≤N
 backs:0≤C.backs∧C.backs≤N
 coms:(C.commits.length:Int)≤N
 cycles:0≤C.cycles∧C.cycles≤N
theorem Bd.mono {C:Core} {N M:Int} (h:Bd C N) (hm:N≤M):Bd C M:=
 ⟨⟨h.seq.1,by have:=h.seq.2;omega⟩,⟨h.taken.1,by have:=h.taken.2;omega⟩,⟨h.backs.1,by have:=h.backs.2;omega⟩,by have:=h.coms;omega,⟨h.cycles.1,by have:=h.cycles.2;omega⟩⟩
structure Cn (C C':Core):Prop where
 seq:C'.seq=C.seq
 taken:C'.taken=C.taken
 backs:C'.backs=C.backs
 coms:C'.commits=C.commits
 cycles:C'.cycles=C.cycles
theorem Bd.same {C C':Core} {N:Int} (h:Bd C N) (k:Cn C C'):Bd C' N:=
 ⟨by rw [k.seq];exact h.seq,by rw [k.taken];exact h.taken,by rw [k.backs];exact h.backs,by rw [k.coms];exact h.coms,by rw [k.cycles];exact h.cycles⟩
theorem Bd.back {C:Core} {N:Int} (h:Bd C N) (s pc:Int):Bd (F5 C s pc) (N+1):=
 ⟨⟨h.seq.1,by have:=h.seq.2;show C.seq≤N+1;omega⟩,⟨h.taken.1,by have:=h.taken.2;show C.taken≤N+1;omega⟩,by have:=h.backs;show 0≤C.backs+1∧C.backs+1≤N+1;omega,by have:=h.coms;show(C.commits.length:Int)≤N+1;omega,⟨h.cycles.1,by have:=h.cycles.2;show C.cycles≤N+1;omega⟩⟩
theorem Bd.stored {C:Core} {N:Int} (h:Bd C N) (k:Nat):Bd (E8 C k) (N+1):=by
 unfold E8
 dsimp only
 split
 ·refine Bd.back ?_ _ _
  exact h.same ⟨rfl,rfl,rfl,rfl,rfl⟩
 ·refine Bd.mono (N:=N) ?_ (by omega)
  exact h.same ⟨rfl,rfl,rfl,rfl,rfl⟩
theorem X9 (C:Core) (d x:Int):Cn C (Di C d x):=by
 unfold Di
 split<;>exact⟨rfl,rfl,rfl,rfl,rfl⟩
theorem Cn.trans {A B C:Core} (h:Cn A B) (k:Cn B C):Cn A C:=
 ⟨k.seq.trans h.seq,k.taken.trans h.taken,k.backs.trans h.backs,k.coms.trans h.coms,k.cycles.trans h.cycles⟩
theorem Bd.complete {C:Core} {N:Int} (h:Bd C N) (k:Nat):Bd (B6 C k) (N+2):=by
 unfold B6
 dsimp only
 generalize (if Bp (C.op k).ins=true then M3 C (C.op k) else (Cl (C.op k).ins (Ed C (C.op k)) C.mem,C.access))=l
 have h1:Cn C { C with access:=l.2 }:=⟨rfl,rfl,rfl,rfl,rfl⟩
 have h2:=h1.trans (X9 { C with access:=l.2 } (C.op k).dest l.1.value)
 generalize Di { C with access:=l.2 } (C.op k).dest l.1.value=c1 at *
 have h3:Cn C (Ep { c1 with ops:=C.ops.set k { C.op k with commit:=l.1 } } k):=h2.trans ⟨rfl,rfl,rfl,rfl,rfl⟩
 generalize Ep { c1 with ops:=C.ops.set k { C.op k with commit:=l.1 } } k=c2 at *
 have hb:=h.same h3
 split
 ·refine Bd.mono (N:=N+1) ?_ (by omega)
  have:=hb.back ((C.op k).seq+1) (C.op k).pc
  exact this.same ⟨rfl,rfl,rfl,rfl,rfl⟩
 ·have hc:Bd (if (((C.op k).guessed&&decide (C.word (C.op k).dest≠l.1.value)) || decide (l.1.next≠(C.op k).next))=true then F5 { c2 with ops:=c2.ops.set k { c2.op k with next:=l.1.next } } ((C.op k).seq+1) l.1.next else c2) (N+1):=by
   split
   ·refine Bd.back ?_ _ _
    exact hb.same ⟨rfl,rfl,rfl,rfl,rfl⟩
   ·exact hb.mono (by omega)
  generalize (if (((C.op k).guessed&&decide (C.word (C.op k).dest≠l.1.value)) || decide (l.1.next≠(C.op k).next))=true then F5 { c2 with ops:=c2.ops.set k { c2.op k with next:=l.1.next } } ((C.op k).seq+1) l.1.next else c2)=c3 at *
  split
  ·exact(hc.stored k).mono (by omega)
  ·exact hc.mono (by omega)
theorem Z2 (C:Core) (k:Nat) (now head:Int):Cn C (Cb C k now head).2:=by
 unfold Cb
 dsimp only
 split
 ·exact⟨rfl,rfl,rfl,rfl,rfl⟩
 split
 ·exact⟨rfl,rfl,rfl,rfl,rfl⟩
 split
 ·split
  ·have:=X9 { C with script:=C.script.tail } (C.op k).dest (u32 ((Ld (P1 C.table (C.op k).pc) (C.op k).pc).1+Hj C.script / 64))
   exact⟨this.seq,this.taken,this.backs,this.coms,this.cycles⟩
  ·exact⟨rfl,rfl,rfl,rfl,rfl⟩
 ·exact⟨rfl,rfl,rfl,rfl,rfl⟩
theorem Bd.fetch {C:Core} {N:Int} (h:Bd C N):Bd (Bv C).2 (N+1):=by
 have key:∀ C':Core,C'.seq=C.seq+1→C'.taken=C.taken+1→C'.backs=C.backs→C'.commits=C.commits→C'.cycles=C.cycles→Bd C' (N+1):=fun C' e1 e2 e3 e4 e5=>by
  have h1:=h.seq
  have h2:=h.taken
  have h3:=h.backs
  have h4:=h.coms
  have h5:=h.cycles
  exact⟨by rw [e1];omega,by rw [e2];omega,by rw [e3];omega,by rw [e4];omega,by rw [e5];omega⟩
 unfold Bv
 split
 ·exact h.mono (by omega)
 split
 ·exact h.mono (by omega)
 ·dsimp only
  split
  ·exact key _ rfl rfl rfl rfl rfl
  ·exact key _ rfl rfl rfl rfl rfl
theorem Ah0 (C:Core) (u:Uop):Cn C (K7 C u):=by
 unfold K7
 split
 ·exact⟨rfl,rfl,rfl,rfl,rfl⟩
 split<;>exact⟨rfl,rfl,rfl,rfl,rfl⟩
theorem Bd.gone {C:Core} {N:Int} (h:Bd C N):Bd (Bn C) (N+1):=by
 unfold Bn
 dsimp only
 have h1:=h.seq
 have h2:=h.taken
 have h3:=h.backs
 have h4:=h.coms
 have h5:=h.cycles
 generalize hc:({ C with ops:=C.ops.tail,hart:=Cw (C.op 0).commit C.hart,mem:=C4 (C.op 0).commit C.mem,commits:=C.commits++[(C.op 0).commit],names:=if 0<(C.op 0).dest then (Lk C.names (C.op 0).old).getD Ax.zero else C.names }:Core)=c1
 have hb:Bd c1 (N+1):=by
  rw [←hc]
  exact⟨by show 0≤C.seq∧C.seq≤N+1;omega,by show 0≤C.taken∧C.taken≤N+1;omega,by show 0≤C.backs∧C.backs≤N+1;omega,by show(((C.commits++[(C.op 0).commit]).length:Nat):Int)≤N+1;rw [qO];simp;omega,by show 0≤C.cycles∧C.cycles≤N+1;omega⟩
 have hl:=hb.same (Ah0 c1 (C.op 0))
 exact hl.same ⟨rfl,rfl,rfl,rfl,rfl⟩
theorem Bd.goneP:∀ (n:Nat) {C:Core} {N:Int},Bd C N→Bd (goneP n C) (N+n)
 |0,_,_,h=>h.mono (by omega)
 |n+1,C,N,h=>by
  unfold Go.Proofs.YtapgojgcmlnbgaaGreatDoor.goneP
  split
  ·exact h.gone.mono (by omega)
  ·exact(Bd.goneP n h.gone).mono (by omega)
theorem Bd.commit {C:Core} {N:Int} (h:Bd C N) (hw:0≤C.wide∧C.wide≤4):Bd (Bw C) (N+4):=by
 unfold Bw
 have:=On C.slots C.wide hw.1
 have h2:Bd { C with slots:=C.slots.drop (Dy C.slots C.wide) } N:=h.same ⟨rfl,rfl,rfl,rfl,rfl⟩
 exact(Bd.goneP (Dy C.slots C.wide) h2).mono (by omega)
theorem Bd.finishAll (now:Int):∀ (n k:Nat) {C:Core} {N:Int},Bd C N→Bd (finishAll n k now C) (N+2*n)
 |0,_,_,_,h=>h.mono (by omega)
 |n+1,k,C,N,h=>by
  unfold Go.Proofs.YtapgojgcmlnbgaaGreatDoor.finishAll
  split
  ·refine(Bd.finishAll now n (k+1) (N:=N+2) ?_).mono (by omega)
   split
   ·exact h.complete k
   ·exact h.mono (by omega)
  ·exact h.mono (by omega)
theorem Bd.beginAll (now:Int):∀ (n k:Nat) (s:Int) {C:Core} {N:Int},Bd C N→Bd (beginAll n k s now C) N
 |0,_,_,_,_,h=>h
 |n+1,k,s,C,N,h=>by
  unfold Go.Proofs.YtapgojgcmlnbgaaGreatDoor.beginAll
  split
  ·exact Bd.beginAll now n (k+1) _ (h.same (Z2 _ _ _ _))
  ·exact h
theorem Bd.fetchAll:∀ (n:Nat) {C:Core} {N:Int},Bd C N→Bd (fetchAll n C) (N+n)
 |0,_,_,h=>h.mono (by omega)
 |n+1,C,N,h=>by
  unfold Go.Proofs.YtapgojgcmlnbgaaGreatDoor.fetchAll
  split
  ·exact(Bd.fetchAll n h.fetch).mono (by omega)
  ·exact h.fetch.mono (by omega)
structure Rl (C:Core):Prop where
 slots:C.slots=C.ops.map B5
 lens:C.ops.length≤32∧C.slots.length≤32∧C.access.length≤32
 free:C.names.free.length≤64
 uf:∀ u∈C.ops,UF u
 acc:∀ a∈C.access,∃ u∈C.ops,u.seq=a.seq
 wf:C.seq≤9223372036854775807→∀ a∈C.access,a.Wf
theorem Rl.found {C:Core} (h:Rl C) (seq:Int):∀ s∈Lj C.slots seq,∃ k:Nat,I6 C.ops s=(k:Int)∧k<C.ops.length:=Afl h.slots seq
theorem Rl.undo {C:Core} (h:Rl C):∀ u∈C.ops,(0≤u.ins.rd∧u.ins.rd≤31)∧(0<u.dest→0≤u.old∧u.old<96):=fun u hu=>⟨(h.uf u hu).rd,(h.uf u hu).old⟩
theorem Inv.fine {C:Core} (h:Inv C):Rl C:=
 ⟨h.slots,h.lens,h.free_len,h.uf,by rw [h.access];exact Ad9 (Ew _),h.acc_wf⟩
theorem Ajd (C:Core) {u:Uop} (l:Com) (hf:UF u) (hs:u.seq≤9223372036854775807):(Cf C u l).Wf:=by
 have hz:=hf.seq
 unfold Cf
 split
 ·have hm:=Qv u.ins.op
  have hb:=Da (C.word u.a+u.ins.imm)
  exact⟨hb.1,hb.2,Int.le_refl 0,(by show(0:Int)≤4294967295;omega),by show -9223372036854775808≤u.seq;omega,hs,by show -9223372036854775808≤loadBytes u.ins.op;omega,by show loadBytes u.ins.op≤9223372036854775807;omega⟩
 ·exact⟨Int.le_refl 0,(by show(0:Int)≤4294967295;omega),Int.le_refl 0,(by show(0:Int)≤4294967295;omega),by show -9223372036854775808≤u.seq;omega,hs,(by show(-9223372036854775808:Int)≤0;omega),(by show(0:Int)≤9223372036854775807;omega)⟩
theorem Mc {C:Core} (h:Inv C) {L R:List Uop} {u:Uop} (ho:C.ops=L++u::R) {l:Com} {u':Uop} (hu:UF u') (hs:u'.seq=u.seq):Rl (B9 C L R u l u' (Cf C u l)):=by
 have hl:(L++u'::R).length=C.ops.length:=by rw [ho];simp
 have h1:=h.lens
 have huf:=h.uf
 have huo:UF u:=huf u (by rw [ho];simp)
 have hsu:u.seq<C.seq:=(h.ops L u R ho).seq.2
 have hv:∀ v∈L++u'::R,UF v∧v.seq<C.seq:=fun v hv=>by
  rcases List.mem_append.1 hv with hv | hv
  ·obtain⟨X,Y,e⟩:=List.append_of_mem hv
   exact⟨huf v (by rw [ho];simp [hv]),(h.ops X v (Y++u::R) (by rw [ho,e];simp)).seq.2⟩
  ·rcases List.mem_cons.1 hv with rfl | hv
   ·exact⟨hu,by rw [hs];exact hsu⟩
   ·obtain⟨X,Y,e⟩:=List.append_of_mem hv
    exact⟨huf v (by rw [ho];simp [hv]),(h.ops (L++u::X) v Y (by rw [ho,e];simp)).seq.2⟩
 refine⟨rfl,⟨by show(L++u'::R).length≤32;omega,by show((L++u'::R).map B5).length≤32;rw [List.length_map];omega,?_⟩,h.free_len,fun v hv'=>(hv v hv').1,Ad9 (Ut C u _),fun hq a ha=>?_⟩
 ·have:=Uo Be (gD C u (Cf C u l)) (L++u'::R)
  show(((L++u'::R).filter Be).map (gD C u (Cf C u l))).length≤32
  omega
 ·obtain⟨v,hv',rfl⟩:=List.mem_map.1 ha
  obtain⟨q1,q2⟩:=hv v (List.mem_filter.1 hv').1
  have q3:v.seq≤9223372036854775807:=by
   have:C.seq≤9223372036854775807:=hq
   omega
  unfold gD
  split
  ·have hw:=Ajd C l huo (by have:C.seq≤9223372036854775807:=hq;omega)
   exact⟨hw.at0,hw.at1,hw.data0,hw.data1,by show -9223372036854775808≤v.seq;have:=q1.seq;omega,q3,hw.many0,hw.many1⟩
  ·exact acc_wf q1 q3
theorem Akg {C:Core} (h:Inv C) {L R:List Uop} {u:Uop} (ho:C.ops=L++u::R):UF (uD u (Ac C L u)):=by
 have hf:=h.uf u (by rw [ho];simp)
 exact⟨hf.a,hf.b,hf.dest,hf.old,hf.rd,hf.rs1,hf.rs2,hf.pc,hf.next,hf.seq,fun _=>Qm h hf.rd hf.pc⟩
theorem UF.next' {u:Uop} (h:UF u) {n:Int} (hn:0≤n∧n≤4294967295):UF { u with next:=n }:=⟨h.a,h.b,h.dest,h.old,h.rd,h.rs1,h.rs2,h.pc,hn,h.seq,h.com⟩
theorem Rl.setacc {C:Core} (h:Rl C) {j:Nat} {a0:Acc} (hj:C.access[j]? = some a0) {c:Com} (hc:c.Wf):Rl { C with access:=C.access.set j { a0 with known:=true,at_:=c.at_,many:=c.many,data:=c.data } }:=by
 have hm0:=List.mem_of_getElem? hj
 refine⟨h.slots,⟨h.lens.1,h.lens.2.1,by show(C.access.set j _).length≤32;rw [List.length_set];exact h.lens.2.2⟩,h.free,h.uf,fun a ha=>?_,fun hq a ha=>?_⟩
 ·rcases List.mem_or_eq_of_mem_set ha with ha | rfl
  ·exact h.acc a ha
  ·exact h.acc a0 hm0
 ·rcases List.mem_or_eq_of_mem_set ha with ha | rfl
  ·exact h.wf hq a ha
  ·have h0:=h.wf hq a0 hm0
   have hm:=hc.many
   exact⟨hc.at_.1,hc.at_.2,hc.data.1,hc.data.2,h0.seq0,h0.seq1,by show -9223372036854775808≤c.many;omega,by show c.many≤9223372036854775807;omega⟩
theorem Qp {C:Core} (h:Inv C) {L R:List Uop} {u:Uop} (ho:C.ops=L++u::R) (h1:u.state=1) {l:Com×List Acc} (hl:l=if Bp u.ins=true then M3 C u else (Cl u.ins (Ed C u) C.mem,C.access)) :
  l.1=Ac C L u∧Ep (Di { C with access:=l.2,ops:=C.ops.set L.length { u with commit:=l.1 } } u.dest l.1.value) L.length=B9 C L R u (Ac C L u) (uD u (Ac C L u)) (Cf C u (Ac C L u)):=by
 have hlc:=Aa6 h ho h1
 rw [←hl] at hlc
 subst hlc
 clear hl
 refine⟨rfl,?_⟩
 have hsq:=h.seqs
 rw [ho] at hsq
 unfold Ep
 rw [Ya]
 have e1:C.ops.set L.length { u with commit:=Ac C L u }=L++{ u with commit:=Ac C L u }::R:=by rw [ho];exact Gj
 simp only [e1]
 have e2:Core.op { C with access:=((L++uD u (Ac C L u)::R).filter Be).map (gD C u (Cf C u (Ac C L u))),words:=if 0<u.dest then C.words.set u.dest.toNat (Ac C L u).value else C.words,there:=if 0<u.dest then C.there.set u.dest.toNat true else C.there,ops:=L++{ u with commit:=Ac C L u }::R } L.length={ u with commit:=Ac C L u }:=Core.op_at rfl
 rw [e2,Gj]
 have e3:(Ii C.slots u.seq).getD []=(L++uD u (Ac C L u)::R).map B5:=by
  rw [h.slots,ho,Vv hsq h1 (u':=uD u (Ac C L u)) rfl rfl]
  rfl
 simp only [e3]
 rfl
theorem Adp {C:Core} (h:Inv C) {L R:List Uop} {u:Uop} (ho:C.ops=L++u::R) (h1:u.state=1) (hs:A0 u.ins=true) (h0:(Ac C L u).state=0):(Ac C L u).next=u.next:=by
 have hO:=h.ops L u R ho
 have hc:u.cause=0:=by
  rcases Decidable.em (u.cause=0) with hc | hc
  ·exact hc
  ·have:=(hO.fault hc).1;omega
 rw [hO.nextS hc (by rw [hs];rfl)]
 exact Xf (by rw [hs];rfl) h0
theorem Uw {C:Core} (h:Inv C) {L R:List Uop} {u:Uop} (ho:C.ops=L++u::R) (hl:Bp u.ins=false):u.guessed=false:=by
 rcases hg:u.guessed with _ | _
 ·rfl
 ·have:=((h.ops L u R ho).gs hg).2.2
  rw [hl] at this
  cases this
theorem Uc (C:Core) (L R:List Uop) (u:Uop) (c:Com) (n:Int) :
  ({ B9 C L R u c (uD u c) (Cf C u c) with ops:=(B9 C L R u c (uD u c) (Cf C u c)).ops.set L.length { uD u c with next:=n } }:Core)=B9 C L R u c { uD u c with next:=n } (Cf C u c):=by
 have hset:(B9 C L R u c (uD u c) (Cf C u c)).ops.set L.length { uD u c with next:=n }=L++{ uD u c with next:=n }::R:=Gj
 rw [hset]
 unfold B9
 have e1:(L++{ uD u c with next:=n }::R).map B5=(L++uD u c::R).map B5:=by simp [B5]
 have e2:((L++{ uD u c with next:=n }::R).filter Be).map (gD C u (Cf C u c))=((L++uD u c::R).filter Be).map (gD C u (Cf C u c)):=by
  rw [List.filter_append,List.filter_append,List.filter_cons,List.filter_cons]
  have:Be { uD u c with next:=n }=Be (uD u c):=rfl
  rw [this]
  split
  ·simp [gD,uD]
  ·rfl
 rw [e1,e2]
structure Ak7 (X D D':Core) (k:Nat) (c:Com) (u:Uop) (wd:Int):Prop where
 trap:c.state≠0→X={ F5 D (u.seq+1) u.pc with still:=true }
 miss:c.state=0→A0 u.ins=false→((u.guessed&&decide (wd≠c.value)) || decide (c.next≠u.next))=true→X=F5 D' (u.seq+1) c.next
 hit:c.state=0→A0 u.ins=false→((u.guessed&&decide (wd≠c.value)) || decide (c.next≠u.next))=false→X=D
 store:c.state=0→A0 u.ins=true→c.next=u.next∧X=E8 D k
theorem Ake {C:Core} (h:Inv C) {L R:List Uop} {u:Uop} (ho:C.ops=L++u::R) (h1:u.state=1) :
  Ak7 (B6 C L.length) (B9 C L R u (Ac C L u) (uD u (Ac C L u)) (Cf C u (Ac C L u))) (B9 C L R u (Ac C L u) { uD u (Ac C L u) with next:=(Ac C L u).next } (Cf C u (Ac C L u))) L.length (Ac C L u) u (C.word u.dest):=by
 have he:=Nm h ho h1
 have hm:O7 C L u=((u.guessed&&decide (C.word u.dest≠(Ac C L u).value)) || decide ((Ac C L u).next≠u.next)):=rfl
 dsimp only at he
 refine⟨fun hs=>?_,fun hs hst hmi=>?_,fun hs hst hmi=>?_,fun hs hst=>?_⟩
 ·rw [he,if_pos hs]
 ·rw [he,if_neg (by rw [hs];simp),if_neg (by rw [hst];decide),hm,if_pos hmi]
 ·rw [he,if_neg (by rw [hs];simp),if_neg (by rw [hst];decide),hm,if_neg (by rw [hmi];decide)]
 ·have hn:=Adp h ho h1 hst hs
  have hl:Bp u.ins=false:=by
   rcases e:Bp u.ins with _ | _
   ·rfl
   ·have:=D5.1 e
    have:=Ff.1 hst
    omega
  have hg:=Uw h ho hl
  refine⟨hn,?_⟩
  rw [he,if_neg (by rw [hs];simp),if_pos hst,hm,hg,hn]
  simp
theorem Rr (c:Core) (s pc:Int):(F5 c s pc).ops.length≤c.ops.length:=List.length_filter_le _ _
theorem Aby (c:Core) (k:Nat):(E8 c k).ops.length≤c.ops.length:=by
 unfold E8
 dsimp only
 split
 ·exact Rr _ _ _
 ·exact qC _
theorem Wa (c:Core) (k:Nat):(B6 c k).ops.length≤c.ops.length:=by
 unfold B6
 dsimp only
 generalize (if Bp (c.op k).ins=true then M3 c (c.op k) else (Cl (c.op k).ins (Ed c (c.op k)) c.mem,c.access))=l
 generalize Di { c with access:=l.2 } (c.op k).dest l.1.value=c1
 have h1:(Ep { c1 with ops:=c.ops.set k { c.op k with commit:=l.1 } } k).ops.length=c.ops.length:=by
  unfold Ep
  simp
 generalize Ep { c1 with ops:=c.ops.set k { c.op k with commit:=l.1 } } k=c2 at *
 split
 ·exact qD (Rr c2 ((c.op k).seq+1) (c.op k).pc) (Nat.le_of_eq h1)
 ·have h2:(if (((c.op k).guessed&&decide (c.word (c.op k).dest≠l.1.value)) || decide (l.1.next≠(c.op k).next))=true then F5 { c2 with ops:=c2.ops.set k { c2.op k with next:=l.1.next } } ((c.op k).seq+1) l.1.next else c2).ops.length≤c.ops.length:=by
   split
   ·refine qD (Rr _ _ _) ?_
    show(c2.ops.set k _).length≤_
    rw [List.length_set]
    exact Nat.le_of_eq h1
   ·exact Nat.le_of_eq h1
  generalize (if (((c.op k).guessed&&decide (c.word (c.op k).dest≠l.1.value)) || decide (l.1.next≠(c.op k).next))=true then F5 { c2 with ops:=c2.ops.set k { c2.op k with next:=l.1.next } } ((c.op k).seq+1) l.1.next else c2)=c3 at *
  split
  ·exact qD (Aby _ _) h2
  ·exact h2
theorem Acb (c:Core) (k:Nat) (now hd:Int):(Cb c k now hd).2.ops.length=c.ops.length:=by
 unfold Cb
 dsimp only
 split
 ·rfl
 split
 ·simp
 split
 ·split
  ·simp
  ·simp
 ·simp
def Sub (C C':Core):Prop:=∀ x∈C'.script,x∈C.script
theorem Sub.refl (C:Core):Sub C C:=fun _ h=>h
theorem Sub.trans {A B C:Core} (h:Sub A B) (k:Sub B C):Sub A C:=fun x hx=>h x (k x hx)
theorem Sub.of_eq {C C':Core} (h:C'.script=C.script):Sub C C':=fun x hx=>by rw [←h];exact hx
theorem Re {l:List Int} {x:Int} (h:x∈l.tail):x∈l:=List.mem_of_mem_tail h
theorem Vy (c:Core) (k:Nat):(E8 c k).script=c.script:=by
 unfold E8
 dsimp only
 split<;>rfl
theorem O8 (c:Core) (d x:Int):(Di c d x).script=c.script:=by
 unfold Di
 split<;>rfl
theorem Li (c:Core) (k:Nat):(B6 c k).script=c.script:=by
 unfold B6
 dsimp only
 generalize (if Bp (c.op k).ins=true then M3 c (c.op k) else (Cl (c.op k).ins (Ed c (c.op k)) c.mem,c.access))=l
 have h0:(Di { c with access:=l.2 } (c.op k).dest l.1.value).script=c.script:=O8 _ _ _
 generalize Di { c with access:=l.2 } (c.op k).dest l.1.value=c1 at *
 have h1:(Ep { c1 with ops:=c.ops.set k { c.op k with commit:=l.1 } } k).script=c.script:=h0
 generalize Ep { c1 with ops:=c.ops.set k { c.op k with commit:=l.1 } } k=c2 at *
 split
 ·exact h1
 ·have h2:(if (((c.op k).guessed&&decide (c.word (c.op k).dest≠l.1.value)) || decide (l.1.next≠(c.op k).next))=true then F5 { c2 with ops:=c2.ops.set k { c2.op k with next:=l.1.next } } ((c.op k).seq+1) l.1.next else c2).script=c.script:=by
   split
   ·exact h1
   ·exact h1
  generalize (if (((c.op k).guessed&&decide (c.word (c.op k).dest≠l.1.value)) || decide (l.1.next≠(c.op k).next))=true then F5 { c2 with ops:=c2.ops.set k { c2.op k with next:=l.1.next } } ((c.op k).seq+1) l.1.next else c2)=c3 at *
  split
  ·exact(Vy _ _).trans h2
  ·exact h2
theorem T5 (c:Core) (k:Nat) (now hd:Int):Sub c (Cb c k now hd).2:=by
 unfold Cb
 dsimp only
 split
 ·exact Sub.refl c
 split
 ·exact Sub.of_eq rfl
 split
 ·split
  ·intro x hx
   have hx:x∈(Di { c with script:=c.script.tail } (c.op k).dest (u32 ((Ld (P1 c.table (c.op k).pc) (c.op k).pc).1+Hj c.script / 64))).script:=hx
   rw [O8] at hx
   exact Re hx
  ·exact fun x hx=>Re hx
 ·exact Sub.of_eq rfl
theorem Aau (c:Core) (i:Ins) (pc:Int):∀ x∈(Dd c i pc).2,x∈c.script:=by
 unfold Dd
 dsimp only
 split
 ·exact fun x hx=>hx
 split
 ·exact fun x hx=>Re hx
 split
 ·exact fun x hx=>Re hx
 ·exact fun x hx=>hx
theorem Pm (c:Core):Sub c (Bv c).2:=by
 unfold Bv
 split
 ·exact Sub.refl c
 split
 ·exact Sub.refl c
 ·dsimp only
  split
  ·exact Sub.of_eq rfl
  ·exact fun x hx=>Aau c _ _ x hx
theorem Wo (c:Core) (u:Uop):(K7 c u).script=c.script:=by
 unfold K7
 split
 ·rfl
 split<;>rfl
theorem Nu (c:Core):(Bn c).script=c.script:=by
 unfold Bn
 dsimp only
 exact Wo _ _
theorem Qq:∀ (n:Nat) (c:Core),(goneP n c).script=c.script
 |0,_=>rfl
 |n+1,c=>by
  unfold goneP
  split
  ·exact Nu c
  ·exact(Qq n _).trans (Nu c)
theorem Nl (c:Core):(Bw c).script=c.script:=Qq _ _
theorem Zi {l:List Uop} {k:Nat} (hk:k<l.length):l=l.take k++l[k]::l.drop (k+1)∧(l.take k).length=k:=by
 refine⟨?_,by simp;omega⟩
 rw [←qM hk,List.take_append_drop]
theorem Am3 {c:Core} {k:Nat} (hk:k<c.ops.length):c.op k=c.ops[k]:=by
 unfold Core.op
 simp [List.getD,qI hk]
structure Lp1 (X Y:Core) (k r:Nat) (now N:Int) (S:List Int):Prop where
 good:Good X
 goes:finishAll r k now X=Y
 fuel:X.ops.length≤k+r
 bd:Bd X (N+2*k)
 sub:∀ x∈X.script,x∈S
theorem Lp1.stop {X Y:Core} {k r:Nat} {now N:Int} {S:List Int} (h:Lp1 X Y k r now N S) (hk:X.ops.length≤k):Y=X:=by
 rw [←h.goes]
 cases r with
 |zero=>rfl
 |succ r=>
  unfold finishAll
  rw [if_neg (by omega)]
theorem Lp1.skip {X Y:Core} {k r:Nat} {now N:Int} {S:List Int} (h:Lp1 X Y k r now N S) (hk:k<X.ops.length) (hn:¬ ((X.op k).state=1∧(X.op k).ready≤now)):∃ r',Lp1 X Y (k+1) r' now N S:=by
 have hf:=h.fuel
 cases r with
 |zero=>omega
 |succ r=>
  refine⟨r,h.good,?_,by omega,h.bd.mono (by omega),h.sub⟩
  rw [←h.goes]
  conv=>rhs;unfold finishAll
  rw [if_pos hk,if_neg hn]
theorem Lp1.step {X Y:Core} {k r:Nat} {now N:Int} {S:List Int} (h:Lp1 X Y k r now N S) (hk:k<X.ops.length) (hy:(X.op k).state=1∧(X.op k).ready≤now):∃ r',Lp1 (B6 X k) Y (k+1) r' now N S:=by
 have hf:=h.fuel
 cases r with
 |zero=>omega
 |succ r=>
  have hl:=Wa X k
  obtain⟨e1,e2⟩:=Zi hk
  have hp:=Gd now 0 1 X (X.ops.take k) (X.ops[k]::X.ops.drop (k+1)) h.good e1
  rw [e2] at hp
  have e3:finishAll 1 k now X=B6 X k:=by
   unfold finishAll
   rw [if_pos hk,if_pos hy]
   rfl
  rw [e3] at hp
  refine⟨r,hp.good,?_,by omega,(h.bd.complete k).mono (by omega),fun x hx=>h.sub x (by rw [←Li X k];exact hx)⟩
  rw [←h.goes]
  conv=>rhs;unfold finishAll
  rw [if_pos hk,if_pos hy]
structure Lp2 (X Y:Core) (k r:Nat) (s now N:Int) (S:List Int):Prop where
 good:Good X
 goes:beginAll r k s now X=Y
 fuel:X.ops.length≤k+r
 bd:Bd X N
 sub:∀ x∈X.script,x∈S
theorem Lp2.stop {X Y:Core} {k r:Nat} {s now N:Int} {S:List Int} (h:Lp2 X Y k r s now N S) (hk:¬ (k<X.ops.length∧s<X.wide)):Y=X:=by
 rw [←h.goes]
 cases r with
 |zero=>rfl
 |succ r=>
  unfold beginAll
  rw [if_neg hk]
theorem Lp2.step {X Y:Core} {k r:Nat} {s now N:Int} {S:List Int} (h:Lp2 X Y k r s now N S) (hk:k<X.ops.length) (hs:s<X.wide):∃ r',Lp2 (Cb X k now (X.op 0).seq).2 Y (k+1) r' (if (Cb X k now (X.op 0).seq).1=true then s+1 else s) now N S:=by
 have hf:=h.fuel
 cases r with
 |zero=>omega
 |succ r=>
  have hl:=Acb X k now (X.op 0).seq
  obtain⟨e1,e2⟩:=Zi hk
  have hg:=Pg h.good e1 now
  rw [e2] at hg
  refine⟨r,hg,?_,by omega,h.bd.same (Z2 _ _ _ _),fun x hx=>h.sub x (T5 _ _ _ _ x hx)⟩
  have e:beginAll (r+1) k s now X=beginAll r (k+1) (if (Cb X k now (X.op 0).seq).1=true then s+1 else s) now (Cb X k now (X.op 0).seq).2:=by
   conv=>lhs;unfold beginAll
   rw [if_pos (show k<X.ops.length∧s<X.wide from⟨hk,hs⟩)]
  rw [←h.goes,e]
structure Lp3 (X Y:Core) (r:Nat) (N:Int) (S:List Int):Prop where
 good:Good X
 goes:fetchAll r X=Y
 bd:Bd X (N - r)
 sub:∀ x∈X.script,x∈S
theorem Lp3.step {X Y:Core} {r:Nat} {N:Int} {S:List Int} (h:Lp3 X Y (r+1) N S) (hy:(Bv X).1=true):Lp3 (Bv X).2 Y r N S:=by
 have hp:=J2 h.good 0
 refine⟨hp.good,?_,h.bd.fetch.mono (by omega),fun x hx=>h.sub x (Pm X x hx)⟩
 rw [←h.goes]
 conv=>rhs;unfold fetchAll
 rw [if_pos hy]
theorem Lp3.last {X Y:Core} {r:Nat} {N:Int} {S:List Int} (h:Lp3 X Y (r+1) N S) (hy:(Bv X).1=false):Y=(Bv X).2:=by
 rw [←h.goes]
 unfold fetchAll
 rw [if_neg (by rw [hy];decide)]
theorem Xn:∀ (n:Nat) (c:Core),c.hart.regs.length=32→(goneP n c).hart.regs.length=32
 |0,_,h=>h
 |n+1,c,h=>by
  have h1:(Bn c).hart.regs.length=32:=by
   unfold Bn
   dsimp only
   rw [Ol]
   show(Cw (c.op 0).commit c.hart).regs.length=32
   unfold Cw
   split<;>simp [h]
  unfold goneP
  split
  ·exact h1
  ·exact Xn n _ h1
def Jf (l:List Int) (p:Nat):List Int:=l.take p++List.replicate (96 - p) 0
def J9 (p:Nat):List Bool:=List.replicate p true++List.replicate (96 - p) false
theorem Ad2 {l:List Int} (hl:l.length=32):Jf l 32=l++List.replicate 64 0:=by
 unfold Jf
 rw [List.take_of_length_le (by omega)]
theorem Ady:J9 32=List.replicate 32 true++List.replicate 64 false:=rfl
theorem Ad3 {l:List Int} (hl:l.length=32) {p:Nat} (hp:p≤32):(Jf l p).length=96:=by
 unfold Jf
 simp
 omega
theorem Adz {p:Nat} (hp:p≤96):(J9 p).length=96:=by
 unfold J9
 simp
 omega
theorem Ad4 {l:List Int} (hl:l.length=32) {p:Nat} (hp:p<32):(Jf l p).set p (l.getD p 0)=Jf l (p+1):=by
 unfold Jf
 have e:96 - p=(96 - (p+1))+1:=by omega
 have hlt:(l.take p).length=p:=by simp;omega
 rw [e,List.replicate_succ,List.set_append_right _ _ (by omega),hlt,Nat.sub_self,List.set_cons_zero,List.take_succ_eq_append_getElem (by omega),List.append_assoc]
 simp [List.getD,qI (show p<l.length by omega)]
theorem Ad0 {p:Nat} (hp:p<96):(J9 p).set p true=J9 (p+1):=by
 unfold J9
 have e:96 - p=(96 - (p+1))+1:=by omega
 rw [e,List.replicate_succ,List.set_append_right _ _ (by simp),List.length_replicate,Nat.sub_self,List.set_cons_zero,List.replicate_succ',List.append_assoc]
 rfl
theorem Uq (now:Int) (n:Nat) {C:Core} (h:Good C):Good (finishAll n 0 now C)∧(finishAll n 0 now C).wide=C.wide:=by
 have:=Gd now 0 n C [] C.ops h rfl
 exact⟨this.good,this.mid.wide⟩
theorem V9 (now:Int) (n:Nat) (s:Int) {C:Core} (h:Good C):Good (beginAll n 0 s now C)∧(beginAll n 0 s now C).wide=C.wide:=by
 have:=Lz now n s C [] C.ops h rfl
 exact⟨this.good,this.mid.wide⟩
theorem O3 (now:Int):∀ (n k:Nat) (C:Core),Sub C (finishAll n k now C)
 |0,_,C=>Sub.refl C
 |n+1,k,C=>by
  unfold finishAll
  split
  ·refine Sub.trans ?_ (O3 now n (k+1) _)
   split
   ·exact Sub.of_eq (Li C k)
   ·exact Sub.refl C
  ·exact Sub.refl C
theorem Qb (now:Int):∀ (n k:Nat) (s:Int) (C:Core),Sub C (beginAll n k s now C)
 |0,_,_,C=>Sub.refl C
 |n+1,k,s,C=>by
  unfold beginAll
  split
  ·exact Sub.trans (T5 C k now _) (Qb now n (k+1) _ _)
  ·exact Sub.refl C
theorem Qn:∀ (n:Nat) (C:Core),Sub C (fetchAll n C)
 |0,C=>Sub.refl C
 |n+1,C=>by
  unfold fetchAll
  split
  ·exact Sub.trans (Pm C) (Qn n _)
  ·exact Pm C
theorem Acp (C:Core):Sub C (Cd C):=by
 unfold Cd
 dsimp only
 have h1:Sub C (Bw { C with cycles:=C.cycles+1 }):=Sub.of_eq (Nl _)
 split
 ·exact h1
 ·exact Sub.trans (Sub.trans (Sub.trans h1 (O3 _ _ _ _)) (Qb _ _ _ _ _)) (Qn _ _)
theorem Bd.cycle {C:Core} {N:Int} (h:Bd C N) (hG:Good C):Bd (Cd C) (N+100):=by
 have hG0:=Sj hG
 have h0:Bd { C with cycles:=C.cycles+1 } (N+1):=by
  have hh:=h.mono (M:=N+1) (by omega)
  have hc:=h.cycles
  exact⟨hh.seq,hh.taken,hh.backs,hh.coms,by show 0≤C.cycles+1∧C.cycles+1≤N+1;omega⟩
 have h1:Bd (Bw { C with cycles:=C.cycles+1 }) (N+5):=(h0.commit (by have:=hG0.inv.cfg;omega)).mono (by omega)
 obtain⟨_,_,_,hg,_,_⟩:=Pk hG0
 unfold Cd
 dsimp only
 generalize Bw { C with cycles:=C.cycles+1 }=c1 at *
 split
 ·exact h1.mono (by omega)
 ·rename_i hs
  have hG1:Good c1:=by
   rcases hg with hg | hg
   ·exact absurd hg hs
   ·exact hg
  have hl:=hG1.inv.lens.1
  have hw:=hG1.inv.cfg
  obtain⟨g2,w2⟩:=Uq C.cycles c1.ops.length hG1
  have h2:=Bd.finishAll C.cycles c1.ops.length 0 h1
  generalize Go.Proofs.YtapgojgcmlnbgaaGreatDoor.finishAll c1.ops.length 0 C.cycles c1=c2 at *
  obtain⟨g3,w3⟩:=V9 C.cycles c2.ops.length 0 g2
  have h3:=Bd.beginAll C.cycles c2.ops.length 0 0 h2
  generalize Go.Proofs.YtapgojgcmlnbgaaGreatDoor.beginAll c2.ops.length 0 0 C.cycles c2=c3 at *
  exact(Bd.fetchAll c3.wide.toNat h3).mono (by omega)
structure Lp4 (X Y:Core) (r:Nat) (N:Int) (S:List Int):Prop where
 ok:X.hart.state≠0∨∃ D,Lw X D
 goes:Dc r X=Y
 bd:Bd X N
 sub:∀ x∈X.script,x∈S
 hart:X.hart.regs.length=32
theorem Lp4.stop {X Y:Core} {r:Nat} {N:Int} {S:List Int} (h:Lp4 X Y r N S) (hs:r=0∨X.hart.state≠0):Y=X:=by
 rw [←h.goes]
 cases r with
 |zero=>rfl
 |succ r=>
  unfold Dc
  rw [if_neg (by rcases hs with hs | hs;cases hs;exact hs)]
theorem Lp4.step {X Y:Core} {r:Nat} {N:Int} {S:List Int} (h:Lp4 X Y (r+1) N S) (hs:X.hart.state=0):Good X∧Lp4 (Cd X) Y r (N+100) S∧(Cd X).cycles=X.cycles+1:=by
 obtain⟨D,hD⟩:∃ D,Lw X D:=by
  rcases h.ok with h1 | h1
  ·exact absurd hs h1
  ·exact h1
 obtain⟨k,hk,hc⟩:=Ud hD
 have hgoes:Dc r (Cd X)=Y:=by
  rw [←h.goes]
  conv=>rhs;unfold Dc
  rw [if_pos hs]
 have hl:(Cd X).hart.regs.length=32:=by
  have hr:=hk.run
  have hok:=Tw k (h:=X.hart) (m:=X.mem) ⟨hD.good.inv.hart,hD.good.inv.may,hD.good.inv.bytes⟩
  rw [hr] at hok
  exact hok.1.hart.len
 refine⟨hD.good,⟨?_,hgoes,h.bd.cycle hD.good,fun x hx=>h.sub x (Acp X x hx),hl⟩,hk.cycles⟩
 rcases hc with⟨_,h2⟩ | ⟨_,h2⟩ | ⟨_,h2⟩
 ·exact Or.inl h2
 ·exact Or.inr ⟨_,h2⟩
 ·exact Or.inr ⟨_,h2⟩
end Go.Proofs.YtapgojgcmlnbgaaGreatDoor
namespace Go.Proofs.YtapgojgcmlnbgaaGreatDoor
open Go.RowKit
section
variable {B:Nat} {w:World} {g p:Nat} {C:Core} {L:Lay} {ps:List Nat} {cs:Array Value} {u:Uop}
theorem N9 (h:Af B w g C L ps cs) (hp:Blk w p 107 u.cells) (hd1:u.dest<96) (hw:C.words.length=96) (ht:C.there.length=96) (x:Int) :
  Calls Tryz.prog 67 #[.pointer (some ⟨g,0,none⟩), .pointer (some ⟨p,0,none⟩), .int .u32 x] w fun e w'=>e = .returned (.tuple #[])∧w.grownBy w' (some g)∧∃ cs',Af B w' g (Di C u.dest x) L ps cs':=by
 have c13:w.cell? ⟨p,13,none⟩=some (.int .i64 u.dest):=hp.cell 13
 have zp:=hp.lt
 have zg:=h.lt
 have hne:=Bm hp h.blk (by decide)
 unfold Di
 by_cases hd:0<u.dest
 ·rw [if_pos hd]
  obtain⟨d,hdd⟩:=qH (show 0≤u.dest by omega)
  rw [hdd] at c13 hd hd1 ⊢
  have hd96:d<96:=by omega
  have HI:=qA h
  clear h hp hdd
  go_enter Tryz.func67,Tryz.ntmps67
  go_upto_region 1 with(fail)
  go_simp
  refine Ad 245231 528 245759 [0,1,2,3,4,5,6,7,8,9,10,11,12,13,15,16,14,17,18] (by kernel_rfl) (by kernel_rfl) (by kernel_rfl) rfl ?_
  refine rR (fun wq hwq=>hwq.at_ zp c13) ?_
  refine oS (fun w1 hw1 K1 hK1=>?_)
  have h1:=HI.out.ext (w':=w1) (by rw [hw1];exact(qB _ _).drew)
  have hg1:w.grownBy w1 (some g):=by rw [hw1];exact⟨rfl,rfl,rfl,by simp,fun _ _ _=>rfl⟩
  have k1:=h1.word hd96
  have f1:=h1.blk.frozen (142+d)
  have z1:=h1.lt
  have HI2:=qA (qL (h1.set _ _ (h1.cells.set_word d hd96 hw x) h1.rows) (hg1.trans (grownBy_setCell w1 ⟨g,142+d,none⟩ (.int .u32 x))))
  clear h1 hg1 hw1
  go_wp2_with(fail)
  refine hK1 undef _ (fun _=>True) trivial ?_
  simp only [Act.put,sA,sS,sZ]
  clear hK1 K1 k1 f1 z1
  refine rO ?_
  refine oS (fun w2 hw2 K1 hK1=>?_)
  rw [←hw2] at HI2
  obtain⟨h2,hg2⟩:=HI2.out
  have k1:=h2.has hd96
  have f1:=h2.blk.frozen (238+d)
  have z1:=h2.lt
  have HI3:=qA (qL (h2.set _ _ (h2.cells.set_there d hd96 ht true) h2.rows) (hg2.trans (grownBy_setCell w2 ⟨g,238+d,none⟩ (.bool true))))
  clear h2 hg2 HI2 hw2
  go_wp2_with(fail)
  refine hK1 undef _ (fun _=>True) trivial ?_
  simp only [Act.put,sA,sS,sZ]
  clear hK1 K1 k1 f1 z1
  refine Aj ?_
  rintro w3 hw3
  rw [←hw3] at HI3
  go_wp2_with(fail)
  refine bodyPost_end (results_none rfl _ _ _) rfl ?_
  exact⟨rfl,HI3.out.2,_,HI3.out.1⟩
 ·rw [if_neg hd]
  have e0:decide (0<u.dest)=false:=qG hd
  have H:=qA h
  clear h hp
  generalize u.dest=d at *
  go_enter Tryz.func67,Tryz.ntmps67
  go_wp2_with(fail)
  refine bodyPost_end (results_none rfl _ _ _) rfl ?_
  exact⟨rfl,World.grownBy.refl _ _,cs,H.out⟩
end
section
variable {B:Nat} {w:World} {g p:Nat} {C:Core} {L:Lay} {ps:List Nat} {cs:Array Value} {u:Uop}
theorem Ak.any_ops (h:Ak cs C L) (l:List Uop):Ak cs { C with ops:=l } L:=
 ⟨h.size,h.window,h.phys,h.wide,h.commits,h.mem,h.cycles,h.taken,h.backs,h.script,h.slots,h.ops,h.access,h.seq,h.pc,h.still,h.hart,h.tab,h.names,h.words,h.there⟩
theorem Af.setuop (h:Af B w g C L ps cs) {i:Nat} (hp:ps[i]? = some p) (hu:Blk w p 107 u.cells) (k:Nat) (v:Value) {u':Uop} (hc:u.cells.setIfInBounds k v=u'.cells) :
  Af B (w.setCell ⟨p,k,none⟩ v) g { C with ops:=C.ops.set i u' } L ps cs:=by
 have hg:=grownBy_setCell w ⟨p,k,none⟩ v
 have hB':Blk (w.setCell ⟨p,k,none⟩ v) p 107 u'.cells:=by rw [←hc];exact hu.set k v
 exact⟨by simpa using h.low,h.blk.far (by show g≠p;exact fun e=>Bm hu h.blk (by decide) e.symm) v,h.cells.any_ops _,h.rows.uop h.low hp hg hB'⟩
theorem Cc (hu:Blk w p 107 u.cells) (hB:B≤p) {w':World} (hg:w.grownBy w' (some p)):Ah B w w':=
 Ah.grown hg fun k hk=>by cases hk;exact⟨hB,_,_,_,hu,rfl⟩
theorem Af.uop_at (h:Af B w g C L ps cs) {i:Nat} (hp:ps[i]? = some p):Blk w p 107 (C.op i).cells∧B≤p∧i<C.ops.length∧C.ops[i]? = some (C.op i):=by
 have hi:i<ps.length:=(qJ.1 hp).1
 have hi2:i<C.ops.length:=by rw [←h.rows.uops.len];exact hi
 have hg:C.ops[i]? = some (C.op i):=by unfold Core.op;simp [List.getD,qI hi2]
 exact⟨(h.rows.uops.at_ i _ p hg hp).1,(h.rows.uops.at_ i _ p hg hp).2,hi2,hg⟩
theorem Hq {base:Nat} {v:Value} {l:List Slt} (h:w.ownsRow base 166 2 v l.length (Ay l)):∃ A c,v = .slice A l.length c∧Cm w w.heap.size A l∧(A=none→l=[]∧c=0)∧l.length≤c∧c≤9223372036854775807:=by
 have h0:=h
 rcases h.2 with⟨rfl,hz⟩ | ⟨g,c,cur,rfl,_,_,hc,hm,_⟩
 ·have hz':=qN hz
  subst hz'
  exact⟨none,0,rfl,fun h=>absurd rfl h,fun _=>⟨rfl,rfl⟩,qC _,by decide⟩
 ·exact⟨_,c,rfl,Cm.own h0,fun h=>(by cases h),hc,by unfold maxLen at hm;omega⟩
theorem P8.row {l:List Slt} {seq:Int} {e:Ending} {w':World} (h:P8 w l seq e w'):Below w.heap.size w w'∧∃ v b,e = .returned (.tuple #[v, .bool b])∧w'.ownsRow w.heap.size 166 2 v ((Ii l seq).getD []).length (Ay ((Ii l seq).getD [])):=by
 unfold P8 at h
 obtain⟨hb,h⟩:=h
 refine⟨hb,?_⟩
 cases hp:Ii l seq with
 |none=>rw [hp] at h;exact⟨_,_,h,qT _ _ _ _⟩
 |some k=>rw [hp] at h;obtain⟨v,rfl,ho⟩:=h;exact⟨v,true,rfl,ho⟩
theorem Gp {w:World} {base base':Nat} {e:TypeId} {size:Nat} {v:Value} {n:Nat} {xs:List Value} (h:w.ownsRow base e size v n xs) (hb:base'≤base):w.ownsRow base' e size v n xs:=
 ⟨h.1,h.2.imp id fun⟨g,cap,cur,e,l,r⟩=>⟨g,cap,cur,e,qD hb l,r⟩⟩
theorem Af.setslots (h:Af B w g C L ps cs) {v:Value} {l:List Slt} (ho:w.ownsRow B 166 2 v l.length (Ay l)):Af B (w.setCell ⟨g,334,none⟩ v) g { C with slots:=l } { L with slots:=v } ps (cs.setIfInBounds 334 v)∧Ah B w (w.setCell ⟨g,334,none⟩ v):=
 ⟨h.set 334 v (h.cells.set_slots v l) (h.rows.slot ho),h.turned (grownBy_setCell w ⟨g,334,none⟩ v)⟩
theorem Mf (h:Af B w g C L ps cs) {k:Nat} (hp:ps[k]? = some p) (hsl:C.slots.length≤1000) :
  Calls Tryz.prog 68 #[.pointer (some ⟨g,0,none⟩), .pointer (some ⟨p,0,none⟩)] w fun e w'=>e = .returned (.tuple #[])∧Ah B w w'∧∃ L' cs',Af B w' g (Ep C k) L' ps cs':=by
 obtain⟨hu,hBp,hk,hg⟩:=h.uop_at hp
 unfold Ep
 generalize C.op k=u at *
 have c1:w.cell? ⟨p,1,none⟩=some (.int .i64 u.state):=hu.cell 1
 have f1:=hu.frozen 1
 have zp:=hu.lt
 have zg:=h.lt
 have h1:=h.setuop hp hu 1 (.int .i64 2) (Uop.set_state u 2)
 have hu1:Blk (w.setCell ⟨p,1,none⟩ (.int .i64 2)) p 107 (Uop.cells { u with state:=2 }):=hu.set 1 (.int .i64 2)
 have HI:=qA (qL h1 (qL hu1 (Cc hu hBp (grownBy_setCell w ⟨p,1,none⟩ (.int .i64 2)))))
 clear h1 hu1 h hu
 generalize hC1:({ C with ops:=C.ops.set k { u with state:=2 } }:Core)=C1 at HI
 have HC1:=qA hC1
 have es:C1.slots=C.slots:=by rw [←hC1]
 clear hC1
 go_enter Tryz.func68,Tryz.ntmps68
 go_upto_region 1 with(fail)
 go_simp
 clear c1 f1 zg
 generalize w.setCell ⟨p,1,none⟩ (.int .i64 2)=w1 at *
 obtain⟨h1,hu1,ht1⟩:=HI.out
 have zg:=h1.lt
 have zp1:=hu1.lt
 have c334:=h1.slots
 have c0:w1.cell? ⟨p,0,none⟩=some (.int .i64 u.seq):=hu1.cell 0
 obtain⟨A,cp,hsv,hS,hnl,hc1,hc2⟩:=Hq h1.rows.slots
 rw [hsv] at c334
 rw [es] at c334 hS hnl hc1
 have HS:=qA (qL hS hnl)
 clear hS hnl h1 hu1 ht1 hsv
 refine Ad 31983 272 32255 [0,1,2,3,4,5,6,7,8,9,10,11,12,13,14,15] (by kernel_rfl) (by kernel_rfl) (by kernel_rfl) rfl ?_
 refine rR (fun wq hwq=>i2 (hwq.at_ zg c334) (hwq.at_ zp1 c0)) ?_
 refine oS (fun w2 hw2 K1 hK1=>?_)
 have hb2:Below w1.heap.size w1 w2:=by rw [hw2];exact(qB _ _).drew
 have hS2:=(HS.out.1.below hb2).mono hb2.size
 have CD:=qA (Ahi A cp C.slots u.seq w2 (by omega) hS2 HS.out.2)
 clear hw2 hS2
 go_wp2_with(go_at_call 98;(with_reducible refine CD.out.mono ?_);intro e w3 hD;obtain⟨hb3,v3,b3,rfl,ho3⟩:=hD.row;obtain⟨A3,c3,rfl⟩:=Al ho3)
 refine hK1 _ _ (fun _=>True) trivial ?_
 simp only [Act.put,sA,sS,sZ]
 clear hK1 K1 CD hD
 have hb13:=hb2.trans (hb3.mono hb2.size)
 have h3:=HI.out.1.ext hb13
 have ho3':=Gp ho3 (base':=B) (qD HI.out.1.low hb2.size)
 have k3:=h3.slots
 have f3:=h3.blk.frozen 334
 have z3:=h3.lt
 have HJ:=qA (qL (h3.setslots ho3').1 (HI.out.2.2.trans ((Ah.below hb13).trans (h3.setslots ho3').2)))
 clear h3 ho3 ho3' HI hb13 hb2 hb3 HS
 refine rO ?_
 refine oS (fun w4 hw4 K1 hK1=>?_)
 subst hw4
 go_wp2_with(fail)
 refine hK1 undef _ (fun _=>True) trivial ?_
 simp only [Act.put,sA,sS,sZ]
 clear hK1 K1
 refine Aj ?_
 rintro w5 hw5
 rw [←hw5] at HJ
 go_wp2_with(fail)
 refine bodyPost_end (results_none rfl _ _ _) rfl ?_
 have hj:=HJ.out.1
 rw [←HC1.out] at hj
 exact⟨rfl,HJ.out.2,_,_,hj⟩
end
theorem Sy {h:Aq} (hl:h.regs.length=32) {i:Nat} (hi:i<32) (x:Int):h.cells.setIfInBounds i (.int .u32 x)=Aq.cells { h with regs:=h.regs.set i x }:=by
 unfold Aq.cells
 rw [List.setIfInBounds_toArray,List.set_append_left _ _ (by simp [hl];exact hi),List.map_set]
theorem Aa0 {l r:List Int} (hl:l.length=32) (hr:r.length=32) (pc st ca:Int):splice (Aq.cells ⟨l,pc,st,ca⟩) 0 (r.map (Value.int .u32))=Aq.cells ⟨r,pc,st,ca⟩:=by
 have hz:(Aq.cells ⟨l,pc,st,ca⟩).size=35:=Aq.cells_size hl
 have hz2:(Aq.cells ⟨r,pc,st,ca⟩).size=35:=Aq.cells_size hr
 have hlen:0+(r.map (Value.int .u32)).length≤(Aq.cells ⟨l,pc,st,ca⟩).size:=by rw [hz];simp [hr]
 apply Array.ext_getElem?
 intro i
 rw [E6 _ _ _ hlen,if_neg (by omega)]
 by_cases hi:i<32
 ·rw [if_pos (by simp [hr];exact hi),Nat.sub_zero,Aq.cells_reg (by show i<r.length;rw [hr];exact hi),List.getElem?_map]
  simp [List.getD,qI (show i<r.length by rw [hr];exact hi)]
 ·rw [if_neg (by simp [hr];omega)]
  unfold Aq.cells
  rw [List.getElem?_toArray,List.getElem?_toArray,qR (by simp [hl];omega),qR (by simp [hr];omega)]
  simp [hl,hr]
section
variable {B:Nat} {w:World} {g p:Nat} {C:Core} {L:Lay} {ps:List Nat} {cs:Array Value} {u:Uop}
theorem Abm (h:Af B w g C L ps cs) (hp:Blk w p 107 u.cells) (hl:C.hart.regs.length=32) (h1:0≤u.ins.rs1∧u.ins.rs1≤31) (h2:0≤u.ins.rs2∧u.ins.rs2≤31) (ha:0≤u.a∧u.a<96) (hb:0≤u.b∧u.b<96) :
  Calls Tryz.prog 64 #[.pointer (some ⟨g,0,none⟩), .pointer (some ⟨p,0,none⟩)] w fun e w'=>∃ b,e = .returned (.pointer (some ⟨b,0,none⟩))∧w.heap.size≤b∧Below w.heap.size w w'∧Blk w' b 30 (Ed C u).cells:=by
 have c3:w.cell? ⟨p,3,none⟩=some (.int .u32 u.pc):=hp.cell 3
 have zp:=hp.lt
 have zg:=h.lt
 have hne:=Bm hp h.blk (by decide)
 unfold Ed Core.word
 obtain⟨r1,e1⟩:=qH h1.1
 obtain⟨r2,e2⟩:=qH h2.1
 obtain⟨a,e3⟩:=qH ha.1
 obtain⟨b,e4⟩:=qH hb.1
 have c7:w.cell? ⟨p,7,none⟩=some (.int .i64 u.ins.rs1):=hp.cell 7
 have c8:w.cell? ⟨p,8,none⟩=some (.int .i64 u.ins.rs2):=hp.cell 8
 have c11:w.cell? ⟨p,11,none⟩=some (.int .i64 u.a):=hp.cell 11
 have c12:w.cell? ⟨p,12,none⟩=some (.int .i64 u.b):=hp.cell 12
 rw [e1] at c7 h1 ⊢
 rw [e2] at c8 h2 ⊢
 rw [e3] at c11 ha ⊢
 rw [e4] at c12 hb ⊢
 simp only [Int.toNat_natCast]
 have ka:=h.word (d:=a) (by omega)
 have kb:=h.word (d:=b) (by omega)
 generalize C.words.getD a 0=xa at *
 generalize C.words.getD b 0=xb at *
 generalize u.pc=pc at *
 have hX:=h.cells.regsX hl
 have hBg:=h.blk
 have hsz:=h.cells.size
 generalize C.hart.regs=l at *
 have built_h:Tryz.prog.built 30 [(1, .int .u32 pc)]=some (Aq.cells ⟨List.replicate 32 0,pc,0,0⟩):=by kernel_rfl
 have hr1:r1<32:=by omega
 have hr2:r2<32:=by omega
 have ha96:a<96:=by omega
 have hb96:b<96:=by omega
 have Hp:=qA hp
 have HBg:=qA hBg
 clear h hp h1 h2 ha hb e1 e2 e3 e4
 go_enter Tryz.func64,Tryz.ntmps64
 go_upto_region 2 with(refine Am rfl 30 _ rfl [(1, .int .u32 pc)] rfl _ built_h ?_)
 go_simp
 refine A1 fun wa hq=>?_
 have hb1:Below w.heap.size w wa:=by rw [hq];exact(qB _ _).alloc (qC _) _
 have hB1:Blk wa w.heap.size 30 (Aq.cells ⟨List.replicate 32 0,pc,0,0⟩):=by rw [hq];exact Blk.new w 30 (Aq.cells ⟨List.replicate 32 0,pc,0,0⟩)
 clear hq c3
 have hBga:=hBg.ext hb1
 have zga:=hBga.lt
 have hsz1:(Aq.cells ⟨List.replicate 32 0,pc,0,0⟩).size=35:=rfl
 have hRone:(l.map (Value.int .u32)).toArray.all (·.oneCell')=true:=by
  rw [Array.all_eq_true_iff_forall_mem]
  intro v hv
  simp only [List.mem_toArray,List.mem_map] at hv
  obtain⟨x,_,rfl⟩:=hv
  rfl
 have hRsz:(Tryz.prog.info? 28).map (·.size)=some (l.map (Value.int .u32)).toArray.size:=by rw [Ss];simp [hl]
 have HX:=qA hX
 have hRs32:(l.map (Value.int .u32)).toArray.size=32:=by simp [hl]
 obtain⟨R,hR⟩:∃ R,R=(l.map (Value.int .u32)).toArray:=⟨_,rfl⟩
 rw [←hR] at HX hRone hRsz hRs32
 have HR:=qA hR
 clear hX hR
 generalize hH0:Aq.cells ⟨List.replicate 32 0,pc,0,0⟩=H0 at hB1 hsz1
 have HH0:=qA hH0
 clear hH0
 go_upto_region 3 with(first
  |(refine Ai rfl 28 _ rfl g 4 rfl 86 cs 32 _ hBga Tryz.underlying28 rfl Ss (by omega) ?_;rw [HX.out])
  |(refine B7 rfl 28 _ _ rfl w.heap.size 0 R rfl rfl 30 H0 hB1 hRsz (by omega) hRone ?_;intro w2 hB2 hg2))
 go_simp
 rw [HR.out,←HH0.out] at hB2
 have hB2:Blk w2 w.heap.size 30 (Aq.cells ⟨l,pc,0,0⟩):=by rw [←Aa0 (l:=List.replicate 32 0) rfl hl pc 0 0];exact hB2
 have hb2:Below w.heap.size w w2:=below_grown hb1 hg2 hb1.size (qC _)
 replace c7:=(hb2.cell (p:=⟨p,7,none⟩) zp).trans c7
 replace c8:=(hb2.cell (p:=⟨p,8,none⟩) zp).trans c8
 replace c11:=(hb2.cell (p:=⟨p,11,none⟩) zp).trans c11
 replace c12:=(hb2.cell (p:=⟨p,12,none⟩) zp).trans c12
 replace ka:=(hb2.cell (p:=⟨g,142+a,none⟩) zg).trans ka
 replace kb:=(hb2.cell (p:=⟨g,142+b,none⟩) zg).trans kb
 replace zp:=qE zp hb2.size
 replace zg:=qE zg hb2.size
 clear hg2 hB1 hb1 hBga zga HR HH0 HX hRone hRsz hRs32 hsz1 hBg HBg Hp built_h hsz
 refine Ad 128277477343 571541536 128849018879 [0,1,2,3,4,5,6,7,8,9,10,11,12,13,14,15,16,17,18,19,20,21,22,23,24,25,26,27,28,29,30,31,32,34,35,33,36,37] (by kernel_rfl) (by kernel_rfl) (by kernel_rfl) rfl ?_
 refine rR (fun wq hwq=>i2 (hwq.at_ zp c7) (i2 (hwq.at_ zp c8) (i2 (hwq.at_ zp c11) (i2 (hwq.at_ zp c12) (i2 (hwq.at_ zg ka) (hwq.at_ zg kb)))))) ?_
 clear c7 c8 c11 c12 ka kb
 refine oS (fun w3 hw3 K1 hK1=>?_)
 have hb3:Below w2.heap.size w2 w3:=by rw [hw3];exact(qB _ _).drew
 have hB3:=hB2.ext hb3
 have hb3':=hb2.trans (hb3.mono hb2.size)
 have k1:=hB3.cell r1
 rw [Aq.cells_reg (by show r1<l.length;rw [hl];exact hr1)] at k1
 have f1:=hB3.frozen r1
 have z1:=hB3.lt
 have hB4:=hB3.set r1 (.int .u32 xa)
 rw [Sy hl hr1] at hB4
 have HJ:=qA (qL hB4 (Ap (u := .int .u32 xa) (off:=r1) (qC w.heap.size) hb3'))
 clear hw3 hB3 hB4 hb3' hb3 hB2 hb2
 go_wp2_with(fail)
 refine hK1 undef _ (fun _=>True) trivial ?_
 simp only [Act.put,sA,sS,sZ]
 clear hK1 K1 k1 f1 z1
 refine rO ?_
 refine oS (fun w4 hw4 K1 hK1=>?_)
 rw [←hw4] at HJ
 obtain⟨hB4,hb4⟩:=HJ.out
 have hl4:(l.set r1 xa).length=32:=by simp [hl]
 have k1:=hB4.cell r2
 rw [Aq.cells_reg (by show r2<(l.set r1 xa).length;rw [hl4];exact hr2)] at k1
 have f1:=hB4.frozen r2
 have z1:=hB4.lt
 have hB5:=hB4.set r2 (.int .u32 xb)
 rw [Sy hl4 hr2] at hB5
 have HJ2:=qA (qL hB5 (Ap (u := .int .u32 xb) (off:=r2) (qC w.heap.size) hb4))
 clear hw4 hB4 hb4 HJ hB5
 go_wp2_with(fail)
 refine hK1 undef _ (fun _=>True) trivial ?_
 simp only [Act.put,sA,sS,sZ]
 clear hK1 K1 k1 f1 z1
 refine Aj ?_
 rintro w5 hw5
 rw [←hw5] at HJ2
 go_wp2_with(fail)
 go_ret
 exact⟨_,rfl,qC _,HJ2.out.2,HJ2.out.1⟩
end
theorem Bc {w w':World} (h:Below w.heap.size w w') (row:Option Nat):w.grownBy w' row:=⟨h.os,h.tape,h.output,h.size,fun k hk _=>h.block k hk⟩
section
variable {B:Nat} {w:World} {g p:Nat} {C:Core} {L:Lay} {ps:List Nat} {cs:Array Value} {u:Uop}
theorem Sz (l:List Int):0≤Hj l:=by
 unfold Hj
 split
 ·exact Int.le_refl _
 ·omega
theorem Us (h:Af B w g C L ps cs) (hp:Blk w p 107 u.cells) (ht:E9 C.table) (h0:0≤u.pc∧u.pc≤4294967295) :
  Calls Tryz.prog 77 #[.pointer (some ⟨g,0,none⟩), .pointer (some ⟨p,0,none⟩)] w fun e w'=>e = .returned (.int .u32 (Dd C u.ins u.pc).1)∧w.grownBy w' (some g)∧∃ L' cs',Af B w' g { C with script:=(Dd C u.ins u.pc).2 } L' ps cs':=by
 have c3:w.cell? ⟨p,3,none⟩=some (.int .u32 u.pc):=hp.cell 3
 have c5:w.cell? ⟨p,5,none⟩=some (.int .i64 u.ins.op):=hp.cell 5
 have c9:w.cell? ⟨p,9,none⟩=some (.int .i32 u.ins.imm):=hp.cell 9
 have CP3:=qA (show u.cells[3]? = some (.int .u32 u.pc) from rfl)
 have CP9:=qA (show u.cells[9]? = some (.int .i32 u.ins.imm) from rfl)
 have zp:=hp.lt
 have hne:=Bm hp h.blk (by decide)
 have hT:=h.cells.tabX ht.size
 have hsz:=h.cells.size
 obtain⟨_,hca⟩:=ht.cnt_of u.pc
 have CB:=qA (fun W=>Acg C.table (Nk C.table u.pc) u.pc W h0.1 h0.2 ht.size hca)
 have HC:∀ (W:World),Af B W g C L ps cs→Calls Tryz.prog 72 #[.pointer (some ⟨g,0,none⟩)] W fun e w'=>e = .returned (.int .i64 (Hj C.script))∧W.grownBy w' (some g)∧∃ L' cs',Af B w' g { C with script:=C.script.tail } L' ps cs':=fun W h=>Ua h
 have hn0:=Sz C.script
 have HI:=qA h
 have HP:=qA hp
 have HB:=qA h.blk
 have HT:=qA hT
 have HC:=qA HC
 unfold Dd
 dsimp only
 clear hT h hp hca
 generalize Nk C.table u.pc=t at *
 obtain⟨lv,tg⟩:=t
 dsimp only at CB ⊢
 generalize u.ins.op=op at *
 generalize u.ins.imm=im at *
 generalize u.pc=pc at *
 generalize Hj C.script=n at *
 by_cases q3:op=3
 focus
  subst q3
  rw [if_pos rfl]
 rotate_left 1
 focus
  have q3':(op==3)=false:=by simpa using q3
  rw [if_neg q3]
  by_cases q4:op=4
  focus
   subst q4
   rw [if_pos rfl]
   by_cases q1:n%4=1
   focus
    rw [if_pos q1]
    have q1':(n%4==1)=true:=by simpa using q1
   rotate_left 1
   focus
    rw [if_neg q1]
    have q1':(n%4==1)=false:=by simpa using q1
   rotate_left 1
  rotate_left 2
  focus
   have q4':(op==4)=false:=by simpa using q4
   rw [if_neg q4]
   by_cases q5:5≤op∧op≤10
   focus
    obtain⟨q5a,q5b⟩:=q5
    have e5:decide (5≤op)=true:=qF q5a
    have e6:decide (op≤10)=true:=qF q5b
    rw [if_pos ⟨q5a,q5b⟩]
    generalize hlv:decide (2≤lv)=lb at *
    by_cases q1:n%3=1
    focus
     have q1':(n%3==1)=true:=by simpa using q1
     rw [qF q1]
     rcases lb with _ | _
     focus
      clear hlv
     rotate_left 1
     focus
      clear hlv
     rotate_left 1
    rotate_left 2
    focus
     have q1':(n%3==1)=false:=by simpa using q1
     rw [qG q1]
     rcases lb with _ | _
     focus
      clear hlv
     rotate_left 1
     focus
      clear hlv
     rotate_left 1
    rotate_left 2
   rotate_left 4
   focus
    rw [if_neg q5]
    have q5':op<5∨(5≤op∧10<op):=by omega
    clear q5
    rcases q5' with q5 | ⟨q5,q6⟩
    focus
     have e5:decide (5≤op)=false:=qG (by omega)
    rotate_left 1
    focus
     have e5:decide (5≤op)=true:=qF q5
     have e6:decide (op≤10)=false:=qG (by omega)
    rotate_left 1
   rotate_left 2
  rotate_left 6
 rotate_left 8
 all_goals
  go_enter Tryz.func77,Tryz.ntmps77
  go_upto_region 2 with(fail)
  go_simp
  refine Ad 15991 136 16127 [0,1,2,3,4,5,6,7,8,9,10,11,12,13] (by kernel_rfl) (by kernel_rfl) (by kernel_rfl) rfl ?_
  repeat'(first
   |refine rZ ?_
   |(refine' oR _ (by decide) (by decide) (by decide) (fun wq hwq K hK=>?_) ?_ ?_;rotate_left 1;(· have k3:=hwq.at_ zp c3;first | ((refine Az 76 _ rfl g 44 rfl 86 cs 64 _ (HB.out.ext hwq) Tryz.underlying76 rfl Hg (by omega) ?_;rw [HT.out];exact hK)) | (go_wp2_with(fail);all_goals exact hK));rfl)
   |fail)
  refine oS (fun w1 hw1 K1 hK1=>?_)
  have hb1:Below w.heap.size w w1:=by rw [hw1];exact(qB _ _).drew
  clear hw1
  go_wp2_with(go_at_call 111;(with_reducible refine(CB.out w1).mono ?_);rintro e w2 ⟨rfl,hb2⟩)
  refine hK1 _ _ (fun _=>True) trivial ?_
  simp only [Act.put,sA,sS,sZ]
  clear hK1 K1
  refine rO ?_
  refine Aj ?_
  rintro w3 rfl
  replace hb2:=hb1.trans (hb2.mono hb1.size)
  clear hb1
  replace c3:=(hb2.cell (p:=⟨p,3,none⟩) zp).trans c3
  replace c5:=(hb2.cell (p:=⟨p,5,none⟩) zp).trans c5
  replace c9:=(hb2.cell (p:=⟨p,9,none⟩) zp).trans c9
  replace zp:=qE zp hb2.size
  have HI2:=qA (HI.out.ext hb2)
  have HP2:=qA (HP.out.ext hb2)
  clear HB HT CB HI HP
 ·go_upto_region 5 with(fail)
  go_simp
  refine Ad 3831 264 4095 [0,1,2,3,4,5,6,7,8,9,10,11] (by kernel_rfl) (by kernel_rfl) (by kernel_rfl) rfl ?_
  refine rR (fun wq hwq=>i2 (hwq.at_ zp c3) (hwq.at_ zp c9)) ?_
  refine Aj ?_
  rintro w4 rfl
  go_wp2_with(fail)
  go_ret
  exact⟨Dx (by unfold u32;omega),Bc (hb2.trans ((qB _ _).drew.mono hb2.size)) _,L,cs,HI2.out.ext (qB _ _).drew⟩
 ·skip
  go_wp2_with(go_at_call 72;(with_reducible refine(HC.out _ HI2.out).mono ?_);rintro e w4 ⟨rfl,hg3,L2,cs2,HI3⟩)
  go_ret
  replace hg3:=(Bc hb2 (some g)).trans hg3
  exact⟨Dx rfl,hg3,L2,cs2,HI3⟩
 ·skip
  go_wp2_with(go_at_call 72;(with_reducible refine(HC.out _ HI2.out).mono ?_);rintro e w4 ⟨rfl,hg3,L2,cs2,HI3⟩)
  go_ret
  replace hg3:=(Bc hb2 (some g)).trans hg3
  exact⟨rfl,hg3,L2,cs2,HI3⟩
 ·skip
  go_upto_region 14 with(go_at_call 72;(with_reducible refine(HC.out _ HI2.out).mono ?_);rintro e w4 ⟨rfl,hg3,L2,cs2,HI3⟩;have HP3:=HP2.out.grown hg3 (by simpa using hne);have zp4:=HP3.lt;have d3:w4.cell? ⟨p,3,none⟩=some (.int .u32 pc):=(HP3.cell 3).trans CP3.out;have d9:w4.cell? ⟨p,9,none⟩=some (.int .i32 im):=(HP3.cell 9).trans CP9.out;clear HP3)
  go_simp
  replace hg3:=(Bc hb2 (some g)).trans hg3
  clear c3 c5 c9
  refine Ad 3831 264 4095 [0,1,2,3,4,5,6,7,8,9,10,11] (by kernel_rfl) (by kernel_rfl) (by kernel_rfl) rfl ?_
  refine rR (fun wq hwq=>i2 (hwq.at_ zp4 d3) (hwq.at_ zp4 d9)) ?_
  refine Aj ?_
  rintro w5 rfl
  go_wp2_with(fail)
  go_ret
  exact⟨Dx (by unfold u32;omega),hg3.trans (Bc (qB _ _).drew _),L2,cs2,HI3.ext (qB _ _).drew⟩
 ·skip
  go_wp2_with(go_at_call 72;(with_reducible refine(HC.out _ HI2.out).mono ?_);rintro e w4 ⟨rfl,hg3,L2,cs2,HI3⟩)
  go_ret
  replace hg3:=(Bc hb2 (some g)).trans hg3
  exact⟨Dx rfl,hg3,L2,cs2,HI3⟩
 ·skip
  go_wp2_with(go_at_call 72;(with_reducible refine(HC.out _ HI2.out).mono ?_);rintro e w4 ⟨rfl,hg3,L2,cs2,HI3⟩)
  go_ret
  replace hg3:=(Bc hb2 (some g)).trans hg3
  exact⟨Dx rfl,hg3,L2,cs2,HI3⟩
 ·skip
  go_upto_region 14 with(go_at_call 72;(with_reducible refine(HC.out _ HI2.out).mono ?_);rintro e w4 ⟨rfl,hg3,L2,cs2,HI3⟩;have HP3:=HP2.out.grown hg3 (by simpa using hne);have zp4:=HP3.lt;have d3:w4.cell? ⟨p,3,none⟩=some (.int .u32 pc):=(HP3.cell 3).trans CP3.out;have d9:w4.cell? ⟨p,9,none⟩=some (.int .i32 im):=(HP3.cell 9).trans CP9.out;clear HP3)
  go_simp
  replace hg3:=(Bc hb2 (some g)).trans hg3
  clear c3 c5 c9
  refine Ad 3831 264 4095 [0,1,2,3,4,5,6,7,8,9,10,11] (by kernel_rfl) (by kernel_rfl) (by kernel_rfl) rfl ?_
  refine rR (fun wq hwq=>i2 (hwq.at_ zp4 d3) (hwq.at_ zp4 d9)) ?_
  refine Aj ?_
  rintro w5 rfl
  go_wp2_with(fail)
  go_ret
  exact⟨Dx (by unfold u32;omega),hg3.trans (Bc (qB _ _).drew _),L2,cs2,HI3.ext (qB _ _).drew⟩
 ·go_wp2_with(fail)
  go_ret
  exact⟨Dx rfl,Bc hb2 _,L,cs,HI2.out⟩
 ·go_wp2_with(fail)
  go_ret
  exact⟨Dx rfl,Bc hb2 _,L,cs,HI2.out⟩
end
end Go.Proofs.YtapgojgcmlnbgaaGreatDoor
