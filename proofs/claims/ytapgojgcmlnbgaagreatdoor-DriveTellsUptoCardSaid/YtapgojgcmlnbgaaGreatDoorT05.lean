/- Parts of a proof. -/
import Derived.Test.YtapgojgcmlnbgaaGreatDoorTZ
import Derived.Test.YtapgojgcmlnbgaaGreatDoorT00
import Derived.Test.YtapgojgcmlnbgaaGreatDoorT03
import Derived.Test.YtapgojgcmlnbgaaGreatDoorT04
import Derived.Test.YtapgojgcmlnbgaaGreatDoorT01
import Derived.Test.YtapgojgcmlnbgaaGreatDoorT02
import Derived.Test.YtapgojgcmlnbgaaGreatDoorProg
import Derived.WalkLawsBesides
import Derived.WalkSpells
import Derived.Lib.Hide
import Derived.Outline
import Derived.Deep.Cut
import Derived.Deep.RegionWith
import Derived.Deep.RegionLaw
import Derived.WalkKit
import Derived.Deep.LoopGhost
import Derived.Lib.Walk
import Derived.Sort.Row
import Derived.Lib.SlicesMore
import Derived.BigRegion
import Derived.RegionCalls
import Derived.Lib.OwnBridge
set_option linter.unusedSimpArgs false
set_option linter.unusedVariables false
set_option maxRecDepth 100000
set_option maxHeartbeats 16000000
namespace Go.Proofs.YtapgojgcmlnbgaaGreatDoor
open Go Go.RowKit
def Co (n:Int):Int:=if n<0 then 0 else if 3<n then 3 else n
theorem Ke (n:Int):0≤Co n∧Co n≤3:=by unfold Co;(repeat' split)<;>omega
def Abz (a b:Int):Int:=(a+b)%4294967296
def Ads (a b:Int):Int:=(a - b)%4294967296
structure Cnt where
 lv:Int
 tg:Int
structure Vl where
 pc:Int
 last:Int
 stride:Int
 sure:Int
structure Cnt.Wf (c:Cnt):Prop where
 l0 : -9223372036854775808≤c.lv
 l1:c.lv≤9223372036854775807
 t0:0≤c.tg
 t1:c.tg≤4294967295
structure Vl.Wf (c:Vl):Prop where
 p0:0≤c.pc
 p1:c.pc≤4294967295
 l0:0≤c.last
 l1:c.last≤4294967295
 s0:0≤c.stride
 s1:c.stride≤4294967295
 u0 : -9223372036854775808≤c.sure
 u1:c.sure≤9223372036854775807
structure Zu (cs:Array Value) (k:Nat) (c:Cnt):Prop where
 c0:cs[k*2]? = some (.int .i64 c.lv)
 c1:cs[k*2+1]? = some (.int .u32 c.tg)
structure Yh (cs:Array Value) (k:Nat) (v:Vl):Prop where
 c0:cs[32+k*4]? = some (.int .u32 v.pc)
 c1:cs[32+k*4+1]? = some (.int .u32 v.last)
 c2:cs[32+k*4+2]? = some (.int .u32 v.stride)
 c3:cs[32+k*4+3]? = some (.int .i64 v.sure)
structure E9 (cs:Array Value):Prop where
 size:cs.size=64
 cnt:∀ k,k<16→∃ c:Cnt,c.Wf∧Zu cs k c
 vl:∀ k,k<8→∃ v:Vl,v.Wf∧Yh cs k v
def setCnt (cs:Array Value) (k:Nat) (c:Cnt):Array Value:=(cs.setIfInBounds (k*2) (.int .i64 c.lv)).setIfInBounds (k*2+1) (.int .u32 c.tg)
def setVl (cs:Array Value) (k:Nat) (v:Vl):Array Value:=
 (((cs.setIfInBounds (32+k*4) (.int .u32 v.pc)).setIfInBounds (32+k*4+1) (.int .u32 v.last)).setIfInBounds (32+k*4+2) (.int .u32 v.stride)).setIfInBounds (32+k*4+3) (.int .i64 v.sure)
def U4 (c:Cnt) (taken:Bool) (target:Int):Cnt:=if taken=true then ⟨Co (Co c.lv+1),target⟩ else ⟨Co (Co c.lv - 1),c.tg⟩
def Mk (v:Vl) (pc n:Int):Vl:=
 if v.pc≠pc then ⟨pc,n,0,0⟩
 else if n=Abz v.last v.stride then ⟨v.pc,n,v.stride,Co (Co v.sure+1)⟩
 else ⟨v.pc,n,Ads n v.last,0⟩
def Qd (pc:Int):Nat:=(pc / 4%16).toNat
def vlK (pc:Int):Nat:=(pc / 4%8).toNat
theorem Ib (cs:Array Value) (i j:Nat) (v:Value):(cs.setIfInBounds i v)[j]? = if i=j∧i<cs.size then some v else cs[j]? := by
 rw [Array.getElem?_setIfInBounds]
 by_cases h:i=j
 ·subst h
  by_cases h2:i<cs.size
  ·simp [h2]
  ·simp [h2]
 ·simp [h]
theorem Mt (cs:Array Value) (k:Nat) (c:Cnt) (hs:cs.size=64) (hk:k<16) (j:Nat) :
  (setCnt cs k c)[j]? = if j=k*2 then some (.int .i64 c.lv) else if j=k*2+1 then some (.int .u32 c.tg) else cs[j]? := by
 unfold setCnt
 simp only [Ib,Array.size_setIfInBounds,hs]
 (repeat' split)<;>first | rfl | omega
theorem Lu (cs:Array Value) (k:Nat) (v:Vl) (hs:cs.size=64) (hk:k<8) (j:Nat) :
  (setVl cs k v)[j]? = if j=32+k*4 then some (.int .u32 v.pc) else if j=32+k*4+1 then some (.int .u32 v.last) else if j=32+k*4+2 then some (.int .u32 v.stride) else if j=32+k*4+3 then some (.int .i64 v.sure) else cs[j]? := by
 unfold setVl
 simp only [Ib,Array.size_setIfInBounds,hs]
 (repeat' split)<;>first | rfl | omega
theorem Abs (cs:Array Value) (k:Nat) (c:Cnt):(setCnt cs k c).size=cs.size:=by simp [setCnt]
theorem Adm (cs:Array Value) (k:Nat) (v:Vl):(setVl cs k v).size=cs.size:=by simp [setVl]
theorem Ago (cs:Array Value) (k:Nat) (c:Cnt) (hs:cs.size=64) (hk:k<16):Zu (setCnt cs k c) k c:=by
 constructor<;>rw [Mt cs k c hs hk]<;>simp
theorem Abt (cs:Array Value) (k:Nat) (v:Vl) (hs:cs.size=64) (hk:k<8):Yh (setVl cs k v) k v:=by
 constructor<;>rw [Lu cs k v hs hk]<;>simp
theorem E9.setCnt {cs:Array Value} (h:E9 cs) {k:Nat} (hk:k<16) {c:Cnt} (hc:c.Wf):E9 (setCnt cs k c):=by
 refine⟨by rw [Abs,h.size],fun j hj=>?_,fun j hj=>?_⟩
 ·by_cases e:j=k
  ·subst e
   exact⟨c,hc,Ago cs j c h.size hk⟩
  ·obtain⟨d,hd,h0,h1⟩:=h.cnt j hj
   refine⟨d,hd,?_,?_⟩<;>rw [Mt cs k c h.size hk,if_neg (by omega),if_neg (by omega)]<;>assumption
 ·obtain⟨d,hd,h0,h1,h2,h3⟩:=h.vl j hj
  refine⟨d,hd,?_,?_,?_,?_⟩<;>rw [Mt cs k c h.size hk,if_neg (by omega),if_neg (by omega)]<;>assumption
theorem E9.setVl {cs:Array Value} (h:E9 cs) {k:Nat} (hk:k<8) {v:Vl} (hv:v.Wf):E9 (setVl cs k v):=by
 refine⟨by rw [Adm,h.size],fun j hj=>?_,fun j hj=>?_⟩
 ·obtain⟨d,hd,h0,h1⟩:=h.cnt j hj
  refine⟨d,hd,?_,?_⟩<;>rw [Lu cs k v h.size hk,if_neg (by omega),if_neg (by omega),if_neg (by omega),if_neg (by omega)]<;>assumption
 ·by_cases e:j=k
  ·subst e
   exact⟨v,hv,Abt cs j v h.size hk⟩
  ·obtain⟨d,hd,h0,h1,h2,h3⟩:=h.vl j hj
   refine⟨d,hd,?_,?_,?_,?_⟩<;>rw [Lu cs k v h.size hk,if_neg (by omega),if_neg (by omega),if_neg (by omega),if_neg (by omega)]<;>assumption
theorem Xx {c:Cnt} (h:c.Wf) (taken:Bool) {target:Int} (t0:0≤target) (t1:target≤4294967295):(U4 c taken target).Wf:=by
 have a:=Ke (Co c.lv+1)
 have b:=Ke (Co c.lv - 1)
 unfold U4
 split
 ·exact⟨by show _≤Co _;omega,by show Co _≤_;omega,t0,t1⟩
 ·exact⟨by show _≤Co _;omega,by show Co _≤_;omega,h.t0,h.t1⟩
theorem Om {v:Vl} (h:v.Wf) {pc n:Int} (p0:0≤pc) (p1:pc≤4294967295) (n0:0≤n) (n1:n≤4294967295):(Mk v pc n).Wf:=by
 have a:=Ke (Co v.sure+1)
 have b0:0≤Ads n v.last:=by unfold Ads;omega
 have b1:Ads n v.last≤4294967295:=by unfold Ads;omega
 unfold Mk
 split
 ·exact⟨p0,p1,n0,n1,by show(0:Int)≤0;omega,by show(0:Int)≤_;omega,by show _≤(0:Int);omega,by show(0:Int)≤_;omega⟩
 split
 ·exact⟨h.p0,h.p1,n0,n1,h.s0,h.s1,by show _≤Co _;omega,by show Co _≤_;omega⟩
 ·exact⟨h.p0,h.p1,n0,n1,b0,b1,by show _≤(0:Int);omega,by show(0:Int)≤_;omega⟩
def Gm (cs:Array Value) (c:Cnt) (pc:Int) (taken:Bool) (target:Int):Array Value:=setCnt cs (Qd pc) (U4 c taken target)
def Ek (cs:Array Value) (v:Vl) (pc n:Int):Array Value:=setVl cs (vlK pc) (Mk v pc n)
def Ld (v:Vl) (pc:Int):Int×Bool:=if v.pc=pc∧2≤v.sure then (Abz v.last v.stride,true) else (0,false)
theorem Qe (pc:Int):Qd pc<16:=by unfold Qd;omega
theorem Mx (pc:Int):vlK pc<8:=by unfold vlK;omega
theorem Ai7 (pc:Int):((Qd pc:Nat):Int)=pc / 4%16:=by unfold Qd;omega
theorem Ak4 (pc:Int):((vlK pc:Nat):Int)=pc / 4%8:=by unfold vlK;omega
theorem Ag1 (cs:Array Value) (k:Nat) (v:Vl) (hs:cs.size=64) (hk:k<8):splice cs (32+k*4) [.int .u32 v.pc, .int .u32 v.last, .int .u32 v.stride, .int .i64 v.sure]=setVl cs k v:=by
 apply Array.ext_getElem?
 intro j
 rw [Lu cs k v hs hk,E6 _ _ _ (by simp;omega)]
 simp only [List.length_cons,List.length_nil]
 by_cases h0:j<32+k*4
 ·rw [if_pos h0,if_neg (by omega),if_neg (by omega),if_neg (by omega),if_neg (by omega)]
 rw [if_neg h0]
 by_cases h1:j<32+k*4+(0+1+1+1+1)
 ·rw [if_pos h1]
  rcases(by omega:j=32+k*4∨j=32+k*4+1∨j=32+k*4+2∨j=32+k*4+3) with e | e | e | e
  ·rw [if_pos e,show j - (32+k*4)=0 by omega];rfl
  ·rw [if_neg (by omega),if_pos e,show j - (32+k*4)=1 by omega];rfl
  ·rw [if_neg (by omega),if_neg (by omega),if_pos e,show j - (32+k*4)=2 by omega];rfl
  ·rw [if_neg (by omega),if_neg (by omega),if_neg (by omega),if_pos e,show j - (32+k*4)=3 by omega];rfl
 ·rw [if_neg h1,if_neg (by omega),if_neg (by omega),if_neg (by omega),if_neg (by omega)]
theorem Aiy (cs D:Array Value) (k:Nat) (v:Vl) (hs:cs.size=64) (hk:k<8) (hD:∀ j,j≠32+k*4→j≠32+k*4+1→j≠32+k*4+2→j≠32+k*4+3→D[j]? = cs[j]?) (hv:Yh D k v):D=setVl cs k v:=by
 apply Array.ext_getElem?
 intro j
 rw [Lu cs k v hs hk]
 by_cases e0:j=32+k*4
 ·rw [if_pos e0,e0];exact hv.c0
 rw [if_neg e0]
 by_cases e1:j=32+k*4+1
 ·rw [if_pos e1,e1];exact hv.c1
 rw [if_neg e1]
 by_cases e2:j=32+k*4+2
 ·rw [if_pos e2,e2];exact hv.c2
 rw [if_neg e2]
 by_cases e3:j=32+k*4+3
 ·rw [if_pos e3,e3];exact hv.c3
 rw [if_neg e3]
 exact hD j e0 e1 e2 e3
def G4:List (Option IntKind):=(List.replicate 16 [some .i64,some .u32]).flatten++(List.replicate 8 [some .u32,some .u32,some .u32,some .i64]).flatten
theorem wf_i64 {n:Int} (h0 : -9223372036854775808≤n) (h1:n≤9223372036854775807):(Lit.int .i64 n).wf=true:=by simp only [Lit.wf,Bool.and_eq_true,decide_eq_true_eq];exact⟨h0,h1⟩
theorem wf_u32 {n:Int} (h0:0≤n) (h1:n≤4294967295):(Lit.int .u32 n).wf=true:=by simp only [Lit.wf,Bool.and_eq_true,decide_eq_true_eq];exact⟨h0,h1⟩
theorem Zm:∀ k:Nat,k<16→G4[k*2]? = some (some .i64)∧G4[k*2+1]? = some (some .u32):=by decide
theorem Ab0:∀ k:Nat,k<8→G4[32+k*4]? = some (some .u32)∧G4[32+k*4+1]? = some (some .u32)∧G4[32+k*4+2]? = some (some .u32)∧G4[32+k*4+3]? = some (some .i64):=by decide
theorem E9.fits {cs:Array Value} (h:E9 cs):Fits G4 cs.toList:=by
 refine Fits.mk (by simp [h.size];rfl) fun i k v hk hv=>?_
 rw [Array.getElem?_toList] at hv
 have hi:i<64:=by rw [←h.size];exact(Array.getElem?_eq_some_iff.1 hv).1
 by_cases h32:i<32
 ·obtain⟨c,wc,c0,c1⟩:=h.cnt (i / 2) (by omega)
  obtain⟨t0,t1⟩:=Zm (i / 2) (by omega)
  rcases(by omega:i=i / 2*2∨i=i / 2*2+1) with e | e
  ·rw [←e] at c0 t0
   rw [c0] at hv;rw [t0] at hk;cases hv;cases hk
   exact⟨_,rfl,wf_i64 wc.l0 wc.l1⟩
  ·rw [←e] at c1 t1
   rw [c1] at hv;rw [t1] at hk;cases hv;cases hk
   exact⟨_,rfl,wf_u32 wc.t0 wc.t1⟩
 ·obtain⟨c,wc,c0,c1,c2,c3⟩:=h.vl ((i - 32) / 4) (by omega)
  obtain⟨t0,t1,t2,t3⟩:=Ab0 ((i - 32) / 4) (by omega)
  rcases(by omega:i=32+(i - 32) / 4*4∨i=32+(i - 32) / 4*4+1∨i=32+(i - 32) / 4*4+2∨i=32+(i - 32) / 4*4+3) with e | e | e | e
  ·rw [←e] at c0 t0
   rw [c0] at hv;rw [t0] at hk;cases hv;cases hk
   exact⟨_,rfl,wf_u32 wc.p0 wc.p1⟩
  ·rw [←e] at c1 t1
   rw [c1] at hv;rw [t1] at hk;cases hv;cases hk
   exact⟨_,rfl,wf_u32 wc.l0 wc.l1⟩
  ·rw [←e] at c2 t2
   rw [c2] at hv;rw [t2] at hk;cases hv;cases hk
   exact⟨_,rfl,wf_u32 wc.s0 wc.s1⟩
  ·rw [←e] at c3 t3
   rw [c3] at hv;rw [t3] at hk;cases hv;cases hk
   exact⟨_,rfl,wf_i64 wc.u0 wc.u1⟩
theorem E9.one {cs:Array Value} (h:E9 cs):cs.all (·.oneCell')=true:=by
 rw [Array.all_eq_true_iff_forall_mem]
 intro v hv
 obtain⟨i,hi,rfl⟩:=Array.getElem_of_mem hv
 have hl:i<G4.length:=by have:=h.fits.length;simp at this;omega
 have:=h.fits.get i G4[i] cs[i] (qI hl) (by simp)
 revert this
 cases G4[i] with
 |none=>rintro⟨b,hb⟩;rw [hb];rfl
 |some q=>rintro⟨n,hn,_⟩;rw [hn];rfl
end Go.Proofs.YtapgojgcmlnbgaaGreatDoor
namespace Go.Proofs.YtapgojgcmlnbgaaGreatDoor
open Go
structure Uop where
 seq:Int
 state:Int
 ready:Int
 pc:Int
 next:Int
 ins:Ins
 cause:Int
 a:Int
 b:Int
 dest:Int
 old:Int
 guessed:Bool
 commit:Com
 deriving DecidableEq
def Amm:Com:=⟨0,0,0,0,0,0,0,0,0,false,0⟩
def Bz:Uop:=⟨0,0,0,0,0,Fz,0,0,0,0,0,false,Amm⟩
instance:Inhabited Uop:=⟨Bz⟩
structure Core where
 window:Int
 phys:Int
 wide:Int
 commits:List Com
 hart:Aq
 mem:List Int
 cycles:Int
 taken:Int
 backs:Int
 script:List Int
 table:Array Value
 names:Ax
 words:List Int
 there:List Bool
 slots:List Slt
 ops:List Uop
 access:List Acc
 seq:Int
 pc:Int
 still:Bool
def Core.op (c:Core) (k:Nat):Uop:=c.ops.getD k Bz
def Core.word (c:Core) (p:Int):Int:=c.words.getD p.toNat 0
def Core.has (c:Core) (p:Int):Bool:=c.there.getD p.toNat false
def Hj:List Int→Int
 |[]=>0
 |n::_=>max n 0
def I6 (l:List Uop) (seq:Int):Int:=Cy (fun u=>decide (u.seq=seq)) l 0
def Jh (l:List Acc) (seq:Int):Int:=Cy (fun a=>decide (a.seq=seq)) l 0
def Bp (i:Ins):Bool:=decide (11≤i.op)&&decide (i.op≤15)
def A0 (i:Ins):Bool:=decide (16≤i.op)&&decide (i.op≤18)
def Ba (i:Ins):Bool:=decide (i.op=47) || decide (i.op=48)
def loadBytes (op:Int):Int:=[1,2,4,1,2].getD (op - 11).toNat 0
def S0 (cs:Array Value) (i:Nat):Int:=match cs[i]? with | some (.int _ n)=>n | _=>0
def Nk (cs:Array Value) (pc:Int):Cnt:=⟨S0 cs (Qd pc*2),S0 cs (Qd pc*2+1)⟩
def P1 (cs:Array Value) (pc:Int):Vl:=⟨S0 cs (32+vlK pc*4),S0 cs (32+vlK pc*4+1),S0 cs (32+vlK pc*4+2),S0 cs (32+vlK pc*4+3)⟩
def Ei (ops:List Uop) (names:Ax) (s:Int):Ax:=
 let u:=ops.getD (I6 ops s).toNat Bz
 if 0<u.dest then (M6 names u.ins.rd u.old).getD Ax.zero else names
def F5 (c:Core) (seq pc:Int):Core:=
 { c with backs:=c.backs+1,names:=(Lj c.slots seq).foldl (Ei c.ops) c.names,slots:=Nb c.slots seq,ops:=c.ops.filter (fun u=>!decide (seq≤u.seq)),access:=c.access.filter (fun a=>!decide (seq≤a.seq)),pc:=pc,still:=false }
def Dd (c:Core) (i:Ins) (pc:Int):Int×List Int:=
 let n:=Hj c.script
 let t:=Nk c.table pc
 if i.op=3 then (u32 (pc+i.imm),c.script)
 else if i.op=4 then (if n%4=1 then u32 (pc+4) else t.tg,c.script.tail)
 else if 5≤i.op∧i.op≤10 then (if (decide (2≤t.lv) != decide (n%3=1))=true then u32 (pc+i.imm) else u32 (pc+4),c.script.tail)
 else (u32 (pc+4),c.script)
def bytesOf (w:Int):List Int:=[w%256,w / 256%256,w / 65536%256,w / 16777216%256]
def Je (c:Core):Ins×Int:=
 if (Eb c.access c.mem c.seq c.pc 4).2.1=true then Dn (bytesOf (Eb c.access c.mem c.seq c.pc 4).1) 0 else (Fz,1)
def Ep (c:Core) (k:Nat):Core:=
 { c with ops:=c.ops.set k { c.op k with state:=2 },slots:=(Ii c.slots (c.op k).seq).getD [] }
def Bv (c:Core):Bool×Core:=
 if c.still=true∨c.names.free=[] then (false,c)
 else match I8 c.slots c.window c.seq with
 |none=>(false,c)
 |some slots=>
  let f:=Je c
  let c1:={ c with slots:=slots,seq:=c.seq+1,taken:=c.taken+1 }
  if f.2≠0 then
   (false,Ep { c1 with ops:=c.ops++[{ Bz with seq:=c.seq,pc:=c.pc,cause:=f.2,ins:=f.1,commit:=By c.pc f.2 }],still:=true } c.ops.length)
  else
   let i:=f.1
   let t:=if Bg i=true then (M4 c.names i.rd).getD (Ax.zero,0,0) else (c.names,0,0)
   let u:={ Bz with seq:=c.seq,pc:=c.pc,ins:=i,a:=c.names.regs.getD i.rs1.toNat 0,b:=c.names.regs.getD i.rs2.toNat 0,dest:=t.2.1,old:=t.2.2 }
   let c2:={ c1 with
    names:=t.1
    there:=if Bg i=true then c.there.set t.2.1.toNat false else c.there
    access:=if (Bp i || A0 i)=true then c.access++[(⟨c.seq,A0 i,false,0,0,0,false⟩:Acc)] else c.access }
   let fo:=Dd c i c.pc
   (!Ba i,{ c2 with ops:=c.ops++[{ u with next:=fo.1 }],script:=fo.2,pc:=fo.1,still:=Ba i })
def Di (c:Core) (dest w:Int):Core:=
 if 0<dest then { c with words:=c.words.set dest.toNat w,there:=c.there.set dest.toNat true } else c
def Cb (c:Core) (k:Nat) (cycle head:Int):Bool×Core:=
 let u:=c.op k
 if u.state≠0∨c.has u.a=false∨c.has u.b=false∨(Ba u.ins=true∧u.seq≠head) then (false,c)
 else if 38≤u.ins.op∧u.ins.op≤45 then (true,{ c with ops:=c.ops.set k { u with state:=1,ready:=cycle+3 } })
 else if Bp u.ins=true then
  let n:=Hj c.script
  let v:=Ld (P1 c.table u.pc) u.pc
  let u1:={ u with state:=1,ready:=cycle+1+n%9 }
  let c1:={ c with script:=c.script.tail }
  if 0<u.dest∧(v.2=true∨n / 16%3=1) then
   (true,{ Di c1 u.dest (u32 (v.1+n / 64)) with ops:=c.ops.set k { u1 with guessed:=true } })
  else (true,{ c1 with ops:=c.ops.set k u1 })
 else (true,{ c with ops:=c.ops.set k { u with state:=1,ready:=cycle+1 } })
def Ed (c:Core) (u:Uop):Aq:=⟨(c.hart.regs.set u.ins.rs1.toNat (c.word u.a)).set u.ins.rs2.toNat (c.word u.b),u.pc,0,0⟩
def M3 (c:Core) (u:Uop):Com×List Acc:=
 let at_:=u32 ((Ed c u).reg u.ins.rs1+u.ins.imm)
 let many:=loadBytes u.ins.op
 let s:=Eb c.access c.mem u.seq at_ many
 if s.2.1=true then
  (Cl { u.ins with imm:=0 } ⟨List.replicate 32 0,u.pc,0,0⟩ (bytesOf s.1),
   let j:=(Jh c.access u.seq).toNat
   c.access.set j { c.access.getD j default with known:=true,at_:=at_,many:=many,done:=true })
 else (By u.pc 3,c.access)
def Vf (pc at_ many:Int):Bool:=decide (pc<at_+many)&&decide (at_<pc+4)
def Dj (seq at_ many:Int) (x:Int×Bool) (v:Uop):Int×Bool:=
 if (decide (seq<v.seq)&&Vf v.pc at_ many&&(!x.2 || decide (v.seq<x.1)))=true then (v.seq,true) else x
def E8 (c:Core) (k:Nat):Core:=
 let u:=c.op k
 let j:=(Jh c.access u.seq).toNat
 let acc:=c.access.set j { c.access.getD j default with known:=true,at_:=u.commit.at_,many:=u.commit.many,data:=u.commit.data }
 let c1:={ c with access:=acc }
 let f:=c.ops.foldl (Dj u.seq u.commit.at_ u.commit.many) (Ix acc u.seq)
 if f.2=true then F5 c1 f.1 (c.ops.getD (I6 c.ops f.1).toNat Bz).pc else c1
def B6 (c:Core) (k:Nat):Core:=
 let u:=c.op k
 let l:=if Bp u.ins=true then M3 c u else (Cl u.ins (Ed c u) c.mem,c.access)
 let wrong:=u.guessed&&decide (c.word u.dest≠l.1.value)
 let c1:=Di { c with access:=l.2 } u.dest l.1.value
 let c2:=Ep { c1 with ops:=c.ops.set k { u with commit:=l.1 } } k
 if l.1.state≠0 then { F5 c2 (u.seq+1) u.pc with still:=true }
 else
  let c3:=if (wrong || decide (l.1.next≠u.next))=true then F5 { c2 with ops:=c2.ops.set k { c2.op k with next:=l.1.next } } (u.seq+1) l.1.next else c2
  if A0 u.ins=true then E8 c3 k else c3
def K7 (c:Core) (u:Uop):Core:=
 if u.ins.op=4∨(5≤u.ins.op∧u.ins.op≤10) then { c with table:=Gm c.table (Nk c.table u.pc) u.pc (decide (u.commit.next≠u32 (u.pc+4))) u.commit.next }
 else if Bp u.ins=true then { c with table:=Ek c.table (P1 c.table u.pc) u.pc u.commit.value }
 else c
def Bn (c:Core):Core:=
 let u:=c.op 0
 let c1:={ c with ops:=c.ops.tail,hart:=Cw u.commit c.hart,mem:=C4 u.commit c.mem,commits:=c.commits++[u.commit],names:=if 0<u.dest then (Lk c.names u.old).getD Ax.zero else c.names }
 let c2:=K7 c1 u
 { c2 with access:=c2.access.filter (fun a=>!decide (a.seq=u.seq)),still:=if Ba u.ins=true then false else c2.still }
def goneP:Nat→Core→Core
 |0,c=>c
 |n+1,c=>if (Bn c).hart.state≠0 then Bn c else goneP n (Bn c)
def Bw (c:Core):Core:=goneP (Dy c.slots c.wide) { c with slots:=c.slots.drop (Dy c.slots c.wide) }
def finishAll:Nat→Nat→Int→Core→Core
 |0,_,_,c=>c
 |n+1,k,now,c=>
  if k<c.ops.length then
   finishAll n (k+1) now (if (c.op k).state=1∧(c.op k).ready≤now then B6 c k else c)
  else c
def beginAll:Nat→Nat→Int→Int→Core→Core
 |0,_,_,_,c=>c
 |n+1,k,some_,now,c=>
  if k<c.ops.length∧some_<c.wide then
   let b:=Cb c k now (c.op 0).seq
   beginAll n (k+1) (if b.1=true then some_+1 else some_) now b.2
  else c
def fetchAll:Nat→Core→Core
 |0,c=>c
 |n+1,c=>if (Bv c).1=true then fetchAll n (Bv c).2 else (Bv c).2
def Cd (c:Core):Core:=
 let now:=c.cycles
 let c1:=Bw { c with cycles:=c.cycles+1 }
 if c1.hart.state≠0 then c1
 else
  let c2:=finishAll c1.ops.length 0 now c1
  let c3:=beginAll c2.ops.length 0 0 now c2
  fetchAll c3.wide.toNat c3
def Dc:Nat→Core→Core
 |0,c=>c
 |n+1,c=>if c.hart.state=0 then Dc n (Cd c) else c
def Wx:Array Value:=((List.replicate 16 [Value.int .i64 0, .int .u32 0]).flatten++(List.replicate 8 [Value.int .u32 0, .int .u32 0, .int .u32 0, .int .i64 0]).flatten).toArray
def Kp (window phys wide:Int) (h:Aq) (m:List Int) (script:List Int):Core:=
 ⟨window,phys,wide,[],h,m,0,0,0,script,Wx,(Ws phys).getD Ax.zero,h.regs++List.replicate 64 0,List.replicate 32 true++List.replicate 64 false,[],[],[],0,h.pc,false⟩
def Jm (window phys wide:Int) (h:Aq) (m:List Int) (script:List Int) (cycles:Nat):Core:=Dc cycles (Kp window phys wide h m script)
end Go.Proofs.YtapgojgcmlnbgaaGreatDoor
namespace Go.Proofs.YtapgojgcmlnbgaaGreatDoor
open Go.RowKit
structure Lay where
 commits:Value
 mem:Value
 script:Value
 slots:Value
 ops:Value
 access:Value
 freeA:Option Addr
 freeCap:Nat
structure Ak (cs:Array Value) (C:Core) (L:Lay):Prop where
 size:cs.size=340
 window:cs[0]? = some (.int .i64 C.window)
 phys:cs[1]? = some (.int .i64 C.phys)
 wide:cs[2]? = some (.int .i64 C.wide)
 commits:cs[3]? = some (L.commits)
 mem:cs[39]? = some (L.mem)
 cycles:cs[40]? = some (.int .i64 C.cycles)
 taken:cs[41]? = some (.int .i64 C.taken)
 backs:cs[42]? = some (.int .i64 C.backs)
 script:cs[43]? = some (L.script)
 slots:cs[334]? = some (L.slots)
 ops:cs[335]? = some (L.ops)
 access:cs[336]? = some (L.access)
 seq:cs[337]? = some (.int .i64 C.seq)
 pc:cs[338]? = some (.int .u32 C.pc)
 still:cs[339]? = some (.bool C.still)
 hart:∀ i,i<35→cs[4+i]? = C.hart.cells[i]?
 tab:∀ i,i<64→cs[44+i]? = C.table[i]?
 names:∀ i,i<34→cs[108+i]? = (Ag C.names.phys C.names.regs L.freeA C.names.free.length L.freeCap)[i]?
 words:∀ i,i<96→cs[142+i]? = some (.int .u32 (C.words.getD i 0))
 there:∀ i,i<96→cs[238+i]? = some (.bool (C.there.getD i false))
theorem Aa {cs:Array Value} (hs:cs.size=340) (k j:Nat) (v:Value):(cs.setIfInBounds k v)[j]? = if k=j∧k<340 then some v else cs[j]? := by
 rw [Array.getElem?_setIfInBounds]
 by_cases h:k=j
 ·subst h
  rw [if_pos rfl]
  by_cases h2:k<340
  ·rw [if_pos (by omega),if_pos ⟨rfl,h2⟩]
  ·rw [if_neg (by omega),if_neg (fun h=>h2 h.2),Array.getElem?_eq_none (by omega)]
 ·rw [if_neg h,if_neg (fun h2=>h h2.1)]
theorem Afd (m:List Int) (i j:Nat) (x:Int):(m.set i x).getD j 0=if i=j∧i<m.length then x else m.getD j 0:=Xl m i j x
theorem Afc (m:List Bool) (i j:Nat) (x:Bool):(m.set i x).getD j false=if i=j∧i<m.length then x else m.getD j false:=by
 simp only [List.getD]
 by_cases h:i=j
 ·subst h
  by_cases h2:i<m.length
  ·rw [List.getElem?_set_self h2,if_pos ⟨rfl,h2⟩];rfl
  ·rw [if_neg (by omega),List.getElem?_eq_none (by simp;omega),List.getElem?_eq_none (by omega)]
 ·rw [List.getElem?_set_ne h,if_neg (by omega)]
theorem Ak.set_commits {cs:Array Value} {C:Core} {L:Lay} (h:Ak cs C L) (v:Value) (l:List Com):Ak (cs.setIfInBounds 3 (v)) { C with commits:=l } { L with commits:=v }:=
 ⟨(by simp [h.size]),(by rw [Aa h.size,if_neg (by omega)];exact h.window),(by rw [Aa h.size,if_neg (by omega)];exact h.phys),(by rw [Aa h.size,if_neg (by omega)];exact h.wide),(by rw [Aa h.size,if_pos ⟨rfl,by omega⟩]),(by rw [Aa h.size,if_neg (by omega)];exact h.mem),(by rw [Aa h.size,if_neg (by omega)];exact h.cycles),(by rw [Aa h.size,if_neg (by omega)];exact h.taken),(by rw [Aa h.size,if_neg (by omega)];exact h.backs),(by rw [Aa h.size,if_neg (by omega)];exact h.script),(by rw [Aa h.size,if_neg (by omega)];exact h.slots),(by rw [Aa h.size,if_neg (by omega)];exact h.ops),(by rw [Aa h.size,if_neg (by omega)];exact h.access),(by rw [Aa h.size,if_neg (by omega)];exact h.seq),(by rw [Aa h.size,if_neg (by omega)];exact h.pc),(by rw [Aa h.size,if_neg (by omega)];exact h.still),(fun i hi=>by rw [Aa h.size,if_neg (by omega)];exact h.hart i hi),(fun i hi=>by rw [Aa h.size,if_neg (by omega)];exact h.tab i hi),(fun i hi=>by rw [Aa h.size,if_neg (by omega)];exact h.names i hi),(fun i hi=>by rw [Aa h.size,if_neg (by omega)];exact h.words i hi),(fun i hi=>by rw [Aa h.size,if_neg (by omega)];exact h.there i hi)⟩
theorem Ak.set_cycles {cs:Array Value} {C:Core} {L:Lay} (h:Ak cs C L) (n:Int):Ak (cs.setIfInBounds 40 (.int .i64 n)) { C with cycles:=n } L:=
 ⟨(by simp [h.size]),(by rw [Aa h.size,if_neg (by omega)];exact h.window),(by rw [Aa h.size,if_neg (by omega)];exact h.phys),(by rw [Aa h.size,if_neg (by omega)];exact h.wide),(by rw [Aa h.size,if_neg (by omega)];exact h.commits),(by rw [Aa h.size,if_neg (by omega)];exact h.mem),(by rw [Aa h.size,if_pos ⟨rfl,by omega⟩]),(by rw [Aa h.size,if_neg (by omega)];exact h.taken),(by rw [Aa h.size,if_neg (by omega)];exact h.backs),(by rw [Aa h.size,if_neg (by omega)];exact h.script),(by rw [Aa h.size,if_neg (by omega)];exact h.slots),(by rw [Aa h.size,if_neg (by omega)];exact h.ops),(by rw [Aa h.size,if_neg (by omega)];exact h.access),(by rw [Aa h.size,if_neg (by omega)];exact h.seq),(by rw [Aa h.size,if_neg (by omega)];exact h.pc),(by rw [Aa h.size,if_neg (by omega)];exact h.still),(fun i hi=>by rw [Aa h.size,if_neg (by omega)];exact h.hart i hi),(fun i hi=>by rw [Aa h.size,if_neg (by omega)];exact h.tab i hi),(fun i hi=>by rw [Aa h.size,if_neg (by omega)];exact h.names i hi),(fun i hi=>by rw [Aa h.size,if_neg (by omega)];exact h.words i hi),(fun i hi=>by rw [Aa h.size,if_neg (by omega)];exact h.there i hi)⟩
theorem Ak.set_taken {cs:Array Value} {C:Core} {L:Lay} (h:Ak cs C L) (n:Int):Ak (cs.setIfInBounds 41 (.int .i64 n)) { C with taken:=n } L:=
 ⟨(by simp [h.size]),(by rw [Aa h.size,if_neg (by omega)];exact h.window),(by rw [Aa h.size,if_neg (by omega)];exact h.phys),(by rw [Aa h.size,if_neg (by omega)];exact h.wide),(by rw [Aa h.size,if_neg (by omega)];exact h.commits),(by rw [Aa h.size,if_neg (by omega)];exact h.mem),(by rw [Aa h.size,if_neg (by omega)];exact h.cycles),(by rw [Aa h.size,if_pos ⟨rfl,by omega⟩]),(by rw [Aa h.size,if_neg (by omega)];exact h.backs),(by rw [Aa h.size,if_neg (by omega)];exact h.script),(by rw [Aa h.size,if_neg (by omega)];exact h.slots),(by rw [Aa h.size,if_neg (by omega)];exact h.ops),(by rw [Aa h.size,if_neg (by omega)];exact h.access),(by rw [Aa h.size,if_neg (by omega)];exact h.seq),(by rw [Aa h.size,if_neg (by omega)];exact h.pc),(by rw [Aa h.size,if_neg (by omega)];exact h.still),(fun i hi=>by rw [Aa h.size,if_neg (by omega)];exact h.hart i hi),(fun i hi=>by rw [Aa h.size,if_neg (by omega)];exact h.tab i hi),(fun i hi=>by rw [Aa h.size,if_neg (by omega)];exact h.names i hi),(fun i hi=>by rw [Aa h.size,if_neg (by omega)];exact h.words i hi),(fun i hi=>by rw [Aa h.size,if_neg (by omega)];exact h.there i hi)⟩
theorem Ak.set_backs {cs:Array Value} {C:Core} {L:Lay} (h:Ak cs C L) (n:Int):Ak (cs.setIfInBounds 42 (.int .i64 n)) { C with backs:=n } L:=
 ⟨(by simp [h.size]),(by rw [Aa h.size,if_neg (by omega)];exact h.window),(by rw [Aa h.size,if_neg (by omega)];exact h.phys),(by rw [Aa h.size,if_neg (by omega)];exact h.wide),(by rw [Aa h.size,if_neg (by omega)];exact h.commits),(by rw [Aa h.size,if_neg (by omega)];exact h.mem),(by rw [Aa h.size,if_neg (by omega)];exact h.cycles),(by rw [Aa h.size,if_neg (by omega)];exact h.taken),(by rw [Aa h.size,if_pos ⟨rfl,by omega⟩]),(by rw [Aa h.size,if_neg (by omega)];exact h.script),(by rw [Aa h.size,if_neg (by omega)];exact h.slots),(by rw [Aa h.size,if_neg (by omega)];exact h.ops),(by rw [Aa h.size,if_neg (by omega)];exact h.access),(by rw [Aa h.size,if_neg (by omega)];exact h.seq),(by rw [Aa h.size,if_neg (by omega)];exact h.pc),(by rw [Aa h.size,if_neg (by omega)];exact h.still),(fun i hi=>by rw [Aa h.size,if_neg (by omega)];exact h.hart i hi),(fun i hi=>by rw [Aa h.size,if_neg (by omega)];exact h.tab i hi),(fun i hi=>by rw [Aa h.size,if_neg (by omega)];exact h.names i hi),(fun i hi=>by rw [Aa h.size,if_neg (by omega)];exact h.words i hi),(fun i hi=>by rw [Aa h.size,if_neg (by omega)];exact h.there i hi)⟩
theorem Ak.set_script {cs:Array Value} {C:Core} {L:Lay} (h:Ak cs C L) (v:Value) (l:List Int):Ak (cs.setIfInBounds 43 (v)) { C with script:=l } { L with script:=v }:=
 ⟨(by simp [h.size]),(by rw [Aa h.size,if_neg (by omega)];exact h.window),(by rw [Aa h.size,if_neg (by omega)];exact h.phys),(by rw [Aa h.size,if_neg (by omega)];exact h.wide),(by rw [Aa h.size,if_neg (by omega)];exact h.commits),(by rw [Aa h.size,if_neg (by omega)];exact h.mem),(by rw [Aa h.size,if_neg (by omega)];exact h.cycles),(by rw [Aa h.size,if_neg (by omega)];exact h.taken),(by rw [Aa h.size,if_neg (by omega)];exact h.backs),(by rw [Aa h.size,if_pos ⟨rfl,by omega⟩]),(by rw [Aa h.size,if_neg (by omega)];exact h.slots),(by rw [Aa h.size,if_neg (by omega)];exact h.ops),(by rw [Aa h.size,if_neg (by omega)];exact h.access),(by rw [Aa h.size,if_neg (by omega)];exact h.seq),(by rw [Aa h.size,if_neg (by omega)];exact h.pc),(by rw [Aa h.size,if_neg (by omega)];exact h.still),(fun i hi=>by rw [Aa h.size,if_neg (by omega)];exact h.hart i hi),(fun i hi=>by rw [Aa h.size,if_neg (by omega)];exact h.tab i hi),(fun i hi=>by rw [Aa h.size,if_neg (by omega)];exact h.names i hi),(fun i hi=>by rw [Aa h.size,if_neg (by omega)];exact h.words i hi),(fun i hi=>by rw [Aa h.size,if_neg (by omega)];exact h.there i hi)⟩
theorem Ak.set_slots {cs:Array Value} {C:Core} {L:Lay} (h:Ak cs C L) (v:Value) (l:List Slt):Ak (cs.setIfInBounds 334 (v)) { C with slots:=l } { L with slots:=v }:=
 ⟨(by simp [h.size]),(by rw [Aa h.size,if_neg (by omega)];exact h.window),(by rw [Aa h.size,if_neg (by omega)];exact h.phys),(by rw [Aa h.size,if_neg (by omega)];exact h.wide),(by rw [Aa h.size,if_neg (by omega)];exact h.commits),(by rw [Aa h.size,if_neg (by omega)];exact h.mem),(by rw [Aa h.size,if_neg (by omega)];exact h.cycles),(by rw [Aa h.size,if_neg (by omega)];exact h.taken),(by rw [Aa h.size,if_neg (by omega)];exact h.backs),(by rw [Aa h.size,if_neg (by omega)];exact h.script),(by rw [Aa h.size,if_pos ⟨rfl,by omega⟩]),(by rw [Aa h.size,if_neg (by omega)];exact h.ops),(by rw [Aa h.size,if_neg (by omega)];exact h.access),(by rw [Aa h.size,if_neg (by omega)];exact h.seq),(by rw [Aa h.size,if_neg (by omega)];exact h.pc),(by rw [Aa h.size,if_neg (by omega)];exact h.still),(fun i hi=>by rw [Aa h.size,if_neg (by omega)];exact h.hart i hi),(fun i hi=>by rw [Aa h.size,if_neg (by omega)];exact h.tab i hi),(fun i hi=>by rw [Aa h.size,if_neg (by omega)];exact h.names i hi),(fun i hi=>by rw [Aa h.size,if_neg (by omega)];exact h.words i hi),(fun i hi=>by rw [Aa h.size,if_neg (by omega)];exact h.there i hi)⟩
theorem Ak.set_ops {cs:Array Value} {C:Core} {L:Lay} (h:Ak cs C L) (v:Value) (l:List Uop):Ak (cs.setIfInBounds 335 (v)) { C with ops:=l } { L with ops:=v }:=
 ⟨(by simp [h.size]),(by rw [Aa h.size,if_neg (by omega)];exact h.window),(by rw [Aa h.size,if_neg (by omega)];exact h.phys),(by rw [Aa h.size,if_neg (by omega)];exact h.wide),(by rw [Aa h.size,if_neg (by omega)];exact h.commits),(by rw [Aa h.size,if_neg (by omega)];exact h.mem),(by rw [Aa h.size,if_neg (by omega)];exact h.cycles),(by rw [Aa h.size,if_neg (by omega)];exact h.taken),(by rw [Aa h.size,if_neg (by omega)];exact h.backs),(by rw [Aa h.size,if_neg (by omega)];exact h.script),(by rw [Aa h.size,if_neg (by omega)];exact h.slots),(by rw [Aa h.size,if_pos ⟨rfl,by omega⟩]),(by rw [Aa h.size,if_neg (by omega)];exact h.access),(by rw [Aa h.size,if_neg (by omega)];exact h.seq),(by rw [Aa h.size,if_neg (by omega)];exact h.pc),(by rw [Aa h.size,if_neg (by omega)];exact h.still),(fun i hi=>by rw [Aa h.size,if_neg (by omega)];exact h.hart i hi),(fun i hi=>by rw [Aa h.size,if_neg (by omega)];exact h.tab i hi),(fun i hi=>by rw [Aa h.size,if_neg (by omega)];exact h.names i hi),(fun i hi=>by rw [Aa h.size,if_neg (by omega)];exact h.words i hi),(fun i hi=>by rw [Aa h.size,if_neg (by omega)];exact h.there i hi)⟩
theorem Ak.set_access {cs:Array Value} {C:Core} {L:Lay} (h:Ak cs C L) (v:Value) (l:List Acc):Ak (cs.setIfInBounds 336 (v)) { C with access:=l } { L with access:=v }:=
 ⟨(by simp [h.size]),(by rw [Aa h.size,if_neg (by omega)];exact h.window),(by rw [Aa h.size,if_neg (by omega)];exact h.phys),(by rw [Aa h.size,if_neg (by omega)];exact h.wide),(by rw [Aa h.size,if_neg (by omega)];exact h.commits),(by rw [Aa h.size,if_neg (by omega)];exact h.mem),(by rw [Aa h.size,if_neg (by omega)];exact h.cycles),(by rw [Aa h.size,if_neg (by omega)];exact h.taken),(by rw [Aa h.size,if_neg (by omega)];exact h.backs),(by rw [Aa h.size,if_neg (by omega)];exact h.script),(by rw [Aa h.size,if_neg (by omega)];exact h.slots),(by rw [Aa h.size,if_neg (by omega)];exact h.ops),(by rw [Aa h.size,if_pos ⟨rfl,by omega⟩]),(by rw [Aa h.size,if_neg (by omega)];exact h.seq),(by rw [Aa h.size,if_neg (by omega)];exact h.pc),(by rw [Aa h.size,if_neg (by omega)];exact h.still),(fun i hi=>by rw [Aa h.size,if_neg (by omega)];exact h.hart i hi),(fun i hi=>by rw [Aa h.size,if_neg (by omega)];exact h.tab i hi),(fun i hi=>by rw [Aa h.size,if_neg (by omega)];exact h.names i hi),(fun i hi=>by rw [Aa h.size,if_neg (by omega)];exact h.words i hi),(fun i hi=>by rw [Aa h.size,if_neg (by omega)];exact h.there i hi)⟩
theorem Ak.set_seq {cs:Array Value} {C:Core} {L:Lay} (h:Ak cs C L) (n:Int):Ak (cs.setIfInBounds 337 (.int .i64 n)) { C with seq:=n } L:=
 ⟨(by simp [h.size]),(by rw [Aa h.size,if_neg (by omega)];exact h.window),(by rw [Aa h.size,if_neg (by omega)];exact h.phys),(by rw [Aa h.size,if_neg (by omega)];exact h.wide),(by rw [Aa h.size,if_neg (by omega)];exact h.commits),(by rw [Aa h.size,if_neg (by omega)];exact h.mem),(by rw [Aa h.size,if_neg (by omega)];exact h.cycles),(by rw [Aa h.size,if_neg (by omega)];exact h.taken),(by rw [Aa h.size,if_neg (by omega)];exact h.backs),(by rw [Aa h.size,if_neg (by omega)];exact h.script),(by rw [Aa h.size,if_neg (by omega)];exact h.slots),(by rw [Aa h.size,if_neg (by omega)];exact h.ops),(by rw [Aa h.size,if_neg (by omega)];exact h.access),(by rw [Aa h.size,if_pos ⟨rfl,by omega⟩]),(by rw [Aa h.size,if_neg (by omega)];exact h.pc),(by rw [Aa h.size,if_neg (by omega)];exact h.still),(fun i hi=>by rw [Aa h.size,if_neg (by omega)];exact h.hart i hi),(fun i hi=>by rw [Aa h.size,if_neg (by omega)];exact h.tab i hi),(fun i hi=>by rw [Aa h.size,if_neg (by omega)];exact h.names i hi),(fun i hi=>by rw [Aa h.size,if_neg (by omega)];exact h.words i hi),(fun i hi=>by rw [Aa h.size,if_neg (by omega)];exact h.there i hi)⟩
theorem Ak.set_pc {cs:Array Value} {C:Core} {L:Lay} (h:Ak cs C L) (n:Int):Ak (cs.setIfInBounds 338 (.int .u32 n)) { C with pc:=n } L:=
 ⟨(by simp [h.size]),(by rw [Aa h.size,if_neg (by omega)];exact h.window),(by rw [Aa h.size,if_neg (by omega)];exact h.phys),(by rw [Aa h.size,if_neg (by omega)];exact h.wide),(by rw [Aa h.size,if_neg (by omega)];exact h.commits),(by rw [Aa h.size,if_neg (by omega)];exact h.mem),(by rw [Aa h.size,if_neg (by omega)];exact h.cycles),(by rw [Aa h.size,if_neg (by omega)];exact h.taken),(by rw [Aa h.size,if_neg (by omega)];exact h.backs),(by rw [Aa h.size,if_neg (by omega)];exact h.script),(by rw [Aa h.size,if_neg (by omega)];exact h.slots),(by rw [Aa h.size,if_neg (by omega)];exact h.ops),(by rw [Aa h.size,if_neg (by omega)];exact h.access),(by rw [Aa h.size,if_neg (by omega)];exact h.seq),(by rw [Aa h.size,if_pos ⟨rfl,by omega⟩]),(by rw [Aa h.size,if_neg (by omega)];exact h.still),(fun i hi=>by rw [Aa h.size,if_neg (by omega)];exact h.hart i hi),(fun i hi=>by rw [Aa h.size,if_neg (by omega)];exact h.tab i hi),(fun i hi=>by rw [Aa h.size,if_neg (by omega)];exact h.names i hi),(fun i hi=>by rw [Aa h.size,if_neg (by omega)];exact h.words i hi),(fun i hi=>by rw [Aa h.size,if_neg (by omega)];exact h.there i hi)⟩
theorem Ak.set_still {cs:Array Value} {C:Core} {L:Lay} (h:Ak cs C L) (b:Bool):Ak (cs.setIfInBounds 339 (.bool b)) { C with still:=b } L:=
 ⟨(by simp [h.size]),(by rw [Aa h.size,if_neg (by omega)];exact h.window),(by rw [Aa h.size,if_neg (by omega)];exact h.phys),(by rw [Aa h.size,if_neg (by omega)];exact h.wide),(by rw [Aa h.size,if_neg (by omega)];exact h.commits),(by rw [Aa h.size,if_neg (by omega)];exact h.mem),(by rw [Aa h.size,if_neg (by omega)];exact h.cycles),(by rw [Aa h.size,if_neg (by omega)];exact h.taken),(by rw [Aa h.size,if_neg (by omega)];exact h.backs),(by rw [Aa h.size,if_neg (by omega)];exact h.script),(by rw [Aa h.size,if_neg (by omega)];exact h.slots),(by rw [Aa h.size,if_neg (by omega)];exact h.ops),(by rw [Aa h.size,if_neg (by omega)];exact h.access),(by rw [Aa h.size,if_neg (by omega)];exact h.seq),(by rw [Aa h.size,if_neg (by omega)];exact h.pc),(by rw [Aa h.size,if_pos ⟨rfl,by omega⟩]),(fun i hi=>by rw [Aa h.size,if_neg (by omega)];exact h.hart i hi),(fun i hi=>by rw [Aa h.size,if_neg (by omega)];exact h.tab i hi),(fun i hi=>by rw [Aa h.size,if_neg (by omega)];exact h.names i hi),(fun i hi=>by rw [Aa h.size,if_neg (by omega)];exact h.words i hi),(fun i hi=>by rw [Aa h.size,if_neg (by omega)];exact h.there i hi)⟩
theorem Ak.set_word {cs:Array Value} {C:Core} {L:Lay} (h:Ak cs C L) (d:Nat) (hd:d<96) (hl:C.words.length=96) (x:Int):Ak (cs.setIfInBounds (142+d) (.int .u32 x)) { C with words:=C.words.set d x } L:=
 ⟨(by simp [h.size]),(by rw [Aa h.size,if_neg (by omega)];exact h.window),(by rw [Aa h.size,if_neg (by omega)];exact h.phys),(by rw [Aa h.size,if_neg (by omega)];exact h.wide),(by rw [Aa h.size,if_neg (by omega)];exact h.commits),(by rw [Aa h.size,if_neg (by omega)];exact h.mem),(by rw [Aa h.size,if_neg (by omega)];exact h.cycles),(by rw [Aa h.size,if_neg (by omega)];exact h.taken),(by rw [Aa h.size,if_neg (by omega)];exact h.backs),(by rw [Aa h.size,if_neg (by omega)];exact h.script),(by rw [Aa h.size,if_neg (by omega)];exact h.slots),(by rw [Aa h.size,if_neg (by omega)];exact h.ops),(by rw [Aa h.size,if_neg (by omega)];exact h.access),(by rw [Aa h.size,if_neg (by omega)];exact h.seq),(by rw [Aa h.size,if_neg (by omega)];exact h.pc),(by rw [Aa h.size,if_neg (by omega)];exact h.still),(fun i hi=>by rw [Aa h.size,if_neg (by omega)];exact h.hart i hi),(fun i hi=>by rw [Aa h.size,if_neg (by omega)];exact h.tab i hi),(fun i hi=>by rw [Aa h.size,if_neg (by omega)];exact h.names i hi),(fun i hi=>by
  show _=some (Value.int .u32 ((C.words.set d x).getD i 0))
  rw [Aa h.size,Afd]
  by_cases e:d=i
  ·rw [if_pos ⟨by omega,by omega⟩,if_pos ⟨e,by omega⟩]
  ·rw [if_neg (fun hh=>e (by omega)),if_neg (fun hh=>e hh.1)];exact h.words i hi),(fun i hi=>by rw [Aa h.size,if_neg (by omega)];exact h.there i hi)⟩
theorem Ak.set_there {cs:Array Value} {C:Core} {L:Lay} (h:Ak cs C L) (d:Nat) (hd:d<96) (hl:C.there.length=96) (x:Bool):Ak (cs.setIfInBounds (238+d) (.bool x)) { C with there:=C.there.set d x } L:=
 ⟨(by simp [h.size]),(by rw [Aa h.size,if_neg (by omega)];exact h.window),(by rw [Aa h.size,if_neg (by omega)];exact h.phys),(by rw [Aa h.size,if_neg (by omega)];exact h.wide),(by rw [Aa h.size,if_neg (by omega)];exact h.commits),(by rw [Aa h.size,if_neg (by omega)];exact h.mem),(by rw [Aa h.size,if_neg (by omega)];exact h.cycles),(by rw [Aa h.size,if_neg (by omega)];exact h.taken),(by rw [Aa h.size,if_neg (by omega)];exact h.backs),(by rw [Aa h.size,if_neg (by omega)];exact h.script),(by rw [Aa h.size,if_neg (by omega)];exact h.slots),(by rw [Aa h.size,if_neg (by omega)];exact h.ops),(by rw [Aa h.size,if_neg (by omega)];exact h.access),(by rw [Aa h.size,if_neg (by omega)];exact h.seq),(by rw [Aa h.size,if_neg (by omega)];exact h.pc),(by rw [Aa h.size,if_neg (by omega)];exact h.still),(fun i hi=>by rw [Aa h.size,if_neg (by omega)];exact h.hart i hi),(fun i hi=>by rw [Aa h.size,if_neg (by omega)];exact h.tab i hi),(fun i hi=>by rw [Aa h.size,if_neg (by omega)];exact h.names i hi),(fun i hi=>by rw [Aa h.size,if_neg (by omega)];exact h.words i hi),(fun i hi=>by
  show _=some (Value.bool ((C.there.set d x).getD i false))
  rw [Aa h.size,Afc]
  by_cases e:d=i
  ·rw [if_pos ⟨by omega,by omega⟩,if_pos ⟨e,by omega⟩]
  ·rw [if_neg (fun hh=>e (by omega)),if_neg (fun hh=>e hh.1)];exact h.there i hi)⟩
theorem Ak.part_hart {cs cs2:Array Value} {C:Core} {L:Lay} (h:Ak cs C L) (H:Aq) (hz:cs2.size=340) (hin:∀ i,i<35→cs2[4+i]? = H.cells[i]?) (hout:∀ j,j<4∨39≤j→cs2[j]? = cs[j]?):Ak cs2 { C with hart:=H } L:=
 ⟨(hz),(by rw [hout _ (by omega)];exact h.window),(by rw [hout _ (by omega)];exact h.phys),(by rw [hout _ (by omega)];exact h.wide),(by rw [hout _ (by omega)];exact h.commits),(by rw [hout _ (by omega)];exact h.mem),(by rw [hout _ (by omega)];exact h.cycles),(by rw [hout _ (by omega)];exact h.taken),(by rw [hout _ (by omega)];exact h.backs),(by rw [hout _ (by omega)];exact h.script),(by rw [hout _ (by omega)];exact h.slots),(by rw [hout _ (by omega)];exact h.ops),(by rw [hout _ (by omega)];exact h.access),(by rw [hout _ (by omega)];exact h.seq),(by rw [hout _ (by omega)];exact h.pc),(by rw [hout _ (by omega)];exact h.still),(hin),(fun i hi=>by rw [hout _ (by omega)];exact h.tab i hi),(fun i hi=>by rw [hout _ (by omega)];exact h.names i hi),(fun i hi=>by rw [hout _ (by omega)];exact h.words i hi),(fun i hi=>by rw [hout _ (by omega)];exact h.there i hi)⟩
theorem Ak.part_tab {cs cs2:Array Value} {C:Core} {L:Lay} (h:Ak cs C L) (T:Array Value) (hz:cs2.size=340) (hin:∀ i,i<64→cs2[44+i]? = T[i]?) (hout:∀ j,j<44∨108≤j→cs2[j]? = cs[j]?):Ak cs2 { C with table:=T } L:=
 ⟨(hz),(by rw [hout _ (by omega)];exact h.window),(by rw [hout _ (by omega)];exact h.phys),(by rw [hout _ (by omega)];exact h.wide),(by rw [hout _ (by omega)];exact h.commits),(by rw [hout _ (by omega)];exact h.mem),(by rw [hout _ (by omega)];exact h.cycles),(by rw [hout _ (by omega)];exact h.taken),(by rw [hout _ (by omega)];exact h.backs),(by rw [hout _ (by omega)];exact h.script),(by rw [hout _ (by omega)];exact h.slots),(by rw [hout _ (by omega)];exact h.ops),(by rw [hout _ (by omega)];exact h.access),(by rw [hout _ (by omega)];exact h.seq),(by rw [hout _ (by omega)];exact h.pc),(by rw [hout _ (by omega)];exact h.still),(fun i hi=>by rw [hout _ (by omega)];exact h.hart i hi),(hin),(fun i hi=>by rw [hout _ (by omega)];exact h.names i hi),(fun i hi=>by rw [hout _ (by omega)];exact h.words i hi),(fun i hi=>by rw [hout _ (by omega)];exact h.there i hi)⟩
theorem Ak.part_names {cs cs2:Array Value} {C:Core} {L:Lay} (h:Ak cs C L) (M:Ax) (A:Option Addr) (c:Nat) (hz:cs2.size=340) (hin:∀ i,i<34→cs2[108+i]? = (Ag M.phys M.regs A M.free.length c)[i]?) (hout:∀ j,j<108∨142≤j→cs2[j]? = cs[j]?):Ak cs2 { C with names:=M } { L with freeA:=A,freeCap:=c }:=
 ⟨(hz),(by rw [hout _ (by omega)];exact h.window),(by rw [hout _ (by omega)];exact h.phys),(by rw [hout _ (by omega)];exact h.wide),(by rw [hout _ (by omega)];exact h.commits),(by rw [hout _ (by omega)];exact h.mem),(by rw [hout _ (by omega)];exact h.cycles),(by rw [hout _ (by omega)];exact h.taken),(by rw [hout _ (by omega)];exact h.backs),(by rw [hout _ (by omega)];exact h.script),(by rw [hout _ (by omega)];exact h.slots),(by rw [hout _ (by omega)];exact h.ops),(by rw [hout _ (by omega)];exact h.access),(by rw [hout _ (by omega)];exact h.seq),(by rw [hout _ (by omega)];exact h.pc),(by rw [hout _ (by omega)];exact h.still),(fun i hi=>by rw [hout _ (by omega)];exact h.hart i hi),(fun i hi=>by rw [hout _ (by omega)];exact h.tab i hi),(hin),(fun i hi=>by rw [hout _ (by omega)];exact h.words i hi),(fun i hi=>by rw [hout _ (by omega)];exact h.there i hi)⟩
def Uop.cells (u:Uop):Array Value:=
 #[.int .i64 u.seq, .int .i64 u.state, .int .i64 u.ready, .int .u32 u.pc, .int .u32 u.next, .int .i64 u.ins.op, .int .i64 u.ins.rd, .int .i64 u.ins.rs1, .int .i64 u.ins.rs2, .int .i32 u.ins.imm, .int .i64 u.cause, .int .i64 u.a, .int .i64 u.b, .int .i64 u.dest, .int .i64 u.old, .bool u.guessed,
  .int .u32 u.commit.pc, .int .u32 u.commit.next, .int .i64 u.commit.state, .int .i64 u.commit.cause, .int .i64 u.commit.rd, .int .u32 u.commit.value, .int .u32 u.commit.at_, .int .i64 u.commit.many, .int .u32 u.commit.data, .bool u.commit.out, .int .u32 u.commit.told]
theorem Uop.set_state (u:Uop) (x:Int):u.cells.setIfInBounds 1 (.int .i64 x)=Uop.cells { u with state:=x }:=rfl
theorem Uop.set_ready (u:Uop) (x:Int):u.cells.setIfInBounds 2 (.int .i64 x)=Uop.cells { u with ready:=x }:=rfl
theorem Uop.set_next (u:Uop) (x:Int):u.cells.setIfInBounds 4 (.int .u32 x)=Uop.cells { u with next:=x }:=rfl
theorem Uop.set_a (u:Uop) (x:Int):u.cells.setIfInBounds 11 (.int .i64 x)=Uop.cells { u with a:=x }:=rfl
theorem Uop.set_b (u:Uop) (x:Int):u.cells.setIfInBounds 12 (.int .i64 x)=Uop.cells { u with b:=x }:=rfl
theorem Uop.set_dest (u:Uop) (x:Int):u.cells.setIfInBounds 13 (.int .i64 x)=Uop.cells { u with dest:=x }:=rfl
theorem Uop.set_old (u:Uop) (x:Int):u.cells.setIfInBounds 14 (.int .i64 x)=Uop.cells { u with old:=x }:=rfl
theorem Uop.set_guessed (u:Uop) (x:Bool):u.cells.setIfInBounds 15 (.bool x)=Uop.cells { u with guessed:=x }:=rfl
def Ay (l:List Slt):List Value:=l.flatMap fun s=>[.int .i64 s.seq, .bool s.done]
theorem Gl:∀ l:List Slt,(Ay l).length=l.length*2
 |[]=>rfl
 |s::l=>by
  have ih:=Gl l
  unfold Ay at ih ⊢
  rw [List.flatMap_cons,qO,ih,List.length_cons]
  simp
  omega
theorem O9 (l k:List Slt):Ay (l++k)=Ay l++Ay k:=by unfold Ay;rw [List.flatMap_append]
theorem Se:∀ (l:List Slt) (k:Nat) (s:Slt),l[k]? = some s→(Ay l)[k*2]? = some (.int .i64 s.seq)∧(Ay l)[k*2+1]? = some (.bool s.done)
 |[],_,_,h=>by cases h
 |d::l,0,s,h=>by cases h;exact⟨rfl,rfl⟩
 |d::l,k+1,s,h=>by
  have e:Ay (d::l) = .int .i64 d.seq :: .bool d.done::Ay l:=rfl
  rw [e,show(k+1)*2=k*2+1+1 by omega,List.getElem?_cons_succ,List.getElem?_cons_succ,List.getElem?_cons_succ,List.getElem?_cons_succ]
  exact Se l k s (by simpa using h)
theorem D8 (l:List Slt):∀ u∈Ay l,u.oneCell'=true:=by
 intro u hu
 unfold Ay at hu
 obtain⟨s,_,hs⟩:=List.mem_flatMap.1 hu
 simp at hs
 rcases hs with rfl | rfl<;>rfl
def Cm (w:World) (B:Nat) (A:Option Addr) (l:List Slt):Prop:=
 l≠[]→∃ b o,A=some ⟨b,o,none⟩∧b<B∧∀ j u,(Ay l)[j]? = some u→w.cell? ⟨b,o+j,none⟩=some u
theorem Cm.below {w w':World} {B:Nat} {A:Option Addr} {l:List Slt} (h:Cm w B A l) (hb:Below B w w'):Cm w' B A l:=fun hne=>by
 obtain⟨b,o,hA,hB,hc⟩:=h hne
 exact⟨b,o,hA,hB,fun j u hj=>(hb.cell (p:=⟨b,o+j,none⟩) hB).trans (hc j u hj)⟩
theorem Cm.mono {w:World} {B B':Nat} {A:Option Addr} {l:List Slt} (h:Cm w B A l) (hB:B≤B'):Cm w B' A l:=fun hne=>by
 obtain⟨b,o,hA,hb,hc⟩:=h hne
 exact⟨b,o,hA,by omega,hc⟩
theorem Cm.at_ {w:World} {B:Nat} {A:Option Addr} {l:List Slt} (h:Cm w B A l) {k:Nat} (hk:k<l.length) :
  ∃ b o,A=some ⟨b,o,none⟩∧b<B∧w.cell? ⟨b,o+k*2,none⟩=some (.int .i64 (l[k]'hk).seq)∧w.cell? ⟨b,o+k*2+1,none⟩=some (.bool (l[k]'hk).done):=by
 have hne:l≠[]:=by intro e;subst e;simp at hk
 obtain⟨b,o,hA,hb,hc⟩:=h hne
 obtain⟨h1,h2⟩:=Se l k _ (qI hk)
 exact⟨b,o,hA,hb,hc _ _ h1,by rw [Nat.add_assoc];exact hc _ _ h2⟩
theorem Cm.cells {w:World} {B:Nat} {A:Option Addr} {l:List Slt} (h:Cm w B A l):∀ ad,A=some ad→∀ j u,(Ay l)[j]? = some u→w.cell? (ad.add j)=some u:=by
 intro ad hA j u hu
 have hne:l≠[]:=by intro e;subst e;cases hu
 obtain⟨b,o,h1,_,hc⟩:=h hne
 rw [h1] at hA
 cases hA
 rw [Addr.add_lit]
 exact hc j u hu
theorem Cm.own {w:World} {base:Nat} {A:Option Addr} {cap n:Nat} {l:List Slt} (h:w.ownsRow base 166 2 (.slice A n cap) n (Ay l)):Cm w w.heap.size A l:=fun hne=>by
 have hn:n=l.length:=by have:=h.1;rw [Gl] at this;omega
 have h0:0<l.length:=List.length_pos_iff.2 hne
 subst hn
 have hcell:=fun(g:Nat) (hg:(Value.slice A l.length cap).ownBlock=some g)=>h.cells (g:=g) hg
 rcases h.2 with⟨_,h2⟩ | ⟨g,c,cur,hv,_,hh,_⟩
 ·omega
 ·injection hv with hv1 hv2 hv3
  subst hv1
  refine⟨g,0,rfl,(Array.getElem?_eq_some_iff.1 hh).1,fun j u hj=>?_⟩
  have:=hcell g rfl j u hj
  rwa [Addr.add_lit] at this
theorem Gw:(Tryz.prog.info? 166).map (fun i=>(i.zero,i.size,i.bytes))=some (some (.agg #[.int .i64 0, .bool false]),2,16):=by kernel_rfl
theorem Gb (A:Option Addr) (n cap:Nat) (cs:List Value) (w:World) (hl:n*16≤140737488355328) (hlen:cs.length=n*2) (h1:∀ u∈cs,u.oneCell'=true)
  (hc:∀ ad,A=some ad→∀ j u,cs[j]? = some u→w.cell? (ad.add j)=some u) (hnil:A=none→n=0) :
  Calls Tryz.prog 90 #[.slice A n cap] w fun e w'=>∃ v,e = .returned v∧w'.ownsRow w.heap.size 166 2 v n cs∧Below w.heap.size w w':=by
 rcases A with _ | ad
 ·obtain rfl:=hnil rfl
  obtain rfl:cs=[]:=qN (by simpa using hlen)
  have hn:=Lib.run_eql_slice_nil (P:=Tryz.prog) w 82 166 none 0 cap 0 0 Tryz.underlying82
  go_enter Tryz.func90,Tryz.ntmps90
  go_wp2
  go_ret
  exact⟨_,rfl,qT _ _ _ _,qB _ _⟩
 ·have hn:=Lib.run_eql_slice_nil (P:=Tryz.prog) w 82 166 (some ad) n cap 0 0 Tryz.underlying82
  obtain⟨i0,hi,hz0,hz1,hz2⟩:=info_parts Gw
  have Hc:=qA (hc ad rfl)
  clear hc hnil
  have hown0:=World.ownsRow_lit (base:=w.heap.size) (e:=166) (size:=2) w #[] 0 (qC _) (by unfold maxLen;omega) rfl
  go_enter Tryz.func90,Tryz.ntmps90
  go_wp2_with(at_builtin;refine wpList_append_own _ rfl (.tmp 5) (.tmp 6) 82 rfl w.heap.size 166 i0 _ 2 16 Tryz.underlying82 hi hz0 hz1 hz2 rfl (by decide) _ 0 [] rfl hown0 ad n cap cs rfl hlen (fun j u hu=>(World.cell?_alloc_lt _ _ _ (World.block_lt_of_cell? _ _ (Hc.out j u hu))).trans (Hc.out j u hu)) h1 (by unfold maxLen;omega) (by omega) (by simp) ?_;intro v1 w1 hown1 hg1 hat1)
  go_ret
  refine⟨v1,rfl,by simpa using hown1,((qB _ _).alloc (qC _) _).grown hg1 (by simp) (fun k hk=>?_)⟩
  cases hk
  exact qC _
theorem Abi (s:Slt) (seq:Int) (g:Nat) (w:World) (hg:w.cell? ⟨g,0,none⟩=some (.int .i64 seq)) (hgl:g<w.heap.size) :
  Calls Tryz.prog 108 #[.agg #[.int .i64 s.seq, .bool s.done], .pointer (some ⟨g,0,none⟩)] w fun e w'=>e = .returned (.bool (decide (seq≤s.seq)))∧Below w.heap.size w w':=by
 obtain⟨sq,dn⟩:=s
 dsimp only
 go_enter Tryz.func108,Tryz.ntmps108
 go_upto_region 1 with(fail)
 go_simp
 refine A1 fun wa hq=>?_
 have hB:Blk wa w.heap.size 166 #[.int .i64 sq, .bool dn]:=by rw [hq];exact Blk.new w _ _
 have hbl:Below w.heap.size w wa:=by rw [hq];exact(qB _ _).alloc (qC _) _
 clear hq
 have c0:wa.cell? ⟨w.heap.size,0,none⟩=some (.int .i64 sq):=hB.cell 0
 have c1:=(hbl.cell (p:=⟨g,0,none⟩) hgl).trans hg
 go_wp2
 go_ret
 exact⟨rfl,hbl⟩
theorem Aht {α:Type} (p:α→Bool) (l:List α):decide (0≤Cy p l 0)=l.any p:=by
 rcases E5 p l 0 with⟨h1,h2⟩ | ⟨j,x,h1,h2,h3,_⟩
 ·have h1':Cy p l 0 = -1:=h1
  rw [h1']
  have:l.any p=false:=by rw [List.any_eq_false];intro x hx;rw [h2 x hx];simp
  rw [this]
  rfl
 ·have h1':Cy p l 0=j:=by simpa using h1
  rw [h1']
  have:l.any p=true:=List.any_eq_true.2 ⟨x,List.mem_of_getElem? h2,h3⟩
  rw [this]
  exact qF (by omega)
theorem Ik {α:Type} (p:α→Bool) (l:List α) {k:Nat} (hk:k<l.length) (z:Int):Cy p (l.drop k) z=if p (l[k]'hk)=true then z else Cy p (l.drop (k+1)) (z+1):=by
 rw [qM hk]
 rfl
theorem Wl (A:Option Addr) (cap:Nat) (l:List Slt) (seq:Int) (g:Nat) (w:World) (hl:l.length≤140737488355328) (hA:Cm w w.heap.size A l) (hg:w.cell? ⟨g,0,none⟩=some (.int .i64 seq)) (hgl:g<w.heap.size) :
  Calls Tryz.prog 141 #[.slice A l.length cap, .func (.func 108) #[] #[.pointer (some ⟨g,0,none⟩)]] w fun e w'=>e = .returned (.int .i64 (Cy (fun s=>decide (seq≤s.seq)) l 0))∧Below w.heap.size w w':=by
 obtain⟨X,hX⟩:∃ X,Cy (fun s:Slt=>decide (seq≤s.seq)) l 0=X:=⟨_,rfl⟩
 rw [hX]
 obtain⟨N,hN⟩:∃ N,N=l.length:=⟨_,rfl⟩
 rw [←hN] at hl ⊢
 have HA:=qA hA
 have HN:=qA hN
 have HX:Hid (Cy (fun s:Slt=>decide (seq≤s.seq)) (l.drop 0) ((0:Nat):Int)=X):=qA (by simpa using hX)
 have HG:=qA hg
 clear hA hN hX hg
 go_enter Tryz.func141,Tryz.ntmps141
 go_upto_region 2 with(fail)
 go_loopw [8] (fun v wr=>∃ k:Nat,v = .int .i64 k∧k≤N∧Below w.heap.size w wr∧Hid (Cy (fun s:Slt=>decide (seq≤s.seq)) (l.drop k) k=X)) (fun v _=>N+1 - (intOf v).toNat)
 case atStart=>exact⟨0,rfl,Nat.zero_le _,qB _ _,HX⟩
 case round=>
  clear HX
  obtain⟨k,rfl,hk,hb,Hk⟩:=hrel
  by_cases hlt:k<N
  ·have hk':k<l.length:=by rw [←HN.out];exact hlt
   obtain⟨b,o,rfl,hgB,c0,c1⟩:=(HA.out.below hb).at_ hk'
   have hd:=Ik (fun s:Slt=>decide (seq≤s.seq)) l hk' (k:Int)
   have CP:=qA (fun W h1 h2=>Abi (l[k]'hk') seq g W h1 h2)
   generalize l[k]'hk'=s at *
   obtain⟨sq,dn⟩:=s
   dsimp only at c0 c1 hd
   have hgr:=(hb.cell (p:=⟨g,0,none⟩) hgl).trans HG.out
   have hglr:g<wr.heap.size:=qE hgl hb.size
   have HGR:=qA hgr
   clear hgr
   by_cases hs:seq≤sq
   ·have Hd:Hid ((k:Int)=X):=qA (by rw [if_pos (by simpa using hs)] at hd;rw [←Hk.out,hd])
    have t1:decide (seq≤sq)=true:=qF hs
    clear hd Hk hs
    go_wp2_with(go_at_call 108;(with_reducible refine(CP.out _ HGR.out hglr).mono ?_);rintro e w2 ⟨rfl,hb2⟩)
    go_ret
    exact⟨by rw [←Hd.out];rfl,hb.trans (hb2.mono hb.size)⟩
   ·have Hd:Hid (Cy (fun s:Slt=>decide (seq≤s.seq)) (l.drop (k+1)) ((k+1:Nat):Int)=X):=qA (by rw [if_neg (by simpa using hs)] at hd;rw [←Hk.out,hd];rfl)
    have t1:decide (seq≤sq)=false:=qG hs
    clear hd Hk hs
    go_wp2_with(go_at_call 108;(with_reducible refine(CP.out _ HGR.out hglr).mono ?_);rintro e w2 ⟨rfl,hb2⟩)
    go_roundw
    case rel=>exact⟨k+1,by go_num,by omega,hb.trans (hb2.mono hb.size),Hd⟩
    case measure=>simp [intOf];omega
  ·obtain rfl:k=N:=by omega
   have e1:decide ((k:Int)<k)=false:=by simp
   have Hd:Hid ((-1:Int)=X):=qA (by rw [←Hk.out,HN.out,List.drop_length];rfl)
   clear Hk
   go_wp2
   go_ret
   exact⟨by rw [←Hd.out];rfl,hb⟩
theorem Ru (A:Option Addr) (cap:Nat) (l:List Slt) (seq:Int) (g:Nat) (w:World) (hl:l.length≤140737488355328) (hA:Cm w w.heap.size A l) (hg:w.cell? ⟨g,0,none⟩=some (.int .i64 seq)) (hgl:g<w.heap.size) :
  Calls Tryz.prog 107 #[.slice A l.length cap, .func (.func 108) #[] #[.pointer (some ⟨g,0,none⟩)]] w fun e w'=>e = .returned (.bool (l.any fun s=>decide (seq≤s.seq)))∧Below w.heap.size w w':=by
 have CI:=qA (Wl A cap l seq g w hl hA hg hgl)
 have hx:=Aht (fun s:Slt=>decide (seq≤s.seq)) l
 generalize Cy (fun s:Slt=>decide (seq≤s.seq)) l 0=X at *
 generalize (l.any fun s=>decide (seq≤s.seq))=Y at *
 generalize l.length=N at *
 clear hA hg
 go_enter Tryz.func107,Tryz.ntmps107
 go_wp2_with(go_at_call 141;(with_reducible refine CI.out.mono ?_);rintro e w2 ⟨rfl,hb2⟩)
 go_ret
 refine⟨?_,hb2⟩
 first | rfl | (rw [←hx];rfl) | (rw [hx])
def Fu (w:World) (l:List Slt) (v:Value) (w':World):Prop:=
 w'.ownsRow w.heap.size 166 2 v l.length (Ay l)
theorem Aa5 (w:World) (seq:Int) (t:TypeId):∀ ad,some (⟨w.heap.size,0,none⟩:Addr)=some ad→∀ j v,(Ay [⟨seq,false⟩])[j]? = some v→(w.alloc (.cells #[.int .i64 seq, .bool false] t)).cell? (ad.add j)=some v:=by
 intro ad h j v hj
 cases h
 rw [Addr.add_lit,Nat.zero_add,World.cell?_alloc_new]
 have e:Ay [⟨seq,false⟩]=[.int .i64 seq, .bool false]:=rfl
 rw [e] at hj
 simpa using hj
theorem Q0 {w:World} {base base':Nat} {e:TypeId} {size:Nat} {v:Value} {n:Nat} {xs:List Value} (h:w.ownsRow base e size v n xs) (hb:base'≤base):w.ownsRow base' e size v n xs:=
 ⟨h.1,h.2.imp id fun⟨g,cap,cur,e,l,r⟩=>⟨g,cap,cur,e,qD hb l,r⟩⟩
theorem Aj6 {P:Program} {ops:Array Oper} {o:Oper} {a:Act} {w:World} {K:Act→World→Prop} {Q:Exit→Act→World→Prop} {E:Prop} (hg:o.guard=none) (h:o.wp P a w K Q):if Region.wanted o (yielded ops a.tmps)=true then Oper.wp P o a w K Q else E:=by
 have hw:Region.wanted o (yielded ops a.tmps)=true:=by simp [Region.wanted,hg]
 rw [if_pos hw]
 exact h
theorem Wp {W w5:World} {w:World} {seq:Int} {t:TypeId} (hW:W=w.alloc (.cells #[.int .i64 seq, .bool false] t)) (hb:Below W.heap.size W w5):∀ ad,some (⟨w.heap.size,0,none⟩:Addr)=some ad→∀ j v,(Ay [⟨seq,false⟩])[j]? = some v→w5.cell? (ad.add j)=some v:=by
 intro ad h j v hj
 have h1:=Aa5 w seq t ad h j v hj
 rw [←hW] at h1
 have h2:=World.block_lt_of_cell? _ _ h1
 exact(hb.cell h2).trans h1
theorem Rb (A:Option Addr) (cap:Nat) (l:List Slt) (room seq:Int) (w:World) (hl:l.length*16≤140737488351232) (hA:Cm w w.heap.size A l) (hnil:A=none→l=[]∧cap=0) :
  Calls Tryz.prog 74 #[.slice A l.length cap, .int .i64 room, .int .i64 seq] w fun e w'=>Below w.heap.size w w'∧match I8 l room seq with
   |none=>e = .returned (.tuple #[.slice none 0 0, .bool false])
   |some k=>∃ v,e = .returned (.tuple #[v, .bool true])∧Fu w k v w':=by
 have hx:I8 l room seq=if room≤l.length∨(l.any fun s=>decide (seq≤s.seq))=true then none else some (l++[⟨seq,false⟩]):=rfl
 by_cases hr:room≤(l.length:Int)
 ·rw [hx,if_pos (Or.inl hr)]
  have t1:decide (room≤(l.length:Int))=true:=qF hr
  generalize l.length=N at *
  clear hx hr hA hnil
  go_enter Tryz.func74,Tryz.ntmps74
  go_upto_region 1 with(fail)
  go_simp
  refine A1 fun wa hq=>?_
  have hbl:Below w.heap.size w wa:=by rw [hq];exact(qB _ _).alloc (qC _) _
  clear hq
  go_wp2
  go_ret2
  exact⟨hbl,rfl⟩
 ·have t1:decide (room≤(l.length:Int))=false:=qG hr
  have CC:=qA (fun W hW hg hgl=>Ru A cap l seq w.heap.size W (by omega) hW hg hgl)
  rcases hany:(l.any fun s=>decide (seq≤s.seq)) with _ | _
  ·rw [hany] at CC
   rw [hx,hany,if_neg (by simp;omega)]
   clear hx hr hany
   have CL:=qA (fun W hW=>Gb A l.length cap (Ay l) W (by omega) (Gl l) (D8 l) hW (fun e=>by rw [(hnil e).1];rfl))
   obtain⟨i0,hi,hz0,hz1,hz2⟩:=info_parts Gw
   go_enter Tryz.func74,Tryz.ntmps74
   go_upto_region 1 with(fail)
   go_simp
   refine A1 fun wa hq=>?_
   have hB:Blk wa w.heap.size 3 #[.int .i64 seq]:=by rw [hq];exact Blk.new w _ _
   have hbl:Below w.heap.size w wa:=by rw [hq];exact(qB _ _).alloc (qC _) _
   clear hq
   have hAa:=(hA.below hbl).mono hbl.size
   have c0:wa.cell? ⟨w.heap.size,0,none⟩=some (.int .i64 seq):=hB.cell 0
   have zB:=hB.lt
   go_upto_region 3 with(go_at_call 107;(with_reducible refine(CC.out _ hAa c0 zB).mono ?_);rintro e w2 ⟨rfl,hb2⟩)
   try go_simp
   replace hbl:=hbl.trans (hb2.mono hbl.size)
   replace hB:=hB.ext hb2
   have hA2:=(hAa.below hb2).mono hb2.size
   clear hAa hb2 CC t1 c0 zB
   have CLg:Hid (∀ W,Below w2.heap.size w2 W→Calls Tryz.prog 90 #[.slice A l.length cap] W fun e w'=>∃ v,e = .returned v∧w'.ownsRow w2.heap.size 166 2 v l.length (Ay l)∧Below w2.heap.size w2 w'∧Below W.heap.size W w'):=qA (fun W hb=>by
    refine(CL.out W ((hA2.below hb).cells)).mono ?_
    rintro e w' ⟨v,rfl,ho,hb'⟩
    refine⟨v,rfl,?_,hb.trans (hb'.mono hb.size),hb'⟩
    exact⟨ho.1,ho.2.imp id fun⟨g,cap,cur,e,l,r⟩=>⟨g,cap,cur,e,qD hb.size l,r⟩⟩)
   have hseq:w2.cell? ⟨w.heap.size,0,none⟩=some (.int .i64 seq):=hB.cell 0
   have zB:=hB.lt
   clear CL
   go_region_law (refine Aj6 rfl ?_;first
    |(refine Fw (.tmp 18) (.tmp 21) 82 rfl w2.heap.size 166 i0 _ 2 16 Tryz.underlying82 hi hz0 hz1 hz2 rfl (by decide) (.slice A5 l.length c5) l.length (Ay l) rfl (hown5.alloc _) (some ⟨w5.heap.size,0,none⟩) 1 1 (Ay [⟨seq,false⟩]) rfl rfl (fun h=>by cases h) (Aa5 w5 seq _) (D8 _) (by unfold maxLen;omega) (by omega) (by have:=hb5.size;simp;omega) ?_;intro v6 w6 hown6 hg6)
    |(refine Fw (.tmp 18) (.tmp 21) 82 rfl w2.heap.size 166 i0 _ 2 16 Tryz.underlying82 hi hz0 hz1 hz2 rfl (by decide) (.slice A5 l.length c5) l.length (Ay l) rfl hown5 (some ⟨w2.drew.heap.size,0,none⟩) 1 1 (Ay [⟨seq,false⟩]) rfl rfl (fun h=>by cases h) (Wp rfl hb6) (D8 _) (by unfold maxLen;omega) (by omega) (by have:=hb5.size;simp;omega) ?_;intro v6 w6 hown6 hg6)
    |(go_wp2_with(go_at_call 90;refine(CLg.out _ (by first | exact(qB _ _).drew | exact((qB _ _).drew.alloc (qC _) _))).mono ?_;rintro e w5 ⟨v5,rfl,hown5,hb5,hb6⟩;have hseq5:=(hb5.cell (p:=⟨w.heap.size,0,none⟩) zB).trans hseq;obtain⟨A5,c5,rfl⟩:=Al hown5)))
   all_goals
    have hb9:Below w2.heap.size w2 w6:=by
     first
     |exact hb5.grown hg6 (by have:=hb5.size;omega) (fun k hk=>(hown5.lt k hk).1)
     |exact(hb5.alloc hb5.size _).grown hg6 (by have:=hb5.size;simp;omega) (fun k hk=>(hown5.lt k hk).1)
    go_wp2
    go_ret2
    refine⟨hbl.trans (hb9.mono hbl.size),v6,rfl,?_⟩
    unfold Fu
    rw [O9,qO]
    exact Q0 hown6 hbl.size
  ·rw [hany] at CC
   rw [hx,hany,if_pos (Or.inr rfl)]
   clear hx hr hany
   go_enter Tryz.func74,Tryz.ntmps74
   go_upto_region 1 with(fail)
   go_simp
   refine A1 fun wa hq=>?_
   have hB:Blk wa w.heap.size 3 #[.int .i64 seq]:=by rw [hq];exact Blk.new w _ _
   have hbl:Below w.heap.size w wa:=by rw [hq];exact(qB _ _).alloc (qC _) _
   clear hq
   have hAa:=(hA.below hbl).mono hbl.size
   have c0:wa.cell? ⟨w.heap.size,0,none⟩=some (.int .i64 seq):=hB.cell 0
   have zB:=hB.lt
   go_wp2_with(go_at_call 107;(with_reducible refine(CC.out _ hAa c0 zB).mono ?_);rintro e w2 ⟨rfl,hb2⟩)
   go_ret2
   exact⟨hbl.trans (hb2.mono hbl.size),rfl⟩
def isS (seq:Int) (s:Slt):Bool:=decide (s=⟨seq,false⟩)
theorem Ado (l:List Slt) (j:Nat) (seq:Int) (h:l[j]? = some ⟨seq,false⟩):Ay (l.set j ⟨seq,true⟩)=(Ay l).set (j*2+1) (.bool true):=by
 induction l generalizing j with
 |nil=>cases h
 |cons s l ih=>
  have e:∀ (s:Slt) (l:List Slt),Ay (s::l) = .int .i64 s.seq :: .bool s.done::Ay l:=fun _ _=>rfl
  cases j with
  |zero=>
   cases h
   rfl
  |succ j=>
   rw [List.set_cons_succ,e,e,ih j (by simpa using h),show(j+1)*2+1=j*2+1+1+1 by omega]
   rfl
theorem Af7 (A:Option Addr) (cap:Nat) (l:List Slt) (seq:Int) (w:World) (hl:l.length≤140737488355328) (hA:Cm w w.heap.size A l) :
  Calls Tryz.prog 136 #[.slice A l.length cap, .agg #[.int .i64 seq, .bool false]] w fun e w'=>e = .returned (.int .i64 (Cy (isS seq) l 0))∧Below w.heap.size w w':=by
 obtain⟨X,hX⟩:∃ X,Cy (isS seq) l 0=X:=⟨_,rfl⟩
 rw [hX]
 obtain⟨N,hN⟩:∃ N,N=l.length:=⟨_,rfl⟩
 rw [←hN] at hl ⊢
 have HA:=qA hA
 have HN:=qA hN
 have HX:Hid (Cy (isS seq) (l.drop 0) ((0:Nat):Int)=X):=qA (by simpa using hX)
 clear hA hN hX
 go_enter Tryz.func136,Tryz.ntmps136
 go_upto_region 1 with(fail)
 go_simp
 refine A1 fun wa hq=>?_
 have hB:Blk wa w.heap.size 166 #[.int .i64 seq, .bool false]:=by rw [hq];exact Blk.new w _ _
 have hbl:Below w.heap.size w wa:=by rw [hq];exact(qB _ _).alloc (qC _) _
 clear hq
 have hA0:=qA ((HA.out.below hbl).mono hbl.size)
 go_upto_region 2 with(fail)
 go_loopw [8] (fun v wr=>∃ k:Nat,v = .int .i64 k∧k≤N∧Below wa.heap.size wa wr∧Hid (Cy (isS seq) (l.drop k) k=X)) (fun v _=>N+1 - (intOf v).toNat)
 case atStart=>exact⟨0,rfl,Nat.zero_le _,qB _ _,HX⟩
 case round=>
  clear HX
  obtain⟨k,rfl,hk,hb,Hk⟩:=hrel
  by_cases hlt:k<N
  ·have hk':k<l.length:=by rw [←HN.out];exact hlt
   obtain⟨b,o,rfl,hgB,c0,c1⟩:=(hA0.out.below hb).at_ hk'
   have hd:=Ik (isS seq) l hk' (k:Int)
   have hBr:=hB.ext hb
   generalize l[k]'hk'=s at *
   obtain⟨sq,dn⟩:=s
   dsimp only at c0 c1
   have z1:b<wr.heap.size:=qE hgB hb.size
   by_cases hs:isS seq ⟨sq,dn⟩=true
   ·obtain⟨rfl,rfl⟩:sq=seq∧dn=false:=by unfold isS at hs;simpa using hs
    have Hd:Hid ((k:Int)=X):=qA (by rw [if_pos hs] at hd;rw [←Hk.out,hd])
    have e1:(sq==sq)=true:=by simp
    clear hd Hk hs
    go_upto_region 4 with(fail)
    refine Aw (by kernel_rfl) (by kernel_rfl) ?_
    repeat'(first
     |refine Bt rfl ?_
     |(refine' Bh _ (fun wq hwq K hK=>?_) ?_ ?_;rotate_left 1;(· have k0:=hwq.at_ z1 c0;have k1:=hwq.at_ z1 c1;have q0:wq.cell? ⟨w.heap.size,0,none⟩=some (.int .i64 sq):=(hBr.ext hwq).cell 0;have q1:wq.cell? ⟨w.heap.size,1,none⟩=some (.bool false):=(hBr.ext hwq).cell 1;go_wp2_with(fail);all_goals exact hK _ hwq);rfl)
     |((first | refine Bj rfl rfl rfl ?_ ?_ | refine Bi rfl rfl rfl ?_ ?_)<;>intro hc<;>first | (cases hc;done) | ((try cases hc);simp only [Act.put,sA,sS,sZ]))
     |refine Bl rfl rfl rfl ?_)
    all_goals
     refine Ck ?_
     intro w9 hw9
     go_wp2
     go_ret
     exact⟨by rw [←Hd.out];rfl,hbl.trans ((hb.trans (hw9.mono hb.size)).mono hbl.size)⟩
   ·have Hd:Hid (Cy (isS seq) (l.drop (k+1)) ((k+1:Nat):Int)=X):=qA (by rw [if_neg hs] at hd;rw [←Hk.out,hd];rfl)
    have hne:sq=seq→dn=true:=fun e=>by
     subst e
     cases dn with
     |true=>rfl
     |false=>exact absurd (by unfold isS;simp) hs
    clear hd Hk hs
    by_cases hq:sq=seq
    ·obtain rfl:=hne hq
     subst hq
     clear hne
     have e1:(sq==sq)=true:=by simp
     go_upto_region 4 with(fail)
     refine Aw (by kernel_rfl) (by kernel_rfl) ?_
     repeat'(first
      |refine Bt rfl ?_
      |(refine' Bh _ (fun wq hwq K hK=>?_) ?_ ?_;rotate_left 1;(· have k0:=hwq.at_ z1 c0;have k1:=hwq.at_ z1 c1;have q0:wq.cell? ⟨w.heap.size,0,none⟩=some (.int .i64 sq):=(hBr.ext hwq).cell 0;have q1:wq.cell? ⟨w.heap.size,1,none⟩=some (.bool false):=(hBr.ext hwq).cell 1;go_wp2_with(fail);all_goals exact hK _ hwq);rfl)
      |((first | refine Bj rfl rfl rfl ?_ ?_ | refine Bi rfl rfl rfl ?_ ?_)<;>intro hc<;>first | (cases hc;done) | ((try cases hc);simp only [Act.put,sA,sS,sZ]))
      |refine Bl rfl rfl rfl ?_)
     all_goals
      refine Ck ?_
      intro w9 hw9
      go_wp2
      go_roundw
      case rel=>exact⟨k+1,by go_num,by omega,hb.trans (hw9.mono hb.size),Hd⟩
      case measure=>simp [intOf];omega
    ·have e1:(seq==sq)=false:=by simp;omega
     clear hne hq
     go_upto_region 4 with(fail)
     refine Aw (by kernel_rfl) (by kernel_rfl) ?_
     repeat'(first
      |refine Bt rfl ?_
      |(refine' Bh _ (fun wq hwq K hK=>?_) ?_ ?_;rotate_left 1;(· have k0:=hwq.at_ z1 c0;have k1:=hwq.at_ z1 c1;have q0:wq.cell? ⟨w.heap.size,0,none⟩=some (.int .i64 seq):=(hBr.ext hwq).cell 0;have q1:wq.cell? ⟨w.heap.size,1,none⟩=some (.bool false):=(hBr.ext hwq).cell 1;go_wp2_with(fail);all_goals exact hK _ hwq);rfl)
      |((first | refine Bj rfl rfl rfl ?_ ?_ | refine Bi rfl rfl rfl ?_ ?_)<;>intro hc<;>first | (cases hc;done) | ((try cases hc);simp only [Act.put,sA,sS,sZ]))
      |refine Bl rfl rfl rfl ?_)
     all_goals
      refine Ck ?_
      intro w9 hw9
      go_wp2
      go_roundw
      case rel=>exact⟨k+1,by go_num,by omega,hb.trans (hw9.mono hb.size),Hd⟩
      case measure=>simp [intOf];omega
  ·obtain rfl:k=N:=by omega
   have e1:decide ((k:Int)<k)=false:=by simp
   have Hd:Hid ((-1:Int)=X):=qA (by rw [←Hk.out,HN.out,List.drop_length];rfl)
   clear Hk
   go_wp2
   go_ret
   exact⟨by rw [←Hd.out];rfl,hbl.trans (hb.mono hbl.size)⟩
def P8 (w:World) (l:List Slt) (seq:Int) (e:Ending) (w':World):Prop:=
 Below w.heap.size w w'∧match Ii l seq with
   |none=>e = .returned (.tuple #[.slice none 0 0, .bool false])
   |some k=>∃ v,e = .returned (.tuple #[v, .bool true])∧Fu w k v w'
theorem Afs (l:List Slt) (seq:Int):Ii l seq=(if Cy (isS seq) l 0<0 then none else some (l.set (Cy (isS seq) l 0).toNat ⟨seq,true⟩)):=Afr l seq
theorem Ahi (A:Option Addr) (cap:Nat) (l:List Slt) (seq:Int) (w:World) (hl:l.length*16≤140737488351232) (hA:Cm w w.heap.size A l) (hnil:A=none→l=[]∧cap=0) :
  Calls Tryz.prog 98 #[.slice A l.length cap, .int .i64 seq] w (P8 w l seq):=by
 have CI:=qA (fun W hW=>Af7 A cap l seq W (by omega) hW)
 have hx:=Afs l seq
 rcases E5 (isS seq) l 0 with⟨h1,_⟩ | ⟨j,s,h1,h2,h3,_⟩
 ·have h1':Cy (isS seq) l 0 = -1:=h1
  rw [h1'] at CI hx
  rw [if_pos (by omega)] at hx
  have HX:=qA hx
  clear hx h1 h1'
  generalize l.length=N at *
  go_enter Tryz.func98,Tryz.ntmps98
  go_wp2_with(go_at_call 136;(with_reducible refine(CI.out _ hA).mono ?_);rintro e w2 ⟨rfl,hb2⟩)
  go_ret2
  refine⟨hb2,?_⟩
  rw [HX.out]
  rfl
 ·have h1':Cy (isS seq) l 0=(j:Int):=by simpa using h1
  rw [h1'] at CI hx
  rw [if_neg (by omega),Int.toNat_natCast] at hx
  obtain rfl:s=⟨seq,false⟩:=by unfold isS at h3;simpa using h3
  have hj:j<l.length:=(qJ.1 h2).1
  have hset:=Ado l j seq h2
  have HX:=qA hx
  have HS:=qA hset
  have CL:=qA (fun W (hW:Cm W W.heap.size A l)=>Gb A l.length cap (Ay l) W (by omega) (Gl l) (D8 l) hW.cells (fun e=>by rw [(hnil e).1];rfl))
  have hlen:(l.set j ⟨seq,true⟩).length=l.length:=List.length_set
  have HL:=qA hlen
  have hcv:=(Se l j _ h2).2
  clear hx h1 h1' hset h2 h3 hlen
  generalize hN:l.length=N at *
  go_enter Tryz.func98,Tryz.ntmps98
  go_upto_region 4 with(go_at_call 136;(with_reducible refine(CI.out _ hA).mono ?_);rintro e w2 ⟨rfl,hb2⟩)
  try go_simp
  have hA2:=(hA.below hb2).mono hb2.size
  go_upto_region 5 with(go_at_call 90;(with_reducible refine(CL.out _ hA2).mono ?_);rintro e w3 ⟨v3,rfl,hown3,hb3⟩)
  try go_simp
  obtain⟨g,c3,hv,hgb,hgl⟩:=hown3.form (by omega)
  subst hv
  have hc:w3.cell? ⟨g,j*2+1,none⟩=some (.bool false):=(hown3.cellAt (j*2+1) (by omega)).trans hcv
  have hfz:=hown3.frozenAt (j*2+1)
  have Hown:=qA hown3
  clear hown3
  go_wp2
  go_ret2
  have e1:=Hown.out.stored (j*2+1) (.bool true)
  have hb9:=(hb2.trans (hb3.mono hb2.size)).setCell (p:=⟨g,j*2+1,none⟩) (by have:=hb2.size;simp;omega) (.bool true)
  refine⟨hb9,?_⟩
  rw [HX.out]
  refine⟨.slice (some ⟨g,0,none⟩) N c3,rfl,?_⟩
  unfold Fu
  rw [HS.out,HL.out]
  exact Q0 e1.1 hb2.size
def Ye:Value→Nat
 |.slice _ n _=>n
 |_=>0
def Ai3 (w:World) (l:List Slt) (most:Int) (e:Ending) (w':World):Prop:=
 Below w.heap.size w w'∧∃ v u,e = .returned (.tuple #[v,u])∧Fu w (l.drop (Dy l most)) v w'∧w'.ownsRow w.heap.size 3 1 u (Dy l most) (((l.take (Dy l most)).map (·.seq)).map (Value.int .i64))
theorem Uz:(Tryz.prog.info? 3).map (fun i=>(i.zero,i.size,i.bytes))=some (some (.int .i64 0),1,8):=by kernel_rfl
theorem Agj (l:List Slt) {k:Nat} (hk:k<l.length) (z:Int):Dy (l.drop k) z=if 0<z∧(l[k]'hk).done=true then 1+Dy (l.drop (k+1)) (z - 1) else 0:=by
 rw [qM hk]
 rfl
theorem Cm.tail {w:World} {B b o:Nat} {s:Slt} {l:List Slt} (h:Cm w B (some ⟨b,o,none⟩) (s::l)):Cm w B (some ⟨b,o+2,none⟩) l:=fun _=>by
 obtain⟨b',o',he,hb,hc⟩:=h (by simp)
 injection he with he
 injection he with h1 h2
 subst h1 h2
 refine⟨b,o+2,rfl,hb,fun j u hj=>?_⟩
 have e:Ay (s::l) = .int .i64 s.seq :: .bool s.done::Ay l:=rfl
 have:=hc (j+1+1) u (by rw [e];simpa using hj)
 rw [show o+2+j=o+(j+1+1) by omega]
 exact this
theorem _root_.Go.World.ownsRow.keptBelow {w w':World} {base:Nat} {e:TypeId} {size:Nat} {v:Value} {n:Nat} {xs:List Value} (h:w.ownsRow base e size v n xs) (hb:Below w.heap.size w w') (_hk:∀ j,v.ownBlock=some j→j<w.heap.size):w'.ownsRow base e size v n xs:=
 ⟨h.1,h.2.imp id fun⟨g,cap,cur,hv,l,hh,r⟩=>⟨g,cap,cur,hv,l,by
  have hg:g<w.heap.size:=(Array.getElem?_eq_some_iff.1 hh).1
  rw [←hh]
  exact hb.block g hg,r⟩⟩
theorem Aj2 (A:Option Addr) (cap:Nat) (l:List Slt) (most:Int) (w:World) (hl:l.length*16≤140737488351232) (hcap:l.length≤cap) (hcm:cap≤9223372036854775807) (hA:Cm w w.heap.size A l) (hnil:A=none→l=[]∧cap=0) :
  Calls Tryz.prog 58 #[.slice A l.length cap, .int .i64 most] w (Ai3 w l most):=by
 obtain⟨N,hN⟩:∃ N,N=l.length:=⟨_,rfl⟩
 have HN:=qA hN
 rw [←hN] at hl hcap ⊢
 have H0:Hid (Cm w w.heap.size A (l.drop 0)∧(A=none→N - 0=0∧cap=0)∧Dy l most=0+Dy (l.drop 0) (most - (0:Nat))):=qA ⟨by simpa using hA,fun e=>⟨by rw [hN,(hnil e).1];rfl,(hnil e).2⟩,by simp⟩
 clear hA hnil hN
 obtain⟨i0,hi,hz0,hz1,hz2⟩:=info_parts Uz
 go_enter Tryz.func58,Tryz.ntmps58
 go_upto_region 2 with(fail)
 go_loopw [0,6] (fun v0 v6 wr=>∃ (k:Nat) (A':Option Addr) (c':Nat) (AI:Option Addr) (cI:Nat),v0 = .slice A' (N - k) c'∧v6 = .slice AI k cI∧k≤N∧N - k≤c'∧c'≤9223372036854775807∧Below w.heap.size w wr∧wr.ownsRow w.heap.size 3 1 (.slice AI k cI) k (((l.take k).map (·.seq)).map (Value.int .i64))∧Hid (Cm w w.heap.size A' (l.drop k)∧(A'=none→N - k=0∧c'=0)∧Dy l most=k+Dy (l.drop k) (most - k))) (fun v0 _ _=>N+1+Ye v0)
 case atStart=>exact⟨0,A,cap,none,0,rfl,rfl,Nat.zero_le _,hcap,hcm,qB _ _,by simpa using qT _ _ _ _,H0⟩
 case round=>
  clear H0
  obtain⟨k,A',c',AI,cI,rfl,rfl,hk,hkc,hcm',hb,hI,Hrel⟩:=hrel
  obtain⟨hS,hn,hp⟩:=Hrel.out
  clear Hrel
  by_cases hlt:k<N∧(k:Int)<most
  ·have hk':k<l.length:=by rw [←HN.out];exact hlt.1
   have hk0:0<(l.drop k).length:=by rw [List.length_drop];omega
   obtain⟨b,o,hAe,hgB,c0,c1⟩:=hS.at_ hk0
   have hq:=Agj l hk' (most - k)
   have hge:(l.drop k)[0]'hk0=l[k]'hk':=by simp
   rw [hge] at c0 c1
   have htk:(l.take (k+1)).map (·.seq)=(l.take k).map (·.seq)++[(l[k]'hk').seq]:=by rw [List.take_succ_eq_append_getElem hk',List.map_append];rfl
   generalize l[k]'hk'=s at *
   obtain⟨sq,dn⟩:=s
   dsimp only at c0 c1 hq htk
   have e1:decide ((k:Int)<most)=true:=qF hlt.2
   have e2:decide (0<N - k)=true:=qF (by omega)
   have z1:b<wr.heap.size:=qE hgB hb.size
   have d0:wr.cell? ⟨b,o,none⟩=some (.int .i64 sq):=(hb.cell (p:=⟨b,o,none⟩) hgB).trans (by simpa using c0)
   have d1:wr.cell? ⟨b,o+1,none⟩=some (.bool dn):=(hb.cell (p:=⟨b,o+1,none⟩) hgB).trans (by simpa using c1)
   clear c0 c1 hge
   subst hAe
   cases dn with
   |true=>
    have HQ:Hid (Dy l most=(k+1)+Dy (l.drop (k+1)) (most - ((k+1:Nat):Int))):=qA (by
     rw [hp,hq,if_pos ⟨by omega,rfl⟩,show most - (k:Int) - 1=most - ((k+1:Nat):Int) by omega]
     omega)
    have HS:=qA hS
    have HT:=qA htk
    have hk1:k<N:=hlt.1
    clear hp hq hS htk hn hlt
    go_upto_region 4 with(at_builtin;refine B0 rfl (.tmp 22) (.tmp 27) 32 rfl w.heap.size 3 i0 _ 1 8 Tryz.underlying32 hi hz0 hz1 hz2 rfl (by decide) (.slice AI k cI) k _ rfl (hI.alloc _) (some ⟨wr.heap.size,0,none⟩) 1 1 [.int .i64 sq] rfl rfl (fun h=>by cases h) (H8 wr _ _) (by simp;rfl) (by unfold maxLen;omega) (by omega) (by have:=hb.size;simp;omega) ?_;intro v7 w7 hown7 hg7)
    try go_simp
    have b1:1≤N - k:=by omega
    have b2:decide ((N - k:Nat)<1)=false:=qG (by omega)
    obtain⟨A7,c7,rfl⟩:=Al hown7
    have hb7:Below w.heap.size w w7:=(hb.alloc hb.size _).grown hg7 (by have:=hb.size;simp;omega) (fun j hj=>(hI.lt j hj).1)
    have hown8:w7.ownsRow w.heap.size 3 1 (.slice A7 (k+1) c7) (k+1) (((l.take (k+1)).map (·.seq)).map (Value.int .i64)):=by
     rw [HT.out,List.map_append]
     exact hown7
    have hS2:Cm w w.heap.size (if c'=1 then some ⟨b,o,none⟩ else some ⟨b,o+2,none⟩) (l.drop (k+1)):=by
     by_cases h1:c'=1
     ·have:l.drop (k+1)=[]:=List.drop_eq_nil_of_le (by rw [←HN.out];omega)
      rw [this]
      exact fun h=>absurd rfl h
     ·rw [if_neg h1]
      have:=HS.out
      rw [qM hk'] at this
      exact this.tail
    have HF:=qA (qL hS2 (qL (show(if c'=1 then some (⟨b,o,none⟩:Addr) else some ⟨b,o+2,none⟩)=none→N - (k+1)=0∧c' - 1=0 from fun e=>by split at e<;>cases e) HQ.out))
    clear hS2 HS hg7 hown7 hI
    have hNk:N - (k+1)=N - k - 1:=by omega
    go_wp2
    go_roundw
    case rel=>exact⟨k+1,_,c' - 1,A7,c7,by rw [hNk],rfl,by omega,by omega,by omega,hb7,hown8,HF.out.imp id id |> qA⟩
    case measure=>simp [Ye];omega
   |false=>
    have hp0:Dy l most=k:=by rw [hp,hq,if_neg (by simp)];omega
    have b1:0<N - k:=by have:=hlt.1;omega
    clear hq htk hlt
    have HP:=qA hp0
    have hSl:(Ay (l.drop k)).length=(N - k)*2:=by rw [Gl,List.length_drop,←HN.out]
    have CL:=qA (fun W (hW:Cm W W.heap.size (some ⟨b,o,none⟩) (l.drop k))=>Gb (some ⟨b,o,none⟩) (N - k) c' (Ay (l.drop k)) W (by omega) hSl (D8 _) hW.cells (fun e=>(hn e).1))
    have hSr:=(hS.below hb).mono hb.size
    clear hp0 hp hS hn hSl
    go_wp2_with(go_at_call 90;(with_reducible refine(CL.out _ hSr).mono ?_);rintro e w5 ⟨v5,rfl,hown5,hb5⟩)
    go_ret2
    refine⟨hb.trans (hb5.mono hb.size),v5, .slice AI k cI,rfl,?_,?_⟩
    ·unfold Fu
     rw [HP.out,List.length_drop,←HN.out]
     exact Q0 hown5 hb.size
    ·rw [HP.out]
     have hk2:∀ j,(Value.slice AI k cI).ownBlock=some j→j<wr.heap.size:=fun j hj=>(hI.lt j hj).2
     exact hI.keptBelow hb5 hk2
  ·by_cases hm:(k:Int)<most
   ·have hkN:k=N:=by omega
    have hp0:Dy l most=k:=by
     rw [hp,List.drop_eq_nil_of_le (by rw [←HN.out];omega)]
     rfl
    have e1:decide ((k:Int)<most)=true:=qF hm
    have e2:decide (0<N - k)=false:=qG (by omega)
    clear hlt hm hkN
    have HP:=qA hp0
    have hSl:(Ay (l.drop k)).length=(N - k)*2:=by rw [Gl,List.length_drop,←HN.out]
    have CL:=qA (fun W (hW:Cm W W.heap.size A' (l.drop k))=>Gb A' (N - k) c' (Ay (l.drop k)) W (by omega) hSl (D8 _) hW.cells (fun e=>(hn e).1))
    have hSr:=(hS.below hb).mono hb.size
    clear hp0 hp hS hn hSl
    go_wp2_with(go_at_call 90;(with_reducible refine(CL.out _ hSr).mono ?_);rintro e w5 ⟨v5,rfl,hown5,hb5⟩)
    go_ret2
    refine⟨hb.trans (hb5.mono hb.size),v5, .slice AI k cI,rfl,?_,?_⟩
    ·unfold Fu
     rw [HP.out,List.length_drop,←HN.out]
     exact Q0 hown5 hb.size
    ·rw [HP.out]
     have hk2:∀ j,(Value.slice AI k cI).ownBlock=some j→j<wr.heap.size:=fun j hj=>(hI.lt j hj).2
     exact hI.keptBelow hb5 hk2
   ·have hp0:Dy l most=k:=by rw [hp,Aih _ (by omega)];omega
    have e1:decide ((k:Int)<most)=false:=qG hm
    clear hlt hm
    have HP:=qA hp0
    have hSl:(Ay (l.drop k)).length=(N - k)*2:=by rw [Gl,List.length_drop,←HN.out]
    have CL:=qA (fun W (hW:Cm W W.heap.size A' (l.drop k))=>Gb A' (N - k) c' (Ay (l.drop k)) W (by omega) hSl (D8 _) hW.cells (fun e=>(hn e).1))
    have hSr:=(hS.below hb).mono hb.size
    clear hp0 hp hS hn hSl
    go_wp2_with(go_at_call 90;(with_reducible refine(CL.out _ hSr).mono ?_);rintro e w5 ⟨v5,rfl,hown5,hb5⟩)
    go_ret2
    refine⟨hb.trans (hb5.mono hb.size),v5, .slice AI k cI,rfl,?_,?_⟩
    ·unfold Fu
     rw [HP.out,List.length_drop,←HN.out]
     exact Q0 hown5 hb.size
    ·rw [HP.out]
     have hk2:∀ j,(Value.slice AI k cI).ownBlock=some j→j<wr.heap.size:=fun j hj=>(hI.lt j hj).2
     exact hI.keptBelow hb5 hk2
def Ai2 (w:World) (l:List Slt) (seq:Int) (e:Ending) (w':World):Prop:=
 Below w.heap.size w w'∧∃ v u,e = .returned (.tuple #[v,u])∧Fu w (Nb l seq) v w'∧w'.ownsRow w.heap.size 3 1 u (Lj l seq).length ((Lj l seq).map (Value.int .i64))
theorem Afe (l:List Slt) (seq:Int) {k:Nat} (hk:k<l.length):Nb (l.take (k+1)) seq=if (l[k]'hk).seq<seq then Nb (l.take k) seq++[l[k]'hk] else Nb (l.take k) seq:=by
 unfold Nb
 rw [List.take_succ_eq_append_getElem hk,List.filter_append]
 by_cases h:(l[k]'hk).seq<seq
 ·rw [if_pos h];simp [h]
 ·rw [if_neg h];simp [h]
theorem Ajl (w:World) (sq:Int) (dn:Bool) (t:TypeId):∀ ad,some (⟨w.heap.size,0,none⟩:Addr)=some ad→∀ j v,(Ay [⟨sq,dn⟩])[j]? = some v→(w.alloc (.cells #[.int .i64 sq, .bool dn] t)).cell? (ad.add j)=some v:=by
 intro ad h j v hj
 cases h
 rw [Addr.add_lit,Nat.zero_add,World.cell?_alloc_new]
 have e:Ay [⟨sq,dn⟩]=[.int .i64 sq, .bool dn]:=rfl
 rw [e] at hj
 simpa using hj
theorem Ex {w:World} {b1 b2:Nat} {e1 e2:TypeId} {s1 s2:Nat} {v1 v2:Value} {n1 n2:Nat} {x1 x2:List Value} (h1:w.ownsRow b1 e1 s1 v1 n1 x1) (h2:w.ownsRow b2 e2 s2 v2 n2 x2) (he:e1≠e2):v1.ownBlock=none∨v1.ownBlock≠v2.ownBlock:=by
 rcases h1.2 with⟨rfl,_⟩ | ⟨g1,c1,cur1,rfl,_,hh1,_⟩
 ·exact Or.inl rfl
 ·rcases h2.2 with⟨rfl,_⟩ | ⟨g2,c2,cur2,rfl,_,hh2,_⟩
  ·right;intro h;cases h
  ·right
   intro h
   have hg:g1=g2:=by simpa [Value.ownBlock] using h
   subst hg
   rw [hh1] at hh2
   injection hh2 with hh2
   injection hh2 with _ hh2
   exact he hh2
theorem Py:166≠3:=by decide
end Go.Proofs.YtapgojgcmlnbgaaGreatDoor
namespace Go.Proofs.YtapgojgcmlnbgaaGreatDoor
open Go.RowKit Go.Sort Go.Lib
theorem swapped {w wr:World} {n blk off:Nat} {dk:Array Int} {i j:Nat} (hi:i<dk.size) (hj:j<dk.size) (hwr:wr=putRow (Value.int .i64) (Sort.ahead w n) blk off dk)
  {x y:Value} (hx:x=Value.int .i64 dk[j]!) (hy:y=Value.int .i64 dk[i]!):((wr.setCell ⟨blk,off+i,none⟩ x).setCell ⟨blk,off+j,none⟩ y).drew=putRow (Value.int .i64) (Sort.ahead w (n+1)) blk off (swp dk i j):=by
 subst hwr;subst hx;subst hy
 rw [putRow_swp (Value.int .i64) _ blk off dk i j hi hj,←ahead_drew]
 rfl
theorem Abo (blk off cap:Nat) (d:Array Int) (w:World) (hH:Holds (Value.int .i64) w blk off d) (hsz:d.size≤9223372036854775807) :
  Calls Tryz.prog 137 #[.slice (some ⟨blk,off,none⟩) d.size cap] w fun e w'=>e = .returned (.tuple #[])∧∃ n,w'=putRow (Value.int .i64) (Sort.ahead w n) blk off d.reverse:=by
 go_enter Tryz.func137,Tryz.ntmps137
 go_wp2
 go_loopg [2,3] d.size (fun k s2 s3 wr=>∃ (i jn:Nat) (jz:Int) (dk:Array Int) (n:Nat),s2 = .int .i64 i∧s3 = .int .i64 jz∧((i:Int)<jz→jz=jn∧jn<d.size)∧(¬ (i:Int)<jz→¬ i<jn)∧jn - i≤k ∧
  dk.size=d.size∧wr=putRow (Value.int .i64) (Sort.ahead w n) blk off dk∧reverseLoop i jn dk=reverseLoop 0 (d.size - 1) d)
 case atStart=>exact⟨0,d.size - 1,(d.size:Int) - 1,d,0,rfl,rfl,fun h=>⟨by omega,by omega⟩,fun h=>by omega,by omega,rfl,(putRow_self (Value.int .i64) w blk off d hH).symm,rfl⟩
 case round=>
  obtain⟨i,jn,jz,dk,n,rfl,rfl,h1,h2,hk,hds,hwr,heq⟩:=hrel
  by_cases hlt:(i:Int)<jz
  ·obtain⟨rfl,hjn⟩:=h1 hlt
   have hij:i<jn:=by omega
   have hHk:Holds (Value.int .i64) wr blk off dk:=by rw [hwr];exact holds_putRow (Value.int .i64) _ blk off d dk (holds_ahead (Value.int .i64) w n blk off d hH) hds
   obtain⟨ci,fi⟩:=hHk i (by omega)
   obtain⟨cj,fj⟩:=hHk jn (by omega)
   have A:Aside (wr=putRow (Value.int .i64) (Sort.ahead w n) blk off dk):=hwr
   clear hwr hHk hH h1 h2
   go_wp2_with fail
   go_region
   go_wp2
   go_roundg (jn - 1 - (i+1))
   case measure=>omega
   case rel=>
    rw [reverseLoop,if_pos hij] at heq
    exact⟨i+1,jn - 1,(jn:Int) - 1,swp dk i jn,n+1,by simp,rfl,fun h=>⟨by omega,by omega⟩,fun h=>by omega,qC _,by rw [size_swp];exact hds,
     swapped (by omega) (by omega) A.out (by first | rfl | simp [getElem!_pos,show jn<dk.size by omega]) (by first | rfl | simp [getElem!_pos,show i<dk.size by omega]),heq⟩
  ·have hnot:=h2 hlt
   go_wp2
   go_end0
   refine⟨rfl,n,?_⟩
   rw [reverseLoop,if_neg hnot] at heq
   rw [←Lib.reverseLoop_reverse,←heq]
theorem Abn (blk off cap:Nat) (zs:List Int) (w:World) (hH:Holds (Value.int .i64) w blk off zs.toArray) (hsz:zs.length≤9223372036854775807) :
  Calls Tryz.prog 137 #[.slice (some ⟨blk,off,none⟩) zs.length cap] w fun e w'=>e = .returned (.tuple #[])∧∃ n,w'=putRow (Value.int .i64) (Sort.ahead w n) blk off zs.reverse.toArray:=by
 have h:=Abo blk off cap zs.toArray w hH (by simpa using hsz)
 simpa using h
theorem Zf (a:Option Addr) (cap:Nat) (w:World) :
  Calls Tryz.prog 137 #[.slice a 0 cap] w fun e w'=>e = .returned (.tuple #[])∧w'=w:=by
 go_enter Tryz.func137,Tryz.ntmps137
 go_wp2
 go_loopg [2,3] 0 (fun _ s2 s3 wr=>s2 = .int .i64 0∧s3 = .int .i64 (-1)∧wr=w)
 case atStart=>exact⟨rfl,rfl,rfl⟩
 case round=>
  obtain⟨rfl,rfl,rfl⟩:=hrel
  go_wp2
  go_end0
  exact⟨rfl,rfl⟩
end Go.Proofs.YtapgojgcmlnbgaaGreatDoor
namespace Go.Proofs.YtapgojgcmlnbgaaGreatDoor
open Go.RowKit
def Sx (l:List Slt) (seq:Int) (k:Nat):List Int:=((l.take k).filter fun s=>decide (seq≤s.seq)).map (·.seq)
theorem Ac3 (l:List Slt) (seq:Int) {k:Nat} (hk:k<l.length):Sx l seq (k+1)=if (l[k]'hk).seq<seq then Sx l seq k else Sx l seq k++[(l[k]'hk).seq]:=by
 unfold Sx
 rw [List.take_succ_eq_append_getElem hk,List.filter_append,List.map_append]
 by_cases h:(l[k]'hk).seq<seq
 ·rw [if_pos h];simp [h]
 ·rw [if_neg h];simp [show seq≤(l[k]'hk).seq by omega]
theorem Af1 (l:List Slt) (seq:Int):(Sx l seq l.length).reverse=Lj l seq:=by
 unfold Sx Lj
 rw [List.take_length]
theorem Abp {w:World} {base:Nat} {v:Value} {n:Nat} {zs:List Int} (h:w.ownsRow base 3 1 v n (zs.map (Value.int .i64))) (hn:n≤9223372036854775807) :
  Calls Tryz.prog 137 #[v] w fun e w'=>e = .returned (.tuple #[])∧w'.ownsRow base 3 1 v n (zs.reverse.map (Value.int .i64))∧w.grownBy w' v.ownBlock:=by
 by_cases hv:v = .slice none 0 0
 ·subst hv
  have h0:n=0:=by
   rcases h.2 with⟨_,h0⟩ | ⟨g,c,cur,e,_⟩
   ·exact h0
   ·cases e
  subst h0
  have hz:zs=[]:=qN (by simpa using h.1)
  subst hz
  refine(Zf none 0 w).mono ?_
  rintro e w' ⟨rfl,rfl⟩
  exact⟨rfl,qT _ _ _ _,⟨rfl,rfl,rfl,qC _,fun _ _ _=>rfl⟩⟩
 ·obtain⟨g,cap,rfl,hbg,_,_,_,hlen,hH⟩:=Lib.holds_of_ownsRow h hv
  have hrev:=Abn g 0 cap zs w hH (by omega)
  rw [hlen] at hrev
  refine hrev.mono ?_
  rintro e w' ⟨rfl,q,rfl⟩
  have hy:zs.reverse.length=n:=by simpa using hlen
  have h1:=Lib.ownsRow_putRow (q:=q) (ys:=zs.reverse) h hy (qC n)
  rw [List.take_of_length_le (Nat.le_of_eq hy)] at h1
  refine⟨rfl,h1,⟨rfl,rfl,rfl,by simp [Sort.putRow,Sort.mapBlock,Sort.ahead],fun k _ hk=>?_⟩⟩
  have hgk:g≠k:=fun e=>hk (by subst e;rfl)
  simp [Sort.putRow,Sort.mapBlock,Sort.ahead,Array.getElem?_modify,hgk]
theorem Aef (A:Option Addr) (cap:Nat) (l:List Slt) (seq:Int) (w:World) (hl:l.length*16≤140737488351232) (hA:Cm w w.heap.size A l) :
  Calls Tryz.prog 99 #[.slice A l.length cap, .int .i64 seq] w (Ai2 w l seq):=by
 obtain⟨N,hN⟩:∃ N,N=l.length:=⟨_,rfl⟩
 have HN:=qA hN
 rw [←hN] at hl ⊢
 have HA:=qA hA
 clear hA hN
 obtain⟨i0,hi,hz0,hz1,hz2⟩:=info_parts Uz
 obtain⟨j0,hj,hy0,hy1,hy2⟩:=info_parts Gw
 go_enter Tryz.func99,Tryz.ntmps99
 go_upto_region 4 with(fail)
 go_loopw [6,7,12] (fun v6 v7 v8 wr=>∃ (k nl no:Nat) (xl xo:List Value) (AL:Option Addr) (cL:Nat) (AO:Option Addr) (cO:Nat),v6 = .slice AL nl cL∧v7 = .slice AO no cO∧v8 = .int .i64 k∧k≤N∧nl≤k∧no≤k∧Below w.heap.size w wr∧wr.ownsRow w.heap.size 166 2 (.slice AL nl cL) nl xl∧wr.ownsRow w.heap.size 3 1 (.slice AO no cO) no xo∧Hid (xl=Ay (Nb (l.take k) seq))∧Hid (xo=(Sx l seq k).map (Value.int .i64))) (fun _ _ v8 _=>N+1 - (intOf v8).toNat)
 case atStart=>exact⟨0,0,0,[],[],none,0,none,0,rfl,rfl,rfl,Nat.zero_le _,qC _,qC _,qB _ _,qT _ _ _ _,qT _ _ _ _,qA rfl,qA rfl⟩
 case round=>
  obtain⟨k,nl,no,xl,xo,AL,cL,AO,cO,rfl,rfl,rfl,hk,hnl,hno,hb,hL,hO,Hxl,Hxo⟩:=hrel
  by_cases hlt:k<N
  ·have hk':k<l.length:=by rw [←HN.out];exact hlt
   obtain⟨b,o,hAe,hgB,c0,c1⟩:=(HA.out.below hb).at_ hk'
   have hcl:=Afe l seq hk'
   have hgk:=Ac3 l seq hk'
   generalize l[k]'hk'=s at *
   obtain⟨sq,dn⟩:=s
   dsimp only at c0 c1 hcl hgk
   subst hAe
   clear hk'
   go_upto_region 6 with(fail)
   try go_simp
   refine A1 fun wa hq=>?_
   have hB:Blk wa wr.heap.size 166 #[.int .i64 sq, .bool dn]:=by rw [hq];exact Blk.new wr _ _
   have hbl:Below wr.heap.size wr wa:=by rw [hq];exact(qB _ _).alloc (qC _) _
   clear hq c0 c1
   have hLa:=hL.keptBelow hbl (fun j hj=>(hL.lt j hj).2)
   have hOa:=hO.keptBelow hbl (fun j hj=>(hO.lt j hj).2)
   have hba:Below w.heap.size w wa:=hb.trans (hbl.mono hb.size)
   have c0:wa.cell? ⟨wr.heap.size,0,none⟩=some (.int .i64 sq):=hB.cell 0
   have c1:wa.cell? ⟨wr.heap.size,1,none⟩=some (.bool dn):=hB.cell 1
   clear hB hbl hL hO
   by_cases h1:sq<seq
   ·rw [if_pos h1] at hcl hgk
    have e1:decide (sq<seq)=true:=qF h1
    have HL1:=qA hcl
    have HO1:=qA hgk
    clear hcl hgk h1
    go_wp2_with(at_builtin;refine B0 rfl (.tmp 20) (.tmp 22) 82 rfl w.heap.size 166 j0 _ 2 16 Tryz.underlying82 hj hy0 hy1 hy2 rfl (by decide) (.slice AL nl cL) nl xl rfl (hLa.alloc _) (some ⟨wa.heap.size,0,none⟩) 1 1 (Ay [⟨sq,dn⟩]) rfl rfl (fun h=>by cases h) (Ajl wa sq dn _) (D8 _) (by unfold maxLen;omega) (by omega) (by have:=hba.size;simp;omega) ?_;intro v6' w6 hL6 hg6;obtain⟨AL6,cL6,rfl⟩:=Al hL6)
    have hb6:Below w.heap.size w w6:=(hba.alloc hba.size _).grown hg6 (by have:=hba.size;simp;omega) (fun j hj=>(hLa.lt j hj).1)
    have hO6:=(hOa.alloc _).kept hg6 (Ex hOa hLa Py.symm)
    go_roundw
    case rel=>exact⟨k+1,nl+1,no,xl++Ay [⟨sq,dn⟩],xo,AL6,cL6,AO,cO,rfl,rfl,by go_num,by omega,by omega,by omega,hb6,hL6,hO6,qA (by rw [HL1.out,Hxl.out,O9]),qA (by rw [HO1.out,Hxo.out])⟩
    case measure=>simp [intOf];omega
   ·rw [if_neg h1] at hcl hgk
    have e1:decide (sq<seq)=false:=qG h1
    have HL1:=qA hcl
    have HO1:=qA hgk
    clear hcl hgk h1
    go_wp2_with(at_builtin;refine B0 rfl (.tmp 24) (.tmp 27) 32 rfl w.heap.size 3 i0 _ 1 8 Tryz.underlying32 hi hz0 hz1 hz2 rfl (by decide) (.slice AO no cO) no xo rfl (hOa.alloc _) (some ⟨wa.heap.size,0,none⟩) 1 1 [.int .i64 sq] rfl rfl (fun h=>by cases h) (H8 wa _ _) (by simp;rfl) (by unfold maxLen;omega) (by omega) (by have:=hba.size;simp;omega) ?_;intro v7' w7 hO7 hg7;obtain⟨AO7,cO7,rfl⟩:=Al hO7)
    have hb7:Below w.heap.size w w7:=(hba.alloc hba.size _).grown hg7 (by have:=hba.size;simp;omega) (fun j hj=>(hOa.lt j hj).1)
    have hL7:=(hLa.alloc _).kept hg7 (Ex hLa hOa Py)
    go_roundw
    case rel=>exact⟨k+1,nl,no+1,xl,xo++[.int .i64 sq],AL,cL,AO7,cO7,rfl,rfl,by go_num,by omega,by omega,by omega,hb7,hL7,hO7,qA (by rw [HL1.out,Hxl.out]),qA (by rw [HO1.out,Hxo.out,List.map_append];rfl)⟩
    case measure=>simp [intOf];omega
  ·obtain rfl:k=N:=by omega
   have e1:¬ k<k:=by omega
   have Q1:Hid (xl=Ay (Nb l seq)):=qA (by rw [Hxl.out,HN.out,List.take_length])
   have hO2:wr.ownsRow w.heap.size 3 1 (.slice AO no cO) no ((Sx l seq k).map (Value.int .i64)):=by rw [←Hxo.out];exact hO
   have hrev:=Abp hO2 (by omega)
   clear Hxl Hxo
   go_wp2_with(with_reducible refine hrev.mono ?_;rintro e w2 ⟨rfl,hO9,hg9⟩;have hL9:=hL.kept hg9 (Ex hL hO Py);have hb9:=hb.grown hg9 hb.size (fun j hj=>(hO.lt j hj).1);clear hg9)
   rw [HN.out,Af1] at hO9
   go_ret2
   refine⟨hb9, .slice AL nl cL, .slice AO no cO,rfl,?_,?_⟩
   ·unfold Fu
    have hn:nl=(Nb l seq).length:=by have:=hL9.1;rw [Q1.out,Gl] at this;omega
    rw [←hn,←Q1.out]
    exact hL9
   ·have hn:no=(Lj l seq).length:=by have:=hO9.1;rw [List.length_map] at this;omega
    rw [←hn]
    exact hO9
theorem Aba (a:Acc) (w:World):Calls Tryz.prog 154 #[.agg #[.int .i64 a.seq, .bool a.store, .bool a.known, .int .u32 a.at_, .int .i64 a.many, .int .u32 a.data, .bool a.done]] w fun e w'=>e = .returned (.int .u64 (G0 a.many))∧Below w.heap.size w w':=by
 have hb:=(qB w.heap.size w).alloc (qC _) (.cells a.cells 139)
 by_cases h1:a.many<0
 ·have e:G0 a.many=0:=by unfold G0;omega
  rw [e]
  go_enter Tryz.func154,Tryz.ntmps154
  go_wp2
  go_ret
  exact⟨by first | rfl | exact congrArg (fun z:Int=>Ending.returned (.int .u64 z)) (show min (max a.many 0) 4=0 by omega),hb⟩
 ·by_cases h2:4<a.many
  ·have e:G0 a.many=4:=by unfold G0;omega
   rw [e]
   go_enter Tryz.func154,Tryz.ntmps154
   go_wp2
   go_ret
   exact⟨by first | rfl | exact congrArg (fun z:Int=>Ending.returned (.int .u64 z)) (show min (max a.many 0) 4=4 by omega),hb⟩
  ·have e:G0 a.many=a.many:=by unfold G0;omega
   rw [e]
   go_enter Tryz.func154,Tryz.ntmps154
   go_wp2
   go_ret
   exact⟨by first | rfl | exact congrArg (fun z:Int=>Ending.returned (.int .u64 z)) (show min (max a.many 0) 4=a.many by omega),hb⟩
theorem Jk (a:Acc) (p:Int) (w:World) (h0:0≤a.at_) (h1:a.at_≤4294967295) (_h2:0≤p) (_h3:p≤18446744073709551615) :
  Calls Tryz.prog 142 #[.agg #[.int .i64 a.seq, .bool a.store, .bool a.known, .int .u32 a.at_, .int .i64 a.many, .int .u32 a.data, .bool a.done], .int .u64 p] w fun e w'=>e = .returned (.bool (hasB a p))∧Below w.heap.size w w':=by
 have l1:=Aa9 a.many
 have l2:=Qw a.many
 have hb:=(qB w.heap.size w).alloc (qC _) (.cells a.cells 139)
 generalize hx:hasB a p=x
 have Hx:=qA hx
 clear hx
 go_enter Tryz.func142,Tryz.ntmps142
 go_wp2_with fail
 refine Aw (by kernel_rfl) (by kernel_rfl) ?_
 repeat'(first
  |refine Bt rfl ?_
  |(refine' Bh _ (fun wq hwq K hK=>?_) ?_ ?_;rotate_left 1;(· obtain⟨hcq,hfq⟩:=Jg hwq;go_wp2_with(go_at_call 154;refine(Aba a _).mono ?_;rintro e w' ⟨rfl,hb⟩;exact hK _ (hwq.trans (hb.mono hwq.size)));all_goals exact hK _ hwq);rfl)
  |((first | refine Bj rfl rfl rfl ?_ ?_ | refine Bi rfl rfl rfl ?_ ?_)<;>intro hc<;>first | (cases hc;done) | ((try cases hc);simp only [Act.put,sA,sS,sZ]))
  |refine Bl rfl rfl rfl ?_)
 all_goals
  refine Ck ?_
  intro w1 hw1
  go_wp2
  go_ret
  refine⟨?_,hb.trans (hw1.mono (by simp))⟩
  rw [←Hx.out]
  simp [hasB, *]
theorem Qy (s a:Acc) (w:World) (hs:s.Wf) (ha:a.Wf) :
  Calls Tryz.prog 140 #[.agg #[.int .i64 s.seq, .bool s.store, .bool s.known, .int .u32 s.at_, .int .i64 s.many, .int .u32 s.data, .bool s.done], .agg #[.int .i64 a.seq, .bool a.store, .bool a.known, .int .u32 a.at_, .int .i64 a.many, .int .u32 a.data, .bool a.done]] w
   fun e w'=>e = .returned (.bool (Qx s a))∧Below w.heap.size w w':=by
 have l1:=Aa9 s.many
 have l2:=Qw s.many
 have sa0:=hs.at0
 have sa1:=hs.at1
 have aa0:=ha.at0
 have aa1:=ha.at1
 generalize hx:Qx s a=x
 have Hx:=qA hx
 clear hx
 go_enter Tryz.func140,Tryz.ntmps140
 go_wp2_with(go_at_call 154;refine(Aba s _).mono ?_;rintro e w1 ⟨rfl,hb⟩)
 have hbw:=((((qB w.heap.size w).alloc (qC _) (.cells s.cells 139)).alloc (by simp) (.cells a.cells 139))).trans (hb.mono (by simp;omega))
 have hs1:∀ i,w1.cell? ⟨w.heap.size,i,none⟩=s.cells[i]? := fun i=>by
  rw [hb.cell (by simp;omega),World.cell?_alloc_lt _ _ _ (by simp)]
  exact World.cell?_alloc_new w _ _ i
 have ha1:∀ i,w1.cell? ⟨w.heap.size+1,i,none⟩=a.cells[i]? := fun i=>by
  rw [hb.cell (by simp)]
  have:=World.cell?_alloc_new (w.alloc (.cells s.cells 139)) a.cells 139 i
  rwa [World.size_alloc] at this
 have hz:=hb.size
 simp only [World.size_alloc] at hz
 clear hb
 go_loopw [9] (fun v wr=>∃ k:Nat,v = .int .u64 k∧(k:Int)≤G0 s.many∧Below (w.heap.size+2) w1 wr∧Hid (Fb s a (4 - k)=x)) (fun v _=>4 - (intOf v).toNat)
 case atStart=>exact⟨0,rfl,l1,qB _ _,Hx⟩
 case round=>
  obtain⟨k,rfl,hk,hbr,HR⟩:=hrel
  obtain⟨hc,hf⟩:=Jg hbr
  have hzr:=hbr.size
  by_cases hlt:(k:Int)<G0 s.many
  ·have hst:=Wr s a k (by omega)
   have HS:=qA hst
   clear hst
   rcases h1:hasB s (s.at_+k) with _ | _
   ·go_wp2_with(go_at_call 142;refine(Jk s _ _ sa0 sa1 (by omega) (by omega)).mono ?_;rintro e w2 ⟨rfl,hb2⟩;rw [h1])
    go_roundw
    case rel=>exact⟨k+1,by go_num,by omega,hbr.trans (hb2.mono (by omega)),by rw [←HR.out,HS.out,h1];rfl⟩
    case measure=>simp [intOf];omega
   ·rcases h2:hasB a (s.at_+k) with _ | _
    ·go_wp2_with(first
      |(go_at_call 142;((with_reducible refine(Jk s _ _ sa0 sa1 (by omega) (by omega)).mono ?_);rintro e w2 ⟨rfl,hb2⟩;rw [h1];have ha2:∀ i,w2.cell? ⟨w.heap.size+1,i,none⟩=a.cells[i]? := fun i=>by rw [hb2.cell (by simp;omega),hc _ _ (by omega),ha1]))
      |(go_at_call 142;((with_reducible refine(Jk a _ _ aa0 aa1 (by omega) (by omega)).mono ?_);rintro e w3 ⟨rfl,hb3⟩;rw [h2])))
     go_roundw
     case rel=>exact⟨k+1,by go_num,by omega,(hbr.trans (hb2.mono (by omega))).trans (hb3.mono (by have:=hb2.size;omega)),by rw [←HR.out,HS.out,h1,h2];rfl⟩
     case measure=>simp [intOf];omega
    ·go_wp2_with(first
      |(go_at_call 142;((with_reducible refine(Jk s _ _ sa0 sa1 (by omega) (by omega)).mono ?_);rintro e w2 ⟨rfl,hb2⟩;rw [h1];have ha2:∀ i,w2.cell? ⟨w.heap.size+1,i,none⟩=a.cells[i]? := fun i=>by rw [hb2.cell (by simp;omega),hc _ _ (by omega),ha1]))
      |(go_at_call 142;((with_reducible refine(Jk a _ _ aa0 aa1 (by omega) (by omega)).mono ?_);rintro e w3 ⟨rfl,hb3⟩;rw [h2])))
     go_ret
     have e:x=true:=by rw [←HR.out,HS.out,h1,h2];rfl
     rw [e]
     exact⟨rfl,((hbw.trans (hbr.mono (by omega))).trans (hb2.mono (by omega))).trans (hb3.mono (by have:=hb2.size;omega))⟩
  ·go_wp2_with fail
   go_ret
   have e:x=false:=by rw [←HR.out,Y9 s a k (by omega)]
   rw [e]
   exact⟨rfl,hbw.trans (hbr.mono (by omega))⟩
end Go.Proofs.YtapgojgcmlnbgaaGreatDoor
