/- Parts of a proof. -/
import Derived.WalkKit
import Derived.Test.YtapgojgcmlnbgacGreatProg
import Derived.ProofKit
import Derived.OpenShut
import Derived.SizedLaws
import Derived.DeepKeys
import Derived.ChangeArms
import Derived.Still
import Derived.Lib.Hide
import Derived.Laws.AppendOwnNone
import Derived.Deep.AppendLies
import Derived.Laws.Rows
import Derived.Laws.Tables
import Derived.Laws.CopyRow
set_option linter.unusedSimpArgs false
set_option linter.unusedVariables false
set_option maxRecDepth 100000
set_option maxHeartbeats 16000000
namespace Go.Proofs.YtapgojgcmlnbgacGreat
open Go.RowKit
theorem Au {P:Program} {c:Code} {Q:Exit→Act→World→Prop} {a:Act} {w:World} (h:∀ w',w'=w→c.wp P Q a w'):c.wp P Q a w:=h w rfl
theorem Er {a b:Bool} (h:a=b):Ending.returned (.bool a)=Ending.returned (.bool b):=by rw [h]
theorem Ca {k:IntKind} {a b:Int} (h:a=b):Ending.returned (.int k a) = .returned (.int k b):=by rw [h]
theorem Jb {k:IntKind} {a b:Int} {c:Bool} (h:a=b):Ending.returned (.tuple #[.int k a, .bool c]) = .returned (.tuple #[.int k b, .bool c]):=by rw [h]
structure Acc where
 seq:Int
 store:Bool
 known:Bool
 at_:Int
 many:Int
 data:Int
 done:Bool
 deriving DecidableEq
instance:Inhabited Acc:=⟨⟨0,false,false,0,0,0,false⟩⟩
abbrev Acc.cells (a:Acc):Array Value:=#[.int .i64 a.seq, .bool a.store, .bool a.known, .int .u32 a.at_, .int .i64 a.many, .int .u32 a.data, .bool a.done]
abbrev Acc.val (a:Acc):Value := .agg a.cells
structure Acc.Wf (a:Acc):Prop where
 at0:0≤a.at_
 at1:a.at_≤4294967295
 data0:0≤a.data
 data1:a.data≤4294967295
 seq0 : -9223372036854775808≤a.seq
 seq1:a.seq≤9223372036854775807
 many0 : -9223372036854775808≤a.many
 many1:a.many≤9223372036854775807
theorem grownBy_trans {a b c:World} {row:Option Nat} (h:a.grownBy b row) (k:b.grownBy c row):a.grownBy c row:=
 ⟨k.os.trans h.os,k.tape.trans h.tape,k.output.trans h.output,Nat.le_trans h.size k.size,fun i hi hne=>(k.block i (Nat.lt_of_lt_of_le hi h.size) hne).trans (h.block i hi hne)⟩
theorem Bb {w:World} {base:Nat} {e:TypeId} {size:Nat} {v:Value} {n:Nat} {xs:List Value} (h:w.ownsRow base e size v n xs):∃ A c,v = .slice A n c:=by
 rcases h.2 with⟨rfl,rfl⟩ | ⟨g,c,cur,hv,_⟩
 ·exact⟨none,0,rfl⟩
 ·exact⟨_,c,hv⟩
theorem sA {α:Type} (l:List α) (i:Nat) (a:α):l.toArray.setIfInBounds i a=(l.set i a).toArray:=List.setIfInBounds_toArray ..
theorem sS {α:Type} (l:List α) (x:α) (i:Nat) (a:α):(x::l).set (i+1) a=x::l.set i a:=List.set_cons_succ
theorem sZ {α:Type} (l:List α) (x a:α):(x::l).set 0 a=a::l:=List.set_cons_zero
theorem _root_.Go.RowKit.Below.at_ {B:Nat} {W w1:World} (hb:Below B W w1) {b o:Nat} {x:Option Value} (h:b<B) (hc:W.cell? ⟨b,o,none⟩=x):w1.cell? ⟨b,o,none⟩=x:=(hb.cell (p:=⟨b,o,none⟩) h).trans hc
theorem Jc {B:Nat} {W w1:World} (hb:Below B W w1):(∀ b o,b<B→w1.cell? ⟨b,o,none⟩=W.cell? ⟨b,o,none⟩)∧(∀ b o,b<B→w1.frozen? ⟨b,o,none⟩=W.frozen? ⟨b,o,none⟩):=
 ⟨fun b o h=>hb.cell (p:=⟨b,o,none⟩) h,fun b o h=>hb.frozen (p:=⟨b,o,none⟩) h⟩
def N8 (w:World) (g:Nat) (cs:Array Value):Prop:=∀ i,w.cell? ⟨g,i,none⟩=cs[i]?
theorem N8.below {w w':World} {B g:Nat} {cs:Array Value} (h:N8 w g cs) (hb:Below B w w') (hB:g<B):N8 w' g cs:=fun i=>(hb.cell (p:=⟨g,i,none⟩) hB).trans (h i)
theorem N8.new (w:World) (cs:Array Value) (t:TypeId):N8 (w.alloc (.cells cs t)) w.heap.size cs:=fun i=>World.cell?_alloc_new w _ _ i
theorem N8.alloc {w:World} {g:Nat} {cs:Array Value} (h:N8 w g cs) (hg:g<w.heap.size) (o:Obj):N8 (w.alloc o) g cs:=fun i=>(World.cell?_alloc_lt w o ⟨g,i,none⟩ hg).trans (h i)
def Blk (w:World) (g:Nat) (t:TypeId) (cs:Array Value):Prop:=w.heap[g]? = some (.cells cs t (0,0))
theorem Blk.lt {w:World} {g:Nat} {t:TypeId} {cs:Array Value} (h:Blk w g t cs):g<w.heap.size:=by
 rcases Nat.lt_or_ge g w.heap.size with h' | h'
 ·exact h'
 ·unfold Blk at h
  rw [Array.getElem?_eq_none h'] at h
  cases h
theorem Blk.cell {w:World} {g:Nat} {t:TypeId} {cs:Array Value} (h:Blk w g t cs) (i:Nat):w.cell? ⟨g,i,none⟩=cs[i]? := by
 unfold Blk at h
 simp [World.cell?,h]
theorem Blk.frozen {w:World} {g:Nat} {t:TypeId} {cs:Array Value} (h:Blk w g t cs) (i:Nat):w.frozen? ⟨g,i,none⟩=false:=by
 unfold Blk at h
 simp [World.frozen?,h]
theorem Blk.new (w:World) (t:TypeId) (cs:Array Value):Blk (w.alloc (.cells cs t)) w.heap.size t cs:=by
 unfold Blk World.alloc
 simp
theorem Blk.set {w:World} {g:Nat} {t:TypeId} {cs:Array Value} (h:Blk w g t cs) (i:Nat) (u:Value):Blk (w.setCell ⟨g,i,none⟩ u) g t (cs.setIfInBounds i u):=by
 unfold Blk at h ⊢
 simp [World.setCell,Array.getElem?_modify,h]
theorem Blk.far {w:World} {g:Nat} {t:TypeId} {cs:Array Value} (h:Blk w g t cs) {p:Addr} (hp:g≠p.block) (u:Value):Blk (w.setCell p u) g t cs:=(Below.heap_setCell w p u g hp).trans h
theorem Blk.alloc {w:World} {g:Nat} {t:TypeId} {cs:Array Value} (h:Blk w g t cs) (o:Obj):Blk (w.alloc o) g t cs:=(Below.heap_alloc w o g h.lt).trans h
theorem Blk.below {w w':World} {g B:Nat} {t:TypeId} {cs:Array Value} (h:Blk w g t cs) (hb:Below B w w') (hB:g<B):Blk w' g t cs:=(hb.block g hB).trans h
theorem Blk.ext {w w':World} {g:Nat} {t:TypeId} {cs:Array Value} (h:Blk w g t cs) (hb:Below w.heap.size w w'):Blk w' g t cs:=h.below hb h.lt
theorem Blk.grown {w w':World} {g:Nat} {t:TypeId} {cs:Array Value} {row:Option Nat} (h:Blk w g t cs) (hb:w.grownBy w' row) (hg:some g≠row):Blk w' g t cs:=(hb.block g h.lt hg).trans h
def Aq (w:World) (B:Nat) (k:IntKind) (A:Option Addr) (l:List Int):Prop:=
 l≠[]→∃ b o,A=some ⟨b,o,none⟩∧b<B∧∀ (i:Nat) (v:Int),l[i]? = some v→w.cell? ⟨b,o+i,none⟩=some (.int k v)
theorem Aq.below {w w':World} {B:Nat} {k:IntKind} {A:Option Addr} {l:List Int} (h:Aq w B k A l) (hb:Below B w w'):Aq w' B k A l:=fun hne=>by
 obtain⟨b,o,hA,hB,hc⟩:=h hne
 exact⟨b,o,hA,hB,fun i v hi=>(hb.cell (p:=⟨b,o+i,none⟩) hB).trans (hc i v hi)⟩
theorem Aq.mono {w:World} {B B':Nat} {k:IntKind} {A:Option Addr} {l:List Int} (h:Aq w B k A l) (hB:B≤B'):Aq w B' k A l:=fun hne=>by
 obtain⟨b,o,hA,hb,hc⟩:=h hne
 exact⟨b,o,hA,by omega,hc⟩
theorem Aq.at_ {w:World} {B:Nat} {k:IntKind} {A:Option Addr} {l:List Int} (h:Aq w B k A l) {n:Nat} (hn:n<l.length) :
  ∃ b o,A=some ⟨b,o,none⟩∧b<B∧∀ i,i<l.length→w.cell? ⟨b,o+i,none⟩=some (.int k (l.getD i 0)):=by
 obtain⟨b,o,hA,hB,hc⟩:=h (by intro e;simp [e] at hn)
 refine⟨b,o,hA,hB,fun i hi=>?_⟩
 have hg:l[i]? = some l[i]:=List.getElem?_eq_getElem hi
 rw [hc i _ hg]
 simp [List.getD,hg]
theorem Aq.cells {w:World} {B:Nat} {k:IntKind} {A:Option Addr} {l:List Int} (h:Aq w B k A l):∀ ad,A=some ad→∀ j u,(l.map (Value.int k))[j]? = some u→w.cell? (ad.add j)=some u:=by
 intro ad hA j u hu
 have hj:j<l.length:=by have:=(List.getElem?_eq_some_iff.1 hu).1;simpa using this
 obtain⟨b,o,hA',_,hc⟩:=h (by intro e;simp [e] at hj)
 rw [hA] at hA'
 injection hA' with hA'
 subst hA'
 rw [List.getElem?_map] at hu
 obtain⟨x,hx,rfl⟩:=Option.map_eq_some_iff.1 hu
 rw [Addr.add_lit]
 exact hc j x hx
theorem Aq.own {w:World} {base:Nat} {e:TypeId} {k:IntKind} {A:Option Addr} {n cap:Nat} {l:List Int} (h:w.ownsRow base e 1 (.slice A n cap) n (l.map (Value.int k))):Aq w w.heap.size k A l:=by
 intro hne
 have hln:l.length=n:=by simpa using h.1
 rcases h.2 with⟨_,h0⟩ | ⟨g,c,cur,hv,_,hh,_⟩
 ·subst h0
  exact absurd (List.eq_nil_of_length_eq_zero hln) hne
 ·injection hv with hA _ _
  subst hA
  have hlt:g<w.heap.size:=by
   rcases Nat.lt_or_ge g w.heap.size with h' | h'
   ·exact h'
   ·rw [Array.getElem?_eq_none h'] at hh;cases hh
  refine⟨g,0,rfl,hlt,fun i v hi=>?_⟩
  have:=World.ownsRow.cells h (g:=g) rfl i (.int k v) (by simp [hi])
  rwa [Addr.add_lit] at this
theorem Sq {w:World} {base:Nat} {e:TypeId} {k:IntKind} {A:Option Addr} {n cap:Nat} {l:List Int} (h:w.ownsRow base e 1 (.slice A n cap) n (l.map (Value.int k))):A=none→l=[]:=by
 intro hA
 have hln:l.length=n:=by simpa using h.1
 rcases h.2 with⟨_,h0⟩ | ⟨g,c,cur,hv,_⟩
 ·subst h0
  exact List.eq_nil_of_length_eq_zero hln
 ·injection hv with h1 _ _
  rw [hA] at h1
  cases h1
structure Xt (w:World) (b o:Nat) (a:Acc):Prop where
 c0:w.cell? ⟨b,o,none⟩=some (.int .i64 a.seq)
 c1:w.cell? ⟨b,o+1,none⟩=some (.bool a.store)
 c2:w.cell? ⟨b,o+2,none⟩=some (.bool a.known)
 c3:w.cell? ⟨b,o+3,none⟩=some (.int .u32 a.at_)
 c4:w.cell? ⟨b,o+4,none⟩=some (.int .i64 a.many)
 c5:w.cell? ⟨b,o+5,none⟩=some (.int .u32 a.data)
 c6:w.cell? ⟨b,o+6,none⟩=some (.bool a.done)
theorem Xt.below {w w':World} {B b o:Nat} {a:Acc} (h:Xt w b o a) (hb:Below B w w') (hB:b<B):Xt w' b o a:=
 ⟨(hb.cell (p:=⟨b,o,none⟩) hB).trans h.c0,(hb.cell (p:=⟨b,o+1,none⟩) hB).trans h.c1,(hb.cell (p:=⟨b,o+2,none⟩) hB).trans h.c2,(hb.cell (p:=⟨b,o+3,none⟩) hB).trans h.c3,
  (hb.cell (p:=⟨b,o+4,none⟩) hB).trans h.c4,(hb.cell (p:=⟨b,o+5,none⟩) hB).trans h.c5,(hb.cell (p:=⟨b,o+6,none⟩) hB).trans h.c6⟩
def Eh (w:World) (B:Nat) (A:Option Addr) (l:List Acc):Prop:=
 l≠[]→∃ b o,A=some ⟨b,o,none⟩∧b<B∧∀ (k:Nat) (a:Acc),l[k]? = some a→Xt w b (o+k*7) a
theorem Eh.below {w w':World} {B:Nat} {A:Option Addr} {l:List Acc} (h:Eh w B A l) (hb:Below B w w'):Eh w' B A l:=fun hne=>by
 obtain⟨b,o,hA,hB,hc⟩:=h hne
 exact⟨b,o,hA,hB,fun k a hk=>(hc k a hk).below hb hB⟩
theorem Eh.mono {w:World} {B B':Nat} {A:Option Addr} {l:List Acc} (h:Eh w B A l) (hB:B≤B'):Eh w B' A l:=fun hne=>by
 obtain⟨b,o,hA,hb,hc⟩:=h hne
 exact⟨b,o,hA,by omega,hc⟩
theorem Eh.at_ {w:World} {B:Nat} {A:Option Addr} {l:List Acc} (h:Eh w B A l) {k:Nat} (hk:k<l.length) :
  ∃ b o a,A=some ⟨b,o,none⟩∧b<B∧l[k]? = some a∧l.drop k=a::l.drop (k+1)∧a∈l∧Xt w b (o+k*7) a:=by
 obtain⟨b,o,hA,hB,hc⟩:=h (by intro e;simp [e] at hk)
 have hg:l[k]? = some l[k]:=List.getElem?_eq_getElem hk
 exact⟨b,o,l[k],hA,hB,hg,List.drop_eq_getElem_cons hk,List.getElem_mem hk,hc k _ hg⟩
end Go.Proofs.YtapgojgcmlnbgacGreat
namespace Go.Proofs.YtapgojgcmlnbgacGreat
def Bv (len:Nat) (at_ many:Int):Bool:=decide (0<many)&&decide (at_%many=0)&&decide (at_+many≤len)
def B1 (op:Int):Int:=if op=11∨op=14∨op=16 then 1 else if op=12∨op=15∨op=17 then 2 else if op=13∨op=18 then 4 else 0
def E5 (op x0 x1 x2 x3:Int):Int:=
 if op=11 then (if x0<128 then x0 else x0+4294967040)
 else if op=12 then (if x0+256*x1<32768 then x0+256*x1 else x0+256*x1+4294901760)
 else if op=13 then x0+256*x1+65536*x2+16777216*x3
 else if op=14 then x0
 else x0+256*x1
def Ii (m:List Int) (op:Int) (n:Nat):Int:=E5 op (m.getD n 0) (m.getD (n+1) 0) (m.getD (n+2) 0) (m.getD (n+3) 0)
def Cd (m:List Int) (op at_:Int):Int×Bool:=
 if (decide (11≤op)&&decide (op≤15)&&Bv m.length at_ (B1 op))=true then (Ii m op at_.toNat,true) else (0,false)
def Nj (m:List Int) (n:Nat) (w:Int):List Int:=m.set n (w%256)
def Qh (m:List Int) (n:Nat) (w:Int):List Int:=(Nj m n w).set (n+1) (w / 256%256)
def Xe (m:List Int) (n:Nat) (w:Int):List Int:=((Qh m n w).set (n+2) (w / 65536%256)).set (n+3) (w / 16777216%256)
def O4 (m:List Int) (op:Int) (n:Nat) (w:Int):List Int:=if op=16 then Nj m n w else if op=17 then Qh m n w else Xe m n w
def Ga (len:Nat) (op at_:Int):Bool:=decide (16≤op)&&decide (op≤18)&&Bv len at_ (B1 op)
def Bytes (m:List Int):Prop:=∀ b∈m,0≤b∧b≤255
theorem Bytes.getD {m:List Int} (h:Bytes m) (i:Nat):0≤m.getD i 0∧m.getD i 0≤255:=by
 rw [List.getD]
 cases hi:m[i]? with
 |none=>simp
 |some v=>exact h v (List.mem_of_getElem? hi)
theorem Aiq (n:Int):IntKind.i8.wrap n=(n+128)%256 - 128:=by
 simp [IntKind.wrap,IntKind.bits,IntKind.signed]
 split<;>omega
theorem Ahe (n:Int):IntKind.i16.wrap n=(n+32768)%65536 - 32768:=by
 simp [IntKind.wrap,IntKind.bits,IntKind.signed]
 split<;>omega
theorem Gs (x b:Int) (k:Nat) (hk:k≤31) (hx0:0≤x) (hx:x<((2 ^ k:Nat):Int)) (hb0:0≤b) (hb:b*((2 ^ k:Nat):Int)<4294967296):bits .or .u32 x (b*((2 ^ k:Nat):Int))=x+b*((2 ^ k:Nat):Int):=by
 obtain⟨a,rfl⟩:=Int.eq_ofNat_of_zero_le hx0
 obtain⟨c,rfl⟩:=Int.eq_ofNat_of_zero_le hb0
 have ha:a<2 ^ k:=Int.ofNat_lt.mp hx
 have hc:c*2 ^ k<4294967296:=Int.ofNat_lt.mp (by rw [Int.natCast_mul];exact hb)
 have hpow:2 ^ k≤2 ^ 31:=Nat.pow_le_pow_right (by omega) hk
 have h:=Nat.two_pow_add_eq_or_of_lt ha c
 have e:((c:Int)*((2 ^ k:Nat):Int))=((c*2 ^ k:Nat):Int):=by rw [Int.natCast_mul]
 rw [e,u32_or_nat a (c*2 ^ k) (by omega) hc,Nat.or_comm,Nat.mul_comm c,←h]
 omega
theorem or8 (x b:Int) (hx0:0≤x) (hx:x<256) (hb0:0≤b) (hb:b≤255):bits .or .u32 x (b*256)=x+256*b:=by
 have:=Gs x b 8 (by omega) hx0 (by simpa using hx) hb0 (by simp;omega)
 simp at this
 rw [this];omega
theorem Akv (x b:Int) (hx0:0≤x) (hx:x<65536) (hb0:0≤b) (hb:b≤255):bits .or .u32 x (b*65536)=x+65536*b:=by
 have:=Gs x b 16 (by omega) hx0 (by simpa using hx) hb0 (by simp;omega)
 simp at this
 rw [this];omega
theorem Akw (x b:Int) (hx0:0≤x) (hx:x<16777216) (hb0:0≤b) (hb:b≤255):bits .or .u32 x (b*16777216)=x+16777216*b:=by
 have:=Gs x b 24 (by omega) hx0 (by simpa using hx) hb0 (by simp;omega)
 simp at this
 rw [this];omega
theorem or0 (b:Int) (hb0:0≤b) (hb:b≤255):bits .or .u32 0 b=b:=by
 have:=Gs 0 b 0 (by omega) (by omega) (by simp) hb0 (by simp;omega)
 simpa using this
end Go.Proofs.YtapgojgcmlnbgacGreat
namespace Go.Proofs.YtapgojgcmlnbgacGreat
open Go.ChangeShapes Go.WideShapes Go.RowKit
section
variable {H:Type} {enc:TypeId×Value→H} {w:World} {base:Nat} {spare:Nat→Bool} {held:Bool}
theorem R5 {P:Program} {t e:TypeId} {k:IntKind} (ht:P.underlying t=some (.slice e)) (he:P.underlying e=some (.int k)) (hc:P.cellsOf e=1) {fuel:Nat} {a:Option Addr} {len cap:Nat} {x:DataW H×List MemPlace}
  (h:DataW.trod enc P w base spare held fuel t [.slice a len cap]=some x) :
  ∃ l:List Int,l.length=len∧(∀ v∈l,(Lit.int k v).wf=true)∧Aq w w.heap.size k a l∧(a=none→l=[])∧(x.1 = .nil∧len=0∨∃ es sp,x.1 = .slice es sp∧es.length=len):=by
 rcases open_ints ht he hc h with⟨hcs,hx⟩ | ⟨ad,len',cap',zs,hcs,hb,hl,hm,hz,hx,hcell,hwz⟩
 ·simp at hcs
  obtain⟨rfl,rfl,rfl⟩:=hcs
  exact⟨[],rfl,by simp,fun h=>absurd rfl h,fun _=>rfl, .inl ⟨by rw [hx],rfl⟩⟩
 ·simp at hcs
  obtain⟨rfl,rfl,rfl⟩:=hcs
  have hlz:len≤zs.length:=by rw [hz];split<;>omega
  refine⟨zs.take len,by simp;omega,fun v hv=>hwz v (List.mem_of_mem_take hv),?_,(fun h=>by cases h), .inr ⟨_,_,by rw [hx],by simp [lits];omega⟩⟩
  intro hne
  have h0:0<len:=by
   rcases Nat.eq_zero_or_pos len with h0 | h0
   ·subst h0;simp at hne
   ·exact h0
  obtain⟨b,o,s⟩:=ad
  have hc0:=hcell 0 (by omega)
  have hs:s=none:=by simpa [Addr.add] using World.cell?_spot hc0
  subst hs
  refine⟨b,o,rfl,by simpa [Addr.add] using World.block_lt_of_cell? w _ hc0,fun i v hi=>?_⟩
  have hil:i<len:=by
   have:=(List.getElem?_eq_some_iff.1 hi).1
   simp at this
   omega
  have:=hcell i (by omega)
  rw [Addr.add_lit] at this
  rw [this]
  have hv:zs[i]? = some v:=by rw [←hi,List.getElem?_take,if_pos hil]
  simp [List.getD,hv]
theorem Abl {fuel:Nat} {a:Option Addr} {len cap:Nat} {x:DataW H×List MemPlace} (h:DataW.trod enc Tryz.prog w base spare held fuel 28 [.slice a len cap]=some x) :
  ∃ l:List Int,l.length=len∧Bytes l∧Aq w w.heap.size .u8 a l∧(a=none→l=[])∧(x.1 = .nil∧len=0∨∃ es sp,x.1 = .slice es sp∧es.length=len):=by
 obtain⟨l,h1,h2,h3⟩:=R5 Tryz.underlying28 Tryz.underlying5 (by kernel_rfl) h
 exact⟨l,h1,fun v hv=>bounds_u8 (h2 v hv),h3⟩
end
theorem Wm {H:Type} {P:Program} {ts:List TypeId} {ds:List (DataW H)} (h:(DataW.weightsEach P ts ds).all (· ≤ reachBytes)=true) {j:Nat} {t e:TypeId} {d:DataW H} {len nb:Nat} (ht:ts[j]? = some t) (hd:ds[j]? = some d) (hu:P.underlying t=some (.slice e))
  (hb:P.bytesOf e=nb) (hx:d = .nil∧len=0∨∃ es sp,d = .slice es sp∧es.length=len):len*nb≤140737488351232:=by
 rcases hx with⟨_,rfl⟩ | ⟨es,sp,rfl,rfl⟩
 ·omega
 ·have:=sized_slice h ht hd hu
  rw [hb] at this
  have h2:reachBytes=140737488351232:=rfl
  rw [h2] at this
  exact Nat.le_trans (Nat.mul_le_mul_right nb (Nat.le_add_right _ _)) this
end Go.Proofs.YtapgojgcmlnbgacGreat
namespace Go.Proofs.YtapgojgcmlnbgacGreat
open Go
def Ahw:Option IntKind→Value→Prop
 |none,v=>∃ b,v = .bool b
 |some q,v=>∃ n,v = .int q n∧(Lit.int q n).wf=true
def Fits:List (Option IntKind)→List Value→Prop
 |[],[]=>True
 |k::ks,v::vs=>Ahw k v∧Fits ks vs
 |_,_=>False
theorem Fits.length:∀ {ks:List (Option IntKind)} {vs:List Value},Fits ks vs→vs.length=ks.length
 |[],[],_=>rfl
 |_::_,_::_,⟨_,h⟩=>by simp [h.length]
theorem Fits.drop:∀ {ks:List (Option IntKind)} {vs:List Value},Fits ks vs→∀ n,Fits (ks.drop n) (vs.drop n)
 |[],[],_,n=>by simp [Fits]
 |_::_,_::_,h,0=>h
 |_::_,_::_,⟨_,h⟩,n+1=>h.drop n
theorem Fits.take:∀ {ks:List (Option IntKind)} {vs:List Value},Fits ks vs→∀ n,Fits (ks.take n) (vs.take n)
 |[],[],_,n=>by simp [Fits]
 |_::_,_::_,_,0=>by simp [Fits]
 |_::_,_::_,⟨h0,h⟩,n+1=>⟨h0,h.take n⟩
theorem Fits.append:∀ {ks ls:List (Option IntKind)} {vs us:List Value},Fits ks vs→Fits ls us→Fits (ks++ls) (vs++us)
 |[],_,[],_,_,h=>h
 |_::_,_,_::_,_,⟨h0,h⟩,h'=>⟨h0,h.append h'⟩
theorem Fits.mk {ks:List (Option IntKind)}:∀ {vs:List Value},vs.length=ks.length→(∀ (i:Nat) k v,ks[i]? = some k→vs[i]? = some v→Ahw k v)→Fits ks vs:=by
 induction ks with
 |nil=>intro vs hl _;cases vs;exact trivial;cases hl
 |cons k ks ih=>
  intro vs hl h
  cases vs with
  |nil=>cases hl
  |cons v vs=>exact⟨h 0 k v rfl rfl,ih (by simpa using hl) (fun i k' v' h1 h2=>h (i+1) k' v' h1 h2)⟩
theorem Fits.get {ks:List (Option IntKind)}:∀ {vs:List Value},Fits ks vs→∀ (i:Nat) k v,ks[i]? = some k→vs[i]? = some v→Ahw k v:=by
 induction ks with
 |nil=>intro vs h i k v hk;cases hk
 |cons k ks ih=>
  intro vs h i k' v' hk hv
  cases vs with
  |nil=>cases hv
  |cons v vs=>
   obtain⟨h0,h1⟩:=h
   cases i with
   |zero=>simp at hk hv;subst hk hv;exact h0
   |succ i=>exact ih h1 i k' v' hk hv
theorem Fits.set {ks:List (Option IntKind)} {vs:List Value} (h:Fits ks vs) (i:Nat) (k:Option IntKind) (v:Value) (hk:ks[i]? = some k) (hv:Ahw k v):Fits ks (vs.set i v):=
 Fits.mk (by simp [h.length]) fun j k' v' h1 h2=>by
  by_cases hij:i=j
  ·subst hij
   rw [hk] at h1
   cases h1
   have:i<vs.length:=by
    have:=(List.getElem?_eq_some_iff.1 h2).1
    simpa using this
   rw [List.getElem?_set_self this] at h2
   cases h2
   exact hv
  ·rw [List.getElem?_set_ne hij] at h2
   exact h.get j k' v' h1 h2
section
variable (P:Program)
def Rr:Nat→TypeId→List (Option IntKind)→Bool
 |0,_,_=>false
 |d+1,t,ks=>
  match P.underlying t with
  |some .bool=>ks==[none]
  |some (.int q)=>ks==[some q]
  |some (.array n e)=>ks.length==P.cellsOf t&&(List.range n).all fun i=>Rr d e ((ks.drop (i*P.cellsOf e)).take (P.cellsOf e))
  |some (.struct fs) => ks.length == P.cellsOf t && fs.all (·.name != "_") && fs.toList.all fun f => Rr d f.type ((ks.drop f.offset).take (P.cellsOf f.type))
  |_=>false
end
theorem mapM_some {α β:Type} {f:α→Option β}:∀ {l:List α},(∀ x∈l,∃ y,f x=some y)→∃ ys,l.mapM f=some ys
 |[],_=>⟨[],rfl⟩
 |x::l,h=>by
  obtain⟨y,hy⟩:=h x (by simp)
  obtain⟨ys,hys⟩:=mapM_some (l:=l) fun z hz=>h z (by simp [hz])
  exact⟨y::ys,by simp [List.mapM_cons,hy,hys]⟩
theorem L4 {P:Program}:∀ (d:Nat) (t:TypeId) (ks:List (Option IntKind)) (vs:List Value),Rr P d t ks=true→Fits ks vs→∃ la,P.keyLits d t vs=some la
 |0,_,_,_,h,_=>by simp [Rr] at h
 |d+1,t,ks,vs,h,hf=>by
  unfold Rr at h
  unfold Program.keyLits
  cases hu:P.underlying t with
  |none=>rw [hu] at h;simp at h
  |some kd=>
   rw [hu] at h
   cases kd<;>simp only [Bool.false_eq_true] at h
   case bool=>
    simp at h
    subst h
    match vs,hf with
    |[v],⟨⟨b,hb⟩,_⟩=>subst hb;exact⟨_,rfl⟩
   case int q=>
    simp at h
    subst h
    match vs,hf with
    |[v],⟨⟨n,hn,hw⟩,_⟩=>subst hn;exact⟨[.int q n],by simp [hw]⟩
   case array n e=>
    simp only [Bool.and_eq_true,beq_iff_eq,List.all_eq_true] at h
    have hl:vs.length=P.cellsOf t:=by rw [hf.length,h.1]
    obtain⟨ys,hys⟩:=mapM_some (l:=List.range n) (f:=fun i=>P.keyLits d e ((vs.drop (i*P.cellsOf e)).take (P.cellsOf e))) fun i hi=>L4 d e _ _ (h.2 i hi) ((hf.drop _).take _)
    refine⟨ys.flatten,?_⟩
    simp only [hl,if_true,hys,Option.map_some]
   case struct fs=>
    simp only [Bool.and_eq_true,beq_iff_eq,List.all_eq_true] at h
    have hl:vs.length=P.cellsOf t:=by rw [hf.length,h.1.1]
    obtain⟨ys,hys⟩:=mapM_some (l:=fs.toList) (f:=fun f=>P.keyLits d f.type ((vs.drop f.offset).take (P.cellsOf f.type))) fun f hi=>L4 d f.type _ _ (h.2 f hi) ((hf.drop _).take _)
    refine⟨ys.flatten,?_⟩
    have hn:=h.1.2
    simp only [hl,hn,and_self,if_true,hys,Option.map_some]
theorem Yu {P:Program} {t:TypeId} {cs:Array Value} {m:Nat} {ks:List (Option IntKind)} (w:World) (hk:P.keyTypeAt m t=true) (hm:m≤10000) (hf:(Value.agg cs).formed P t=true) {d:Nat} (hb:Rr P d t ks=true)
  (h:Fits ks cs.toList):(binOp .eql t (.agg cs) (.agg cs)).run P w = .ok (.bool true) w:=by
 obtain⟨la,hla⟩:=L4 d t ks cs.toList hb h
 obtain⟨r,hr,hiff⟩:=run_equalIn_deep (P:=P) (10000 - m) m t hk w d d (.agg cs) (.agg cs) la la hf hf hla hla
 rw [run_eql_struct,show 10000=10000 - m+m by omega,hr,hiff.2 rfl]
 rfl
theorem Og {P:Program} {t:TypeId} {cs:Array Value} {fs:Array Field} {n:Nat} (hu:P.underlying t=some (.struct fs)) (hc:P.cellsOf t=n) (hs:cs.size=n):(Value.agg cs).formed P t=true:=by
 simp [Value.formed,hu,hc,hs]
theorem R9 {P:Program} {o:Oper} {a:Act} {w:World} {K:Act→World→Prop} {Q:Exit→Act→World→Prop} (t:TypeId) (x y:Operand) (r:TypeId) (ho:o.op = .binOp .eql t x y r) (cs:Array Value) (hx:a.eval x = .agg cs) (hy:a.eval y = .agg cs)
  (hg:P.eqGuardType P.depth t=false) (hs:(binOp .eql t (.agg cs) (.agg cs)).run P w = .ok (.bool true) w) (hk:K (a.put o.dst (.bool true)) w):o.wp P a w K Q:=by
 have hq:=run_eqGuard_agg (P:=P) (w:=w) .eql t x y cs cs hg
 unfold Oper.wp execOp
 simp only [ho,hx,hy,hs,hq,Sem.run_bind,Sem.run_pure,Result.andThen_ok]
 exact hk
def Zo (P:Program):Nat→TypeId→List (Option IntKind)→Bool
 |0,_,_=>false
 |d+1,t,ks=>
  match P.underlying t with
  |some .bool=>ks==[none]
  |some (.int q)=>ks==[some q]
  |some (.array n e)=>ks.length==P.cellsOf t&&P.cellsOf t==n*P.cellsOf e&&(List.range n).all fun i=>Zo P d e ((ks.drop (i*P.cellsOf e)).take (P.cellsOf e))
  |some (.struct fs)=>ks.length==P.cellsOf t&&(List.range (P.cellsOf t)).all (fun j=>fs.toList.any fun f=>decide (f.offset≤j)&&decide (j<f.offset+P.cellsOf f.type)) &&
    fs.toList.all fun f=>Zo P d f.type ((ks.drop f.offset).take (P.cellsOf f.type))
  |_=>false
section
variable {H:Type} {enc:TypeId×Value→H} {P:Program} {w:World} {base:Nat} {spare:Nat→Bool} {held:Bool}
theorem N3:∀ (d:Nat) (t:TypeId) (ks:List (Option IntKind)) (fuel:Nat) (cs:List Value) (x:DataW H×List MemPlace),Zo P d t ks=true→DataW.trod enc P w base spare held fuel t cs=some x→Fits ks cs
 |0,_,_,_,_,_,h,_=>by simp [Zo] at h
 |d+1,t,ks,fuel,cs,x,h,ht=>by
  unfold Zo at h
  cases hu:P.underlying t with
  |none=>rw [hu] at h;simp at h
  |some kd=>
   rw [hu] at h
   cases kd<;>simp only [Bool.false_eq_true] at h
   case bool=>
    simp at h
    subst h
    obtain⟨b,rfl,_⟩:=DataW.trod_bool hu ht
    exact⟨⟨b,rfl⟩,trivial⟩
   case int q=>
    simp at h
    subst h
    obtain⟨n,rfl,_,hw⟩:=DataW.trod_int hu ht
    exact⟨⟨n,rfl,hw⟩,trivial⟩
   case array n e=>
    simp only [Bool.and_eq_true,beq_iff_eq,List.all_eq_true] at h
    obtain⟨⟨hl,hc⟩,hall⟩:=h
    obtain⟨xs,m,_,_,hcs,hxs,hi⟩:=DataW.trod_array hu ht
    refine Fits.mk (by omega) fun i k v hk hv=>?_
    have hin:i<n*P.cellsOf e:=by have:=(List.getElem?_eq_some_iff.1 hv).1;omega
    have hpos:0<P.cellsOf e:=by
     rcases Nat.eq_zero_or_pos (P.cellsOf e) with h0 | h0
     ·rw [h0] at hin;simp at hin
     ·exact h0
    have hq:i / P.cellsOf e<n:=(Nat.div_lt_iff_lt_mul hpos).2 hin
    have hm:=Nat.mod_lt i hpos
    have hdm:=Nat.div_add_mod' i (P.cellsOf e)
    have hx:=hi (i / P.cellsOf e) hq
    rw [List.getElem?_eq_getElem (by omega)] at hx
    have hf:=N3 d e _ m _ _ (hall (i / P.cellsOf e) (List.mem_range.2 hq)) hx
    refine hf.get (i%P.cellsOf e) k v ?_ ?_
    ·rw [List.getElem?_take,if_pos hm,List.getElem?_drop,hdm];exact hk
    ·rw [List.getElem?_take,if_pos hm,List.getElem?_drop,hdm];exact hv
   case struct fs=>
    simp only [Bool.and_eq_true,beq_iff_eq,List.all_eq_true] at h
    obtain⟨⟨hl,hc⟩,hall⟩:=h
    obtain⟨xs,m,_,_,hcs,hxs,hi⟩:=DataW.trod_struct hu ht
    refine Fits.mk (by omega) fun i k v hk hv=>?_
    have hin:i<P.cellsOf t:=by have:=(List.getElem?_eq_some_iff.1 hv).1;omega
    have hcov:=hc i (List.mem_range.2 hin)
    rw [List.any_eq_true] at hcov
    obtain⟨f,hf,hb⟩:=hcov
    simp only [Bool.and_eq_true,decide_eq_true_eq] at hb
    obtain⟨j,hj,hfj⟩:=List.getElem_of_mem hf
    have hj':j<fs.size:=by simpa using hj
    have hfe:fs[j]? = some f:=by
     rw [Array.getElem?_eq_getElem hj']
     simpa using hfj
    have hx:=hi j f hfe
    rw [List.getElem?_eq_getElem (by omega)] at hx
    have hff:=N3 d f.type _ m _ _ (hall f hf) hx
    refine hff.get (i - f.offset) k v ?_ ?_
    ·rw [List.getElem?_take,if_pos (by omega),List.getElem?_drop,show f.offset+(i - f.offset)=i by omega];exact hk
    ·rw [List.getElem?_take,if_pos (by omega),List.getElem?_drop,show f.offset+(i - f.offset)=i by omega];exact hv
end
section
variable {P:Program} {ops:Array Oper}
def Lk (o:Oper):Nat:=o.after.toList.foldl (fun s e=>if Region.binds .any e then s ||| 2 ^ e.on else s) 0
theorem Xd (l:List Edge):∀ (s b:Nat),(l.foldl (fun s e=>if Region.binds .any e then s ||| 2 ^ e.on else s) s).testBit b=true →
  s.testBit b=true∨∃ e∈l,Region.binds .any e=true∧e.on=b:=by
 induction l with
 |nil=>intro s b h;exact .inl h
 |cons e l ih=>
  intro s b h
  rw [List.foldl_cons] at h
  rcases ih _ b h with h1 | ⟨e',he',h2⟩
  ·by_cases hb:Region.binds .any e=true
   ·rw [if_pos hb,Nat.testBit_or,Bool.or_eq_true] at h1
    rcases h1 with h1 | h1
    ·exact .inl h1
    ·rw [Nat.testBit_two_pow] at h1
     exact .inr ⟨e,List.mem_cons_self,hb,of_decide_eq_true h1⟩
   ·rw [if_neg hb] at h1
    exact .inl h1
  ·exact .inr ⟨e',List.mem_cons_of_mem _ he',h2⟩
theorem Ky {o:Oper} {b:Nat} (h:(Lk o).testBit b=true):∃ e∈o.after,Region.binds .any e=true∧e.on=b:=by
 rcases Xd _ _ _ h with h1 | ⟨e,he,h2⟩
 ·simp at h1
 ·exact⟨e,by simpa using he,h2⟩
def K9 (ops:Array Oper):Nat→Nat→Nat
 |0,m=>m
 |i+1,m=>K9 ops i (if m.testBit i then m ||| ((ops[i]?).map Lk).getD 0 else m)
def Ac2 (ops:Array Oper) (j:Nat):Bool:=(K9 ops j (((ops[j]?).map Lk).getD 0)) &&& (2 ^ j - 1)==2 ^ j - 1
def Down (ops:Array Oper) (listed:Array Bool):Prop:=
 ∀ i o,ops[i]? = some o→listed.getD i false=true→∀ e∈o.after,Region.binds .any e=true→listed.getD e.on false=true
theorem La {listed:Array Bool} (hd:Down ops listed):∀ (i m:Nat),(∀ b,m.testBit b=true→listed.getD b false=true) →
  ∀ b,(K9 ops i m).testBit b=true→listed.getD b false=true:=by
 intro i
 induction i with
 |zero=>intro m h b hb;exact h b hb
 |succ i ih=>
  intro m h b hb
  unfold K9 at hb
  refine ih _ ?_ b hb
  intro c hc
  by_cases hi:m.testBit i=true
  ·rw [if_pos hi,Nat.testBit_or,Bool.or_eq_true] at hc
   rcases hc with hc | hc
   ·exact h c hc
   ·cases ho:ops[i]? with
    |none=>simp [ho] at hc
    |some o=>
     simp only [ho,Option.map_some,Option.getD_some] at hc
     obtain⟨e,he,hb,rfl⟩:=Ky hc
     exact hd i o ho (h i hi) e he hb
  ·rw [if_neg hi] at hc
   exact h c hc
theorem Z7 {listed:Array Bool} {j:Nat} (hd:Down ops listed) (hs:Ac2 ops j=true) (hr:j∈Region.ready .any ops listed) :
  ∀ i,i<j→listed.getD i false=true:=by
 intro i hi
 obtain⟨_,o,ho,hall⟩:=mem_ready.1 hr
 unfold Ac2 at hs
 rw [ho,Option.map_some,Option.getD_some] at hs
 have hs':=eq_of_beq hs
 refine La hd j (Lk o) ?_ i ?_
 ·intro b hm
  obtain⟨e,he,hb,rfl⟩:=Ky hm
  exact hall e he hb
 ·have h1:(2 ^ j - 1).testBit i=true:=by rw [Nat.testBit_two_pow_sub_one];simpa using hi
  rw [←hs',Nat.testBit_and,Bool.and_eq_true] at h1
  exact h1.1
theorem Down.set {listed:Array Bool} {j:Nat} (hd:Down ops listed) (hr:j∈Region.ready .any ops listed):Down ops (listed.setIfInBounds j true):=by
 intro i o ho hl e he hb
 by_cases hij:j=i
 ·subst hij
  obtain⟨_,o',ho',hall⟩:=mem_ready.1 hr
  rw [ho] at ho'
  cases ho'
  exact getD_set_true (hall e he hb)
 ·rw [getD_set_ne false hij] at hl
  exact getD_set_true (hd i o ho hl e he hb)
def QOk (P:Program) (o:Oper) (a:Act) (C:World→Prop) (v:Value):Prop:=
 ∀ w,C w→o.wp P a w (fun a' w'=>a'=a.put o.dst v∧C w') (fun _ _ _=>False)
def opM (P:Program) (ops:Array Oper) (Q:Exit→Act→World→Prop) (i:Nat) (K:Act→(World→Prop)→Prop) (a:Act) (C:World→Prop):Prop:=
 ∃ o,ops[i]? = some o ∧
  ((Region.wanted o (yielded ops a.tmps)=true∧((∃ v,QOk P o a C v∧K (a.put o.dst v) C) ∨
   (Ac2 ops i=true∧∀ w,C w→o.wp P a w (fun a' w'=>∃ C',C' w'∧K a' C') Q))) ∨
   (Region.wanted o (yielded ops a.tmps)=false∧K (a.put o.dst undef) C))
def Pg (P:Program) (ops:Array Oper) (Q:Exit→Act→World→Prop):Nat→Array Bool→Act→(World→Prop)→Prop
 |0,listed,a,C=>Region.ready .any ops listed=[]∧∀ w,C w→Q .normal a w
 |fuel+1,listed,a,C=>
  (Region.ready .any ops listed=[]→∀ w,C w→Q .normal a w) ∧
  ∀ i∈Region.ready .any ops listed,opM P ops Q i (fun a' C'=>Pg P ops Q fuel (listed.setIfInBounds i true) a' C') a C
theorem Ic {o:Oper} {a:Act} {w:World} {K:Act→World→Prop} {Q:Exit→Act→World→Prop} (h:o.wp P a w K (fun _ _ _=>False)):o.wp P a w K Q:=by
 unfold Oper.wp at *
 generalize (execOp a.eval o).run P w=r at *
 cases r with
 |ok n w'=>
  cases n<;>simp only [Oper.upon] at h ⊢<;>try exact h
  refine Calls.mono h fun e w'' he=>?_
  cases e with
  |returned v=>exact he
  |panicked c=>exact he.elim
  |outgrown=>obtain⟨_,_,h⟩:=he;exact h.elim
 |halt x w'=>cases x<;>simp only [Oper.upon] at h
theorem Acj {Q:Exit→Act→World→Prop}:∀ (fuel:Nat) (listed:Array Bool) (a:Act) (C:World→Prop) (w:World),C w →
  Pg P ops Q fuel listed a C→wpAny P .any ops Q fuel listed a w:=by
 intro fuel
 induction fuel with
 |zero=>intro listed a C w hC h;exact⟨h.1,h.2 w hC⟩
 |succ fuel ih=>
  intro listed a C w hC h
  refine⟨fun h0=>h.1 h0 w hC,fun i hi=>?_⟩
  obtain⟨o,ho,h1⟩:=h.2 i hi
  unfold wpOp
  simp only [ho]
  rcases h1 with⟨hw,h1⟩ | ⟨hw,h1⟩
  ·rw [if_pos hw]
   refine .inl ?_
   rcases h1 with⟨v,hq,hk⟩ | ⟨_,hq⟩
   ·refine Oper.wp_mono ?_ (Ic (hq w hC))
    rintro a' w' ⟨rfl,hC'⟩
    exact ih _ _ _ _ hC' hk
   ·refine Oper.wp_mono ?_ (hq w hC)
    rintro a' w' ⟨C',hC',hk⟩
    exact ih _ _ _ _ hC' hk
  ·rw [if_neg (by rw [hw];simp)]
   exact ih _ _ _ _ hC h1
theorem Gh {a:Act} {x y:Option Tmp} {v u u':Value} (hne:∀ d,x=some d→y≠some d) (h:(a.put x v).put y u'=(a.put x v).put y u):a.put y u'=a.put y u:=by
 cases y with
 |none=>rfl
 |some e=>
  cases x with
  |none=>exact h
  |some d=>
   have hde:d≠e:=fun he=>hne d rfl (by rw [he])
   simp only [Act.put,Act.mk.injEq] at h ⊢
   refine⟨?_,trivial⟩
   have h:=h.1
   by_cases hlt:e<a.tmps.size
   ·have h1:=congrArg (fun t:Array Value=>t[e]?) h
    simp [hlt] at h1
    rw [h1]
   ·rw [Array.setIfInBounds_eq_of_size_le (Nat.le_of_not_lt hlt),Array.setIfInBounds_eq_of_size_le (Nat.le_of_not_lt hlt)]
theorem G1 {a:Act} {x y:Option Tmp} {d:Deferred} {v u:Value}:({ a with defers:=d::a.defers }:Act).put x v≠a.put y u:=by
 intro h
 have h1:=congrArg (fun t:Act=>t.defers.length) h
 cases x<;>cases y<;>simp [Act.put] at h1
theorem QOk.of_put {oi oj:Oper} {v u:Value} {a:Act} {C:World→Prop} (hap:oi.apart ops oj=true) (hsj:∀ cs b,oj.op ≠ .select cs b)
  (h:QOk P oj (a.put oi.dst v) C u):QOk P oj a C u:=by
 obtain⟨h1,h2,h3⟩:=Oper.apart_spec hap
 intro w hw
 have h:=h w hw
 unfold Oper.wp at *
 rw [execOp_put oj hsj a oi.dst v h1] at h
 generalize (execOp a.eval oj).run P w=r at *
 cases r with
 |ok n w'=>
  cases n<;>simp only [Oper.upon] at h ⊢
  case value z=>exact⟨Gh h2 h.1,h.2⟩
  case skip=>exact⟨Gh h2 h.1,h.2⟩
  case defer d=>exact(G1 (a:=a.put oi.dst v) h.1).elim
  case enter f args=>
   refine Calls.mono h fun e w'' he=>?_
   cases e with
   |returned z=>exact⟨Gh h2 he.1,he.2⟩
   |panicked c=>exact he
   |outgrown=>exact he
  case row row args=>exact Rows.mono h fun z w'' he=>⟨Gh h2 he.1,he.2⟩
 |halt x w'=>cases x<;>simp only [Oper.upon] at h
theorem QOk.put {oi oj:Oper} {v u:Value} {a:Act} {C:World→Prop} (hap:oi.apart ops oj=true) (hsi:∀ cs b,oi.op ≠ .select cs b)
  (h:QOk P oi a C v):QOk P oi (a.put oj.dst u) C v:=by
 obtain⟨h1,h2,h3⟩:=Oper.apart_spec hap
 have h2':∀ d,oj.dst=some d→oi.dst≠some d:=fun d hd he=>h2 d he hd
 intro w hw
 have h:=h w hw
 unfold Oper.wp at *
 rw [execOp_put oi hsi a oj.dst u h3]
 generalize (execOp a.eval oi).run P w=r at *
 have key:∀ z,a.put oi.dst z=a.put oi.dst v→(a.put oj.dst u).put oi.dst z=(a.put oj.dst u).put oi.dst v:=fun z hz=>by
  rw [Act.put_comm a u z h2',Act.put_comm a u v h2',hz]
 cases r with
 |ok n w'=>
  cases n<;>simp only [Oper.upon] at h ⊢
  case value z=>exact⟨key z h.1,h.2⟩
  case skip=>exact⟨key _ h.1,h.2⟩
  case defer d=>exact(G1 h.1).elim
  case enter f args=>
   refine Calls.mono h fun e w'' he=>?_
   cases e with
   |returned z=>exact⟨key z he.1,he.2⟩
   |panicked c=>exact he
   |outgrown=>exact he
  case row row args=>exact Rows.mono h fun z w'' he=>⟨key z he.1,he.2⟩
 |halt x w'=>cases x<;>simp only [Oper.upon] at h
def Lq (P:Program) (ops:Array Oper) (C:World→Prop) (o:Oper) (v:Value) (a:Act):Prop:=
 (Region.wanted o (yielded ops a.tmps)=true∧QOk P o a C v)∨(Region.wanted o (yielded ops a.tmps)=false∧v=undef)
theorem Lq.opM {Q:Exit→Act→World→Prop} {C:World→Prop} {i:Nat} {o:Oper} {v:Value} {a:Act} {K:Act→(World→Prop)→Prop} (hi:ops[i]? = some o)
  (hy:Lq P ops C o v a) (h:K (a.put o.dst v) C):opM P ops Q i K a C:=by
 refine⟨o,hi,?_⟩
 rcases hy with⟨hw,hq⟩ | ⟨hw,rfl⟩
 ·exact .inl ⟨hw, .inl ⟨v,hq,h⟩⟩
 ·exact .inr ⟨hw,h⟩
theorem Lq.put {C:World→Prop} {oi oj:Oper} {v u:Value} {a:Act} (hap:oi.apart ops oj=true) (hsi:∀ cs b,oi.op ≠ .select cs b)
  (hy:Lq P ops C oi v a):Lq P ops C oi v (a.put oj.dst u):=by
 have h3:=(Oper.apart_spec hap).2.2
 rcases hy with⟨hw,hq⟩ | ⟨hw,rfl⟩
 ·exact .inl ⟨by rw [wanted_put oi a oj.dst u h3];exact hw,hq.put hap hsi⟩
 ·exact .inr ⟨by rw [wanted_put oi a oj.dst u h3];exact hw,rfl⟩
theorem Xq {Q:Exit→Act→World→Prop} {i:Nat} {oi:Oper} {v:Value} {C:World→Prop} (hi:ops[i]? = some oi) (hsel:∀ (j:Nat) (o:Oper) cs b,ops[j]? = some o→o.op ≠ .select cs b) :
  ∀ (fuel:Nat) (listed:Array Bool) (a:Act),Down ops listed→(∀ j,j<i→listed.getD j false=true) →
   (∀ j oj,ops[j]? = some oj→j≠i→listed.getD j true=false→(∀ e∈oj.after,Region.binds .any e=true→e.on≠i)→oi.apart ops oj=true) →
   i∈Region.ready .any ops listed→Lq P ops C oi v a →
   Pg P ops Q fuel (listed.setIfInBounds i true) (a.put oi.dst v) C→Pg P ops Q (fuel+1) listed a C:=by
 intro fuel
 induction fuel with
 |zero=>
  intro listed a _ _ _ hr hy H
  refine⟨fun h=>(by rw [h] at hr;cases hr),fun j hj=>?_⟩
  by_cases hji:j=i
  ·subst hji;exact hy.opM hi H
  ·have:=ready_mono hj hji
   rw [H.1] at this
   cases this
 |succ fuel ih=>
  intro listed a hdown hlow hfree hr hy H
  refine⟨fun h=>(by rw [h] at hr;cases hr),fun j hj=>?_⟩
  by_cases hji:j=i
  ·subst hji;exact hy.opM hi H
  ·obtain⟨oj,hoj,h1⟩:=H.2 j (ready_mono hj hji)
   obtain⟨hjun,oj',hoj',hall⟩:=mem_ready.1 hj
   rw [hoj] at hoj'
   cases hoj'
   have hiun:=(mem_ready.1 hr).1
   have hiun':listed.getD i false=false:=by
    rcases Nat.lt_or_ge i listed.size with h' | h'
    ·simp [h'] at hiun ⊢;exact hiun
    ·simp [Array.getElem?_eq_none h']
   have hnot:∀ e∈oj.after,Region.binds .any e=true→e.on≠i:=fun e he hb heq=>by
    have h1:=hall e he hb
    rw [heq,hiun'] at h1
    cases h1
   have hap:=hfree j oj hoj hji hjun hnot
   obtain⟨p1,p2,p3⟩:=Oper.apart_spec hap
   have hij:i<j:=by
    rcases Nat.lt_trichotomy i j with h | h | h
    ·exact h
    ·exact absurd h.symm hji
    ·have:=hlow j h
     rcases Nat.lt_or_ge j listed.size with h' | h'
     ·simp [h'] at hjun this;rw [hjun] at this;cases this
     ·simp [Array.getElem?_eq_none h'] at this
   have hfree':∀ k ok,ops[k]? = some ok→k≠i→(listed.setIfInBounds j true).getD k true=false →
     (∀ e∈ok.after,Region.binds .any e=true→e.on≠i)→oi.apart ops ok=true:=fun k ok hk hki hun hno=>by
    refine hfree k ok hk hki ?_ hno
    by_cases hjk:j=k
    ·subst hjk;exact hjun
    ·rw [getD_set_ne true hjk] at hun;exact hun
   have hlow':∀ k,k<i→(listed.setIfInBounds j true).getD k false=true:=fun k hk=>getD_set_true (hlow k hk)
   have step:∀ u,Pg P ops Q fuel ((listed.setIfInBounds i true).setIfInBounds j true) ((a.put oi.dst v).put oj.dst u) C →
     Pg P ops Q (fuel+1) (listed.setIfInBounds j true) (a.put oj.dst u) C:=fun u hu=>by
    refine ih (listed.setIfInBounds j true) (a.put oj.dst u) (hdown.set hj) hlow' hfree' (ready_mono hr (Ne.symm hji)) (hy.put hap (fun cs b=>hsel i oi cs b hi)) ?_
    rw [Array.setIfInBounds_comm _ _ hji,←Act.put_comm a v u p2]
    exact hu
   rw [wanted_put oj a oi.dst v p1] at h1
   refine⟨oj,hoj,?_⟩
   rcases h1 with⟨hw,⟨u,hq,hk⟩ | ⟨hs,_⟩⟩ | ⟨hw,hk⟩
   ·exact .inl ⟨hw, .inl ⟨u,hq.of_put hap (fun cs b=>hsel j oj cs b hoj),step u hk⟩⟩
   ·have:=Z7 hdown hs hj i hij
    rw [hiun'] at this
    cases this
   ·exact .inr ⟨hw,step undef hk⟩
def If (n k:Nat):Array Bool:=((List.range n).map fun i=>decide (i<k)).toArray
theorem To (n k i:Nat) (d:Bool):(If n k).getD i d=if i<n then decide (i<k) else d:=by
 unfold If
 by_cases h:i<n<;>simp [h]
theorem Rq (n:Nat):If n 0=Array.replicate n false:=by
 apply Array.ext_getElem?
 intro i
 unfold If
 by_cases h:i<n<;>simp [h]
theorem O1 {n k:Nat} (_hk:k<n):(If n k).setIfInBounds k true=If n (k+1):=by
 apply Array.ext_getElem?
 intro i
 unfold If
 rw [Array.getElem?_setIfInBounds]
 by_cases h:i<n
 ·by_cases hki:k=i
  ·subst hki;simp [h]
  ·simp [h,hki]
   omega
 ·simp [h]
  omega
def Ag8 (ops:Array Oper) (k:Nat):Bool:=Ac2 ops k&&Region.ready .any ops (If ops.size k)==[k]
def Ib (P:Program) (ops:Array Oper) (Q:Exit→Act→World→Prop):Nat→List Oper→Act→(World→Prop)→Prop
 |_,[],a,C=>∀ w,C w→Q .normal a w
 |k,o::rest,a,C=>
  (Region.wanted o (yielded ops a.tmps)=true∧((∃ v,QOk P o a C v∧Ib P ops Q (k+1) rest (a.put o.dst v) C) ∨
   (Ag8 ops k=true∧∀ w,C w→o.wp P a w (fun a' w'=>∃ C',C' w'∧Ib P ops Q (k+1) rest a' C') Q))) ∨
  (Region.wanted o (yielded ops a.tmps)=false∧Ib P ops Q (k+1) rest (a.put o.dst undef) C)
theorem Uu {Q:Exit→Act→World→Prop} (hs:Region.noSelect ops=true):∀ (l:List Oper) (k:Nat) (a:Act) (C:World→Prop),(∀ j,l[j]? = ops[k+j]?) →
  Down ops (If ops.size k)→Region.lexFrom .any ops l.length k (If ops.size k)=true→Ib P ops Q k l a C→Pg P ops Q l.length (If ops.size k) a C
 |[],_,_,_,_,_,hB,h=>⟨by simpa [Region.lexFrom] using hB,h⟩
 |o::l,k,a,C,hl,hd,hB,h=>by
  have h0:ops[k]? = some o:=by simpa using (hl 0).symm
  have hk:k<ops.size:=(Array.getElem?_eq_some_iff.1 h0).1
  simp only [List.length_cons,Region.lexFrom,Bool.and_eq_true] at hB
  obtain⟨⟨hr,hf⟩,hB'⟩:=hB
  have hr:k∈Region.ready .any ops (If ops.size k):=by simpa using hr
  have hl':∀ j,l[j]? = ops[k+1+j]? := fun j=>by have:=hl (j+1);simpa [Nat.add_assoc,Nat.add_comm 1 j] using this
  have hlow:∀ i,i<k→(If ops.size k).getD i false=true:=fun i hi=>by rw [To,if_pos (by omega)];simpa using hi
  have hd':=hd.set hr
  rw [O1 hk] at hB' hd'
  have next:=fun a' C' (hm:Ib P ops Q (k+1) l a' C')=>Uu hs l (k+1) a' C' hl' hd' hB' hm
  have first:=fun v (hy:Lq P ops C o v a) hm=>Xq (Q:=Q) h0 (Region.noSelect_spec hs) l.length (If ops.size k) a hd hlow (Region.free_spec h0 hf) hr hy (by rw [O1 hk];exact next (a.put o.dst v) C hm)
  simp only [Ib] at h
  rcases h with⟨hw,⟨v,hq,hm⟩ | ⟨hsolo,hq⟩⟩ | ⟨hw,hm⟩
  ·exact first v (.inl ⟨hw,hq⟩) hm
  ·unfold Ag8 at hsolo
   rw [Bool.and_eq_true] at hsolo
   have hone:=eq_of_beq hsolo.2
   refine⟨fun hn=>(by rw [hn] at hr;cases hr),fun j hj=>?_⟩
   rw [hone,List.mem_singleton] at hj
   subst hj
   exact⟨o,h0, .inl ⟨hw, .inr ⟨hsolo.1,fun w hC=>Oper.wp_mono (fun a' w' ⟨C',hC',hm⟩=>⟨C',hC',by rw [O1 hk];exact next a' C' hm⟩) (hq w hC)⟩⟩⟩
  ·exact first undef (.inr ⟨hw,rfl⟩) hm
theorem Vi {id:Nat} {Q:Exit→Act→World→Prop} {a:Act} {w:World} (C:World→Prop) {l:List Oper} (hm:P.follows .mixedOrders=true) (hB:Region.lexB .any l.toArray=true) (hC:C w.drew)
  (h:Ib P l.toArray Q 0 l a C):(Code.region id l.toArray true).wp P Q a w:=by
 simp only [Region.lexB,Bool.and_eq_true] at hB
 refine wp_region_any hm (Acj _ _ _ C _ hC ?_)
 have:=Uu (P:=P) (ops:=l.toArray) (Q:=Q) hB.1 l 0 a C (by simp) ?_ ?_ h
 ·rw [Rq] at this
  simpa using this
 ·intro i o _ hl
  rw [To] at hl
  split at hl<;>simp at hl
 ·rw [Rq]
  simpa using hB.2
theorem As {id:Nat} {Q:Exit→Act→World→Prop} {a:Act} {w:World} {l:List Oper} (hm:P.follows .mixedOrders=true) (hB:Region.lexB .any l.toArray=true)
  (h:Ib P l.toArray Q 0 l a (fun w'=>RowKit.Below w.heap.size w w')):(Code.region id l.toArray true).wp P Q a w:=
 Vi _ hm hB (RowKit.Below.refl _ _).drew h
def Uw (P:Program) (ops:Array Oper) (Q:Exit→Act→World→Prop) (k:Nat) (o:Oper) (rest:List Oper) (a:Act) (C:World→Prop):Prop:=
 (∃ v,QOk P o a C v∧Ib P ops Q (k+1) rest (a.put o.dst v) C) ∨
 (Ag8 ops k=true∧∀ w,C w→o.wp P a w (fun a' w'=>∃ C',C' w'∧Ib P ops Q (k+1) rest a' C') Q)
section
variable {Q:Exit→Act→World→Prop} {k:Nat} {o:Oper} {rest:List Oper} {a:Act} {C:World→Prop}
theorem Ch (h:∀ w,C w→Q .normal a w):Ib P ops Q k [] a C:=h
theorem Br (hg:o.guard=none) (h:Uw P ops Q k o rest a C):Ib P ops Q k (o::rest) a C:=
 .inl ⟨by simp [Region.wanted,hg],h⟩
theorem Jh {d:Nat} {v:Value} (hv:a.tmps[d]? = some v):({ tmps:=a.tmps.setIfInBounds d v,defers:=a.defers }:Act)=a:=by
 obtain⟨hlt,hg⟩:=Array.getElem?_eq_some_iff.1 hv
 have he:a.tmps.setIfInBounds d v=a.tmps:=by
  rw [←hg]
  simp [Array.setIfInBounds,hlt]
 rw [he]
theorem N6 {g d:Nat} {want b:Bool} (hg:o.guard=some (g,want)) (hd:(ops[g]?).bind (·.dst)=some d) (hv:a.tmps[d]? = some (.bool b)) :
  Region.wanted o (yielded ops a.tmps)=(b==want):=by
 unfold Region.wanted yielded
 simp [hg,hd,hv]
theorem Bi {g d:Nat} {b:Bool} (hg:o.guard=some (g,true)) (hd:(ops[g]?).bind (·.dst)=some d) (hv:a.tmps[d]? = some (.bool b))
  (h1:b=true→Uw P ops Q k o rest { tmps:=a.tmps.setIfInBounds d (.bool true),defers:=a.defers } C)
  (h2:b=false→Ib P ops Q (k+1) rest (Act.put { tmps:=a.tmps.setIfInBounds d (.bool false),defers:=a.defers } o.dst undef) C):Ib P ops Q k (o::rest) a C:=by
 have hw:=N6 hg hd hv
 cases b
 ·have h:=h2 rfl
  rw [Jh hv] at h
  exact .inr ⟨hw,h⟩
 ·have h:=h1 rfl
  rw [Jh hv] at h
  exact .inl ⟨hw,h⟩
theorem Bh {g d:Nat} {b:Bool} (hg:o.guard=some (g,false)) (hd:(ops[g]?).bind (·.dst)=some d) (hv:a.tmps[d]? = some (.bool b))
  (h1:b=false→Uw P ops Q k o rest { tmps:=a.tmps.setIfInBounds d (.bool false),defers:=a.defers } C)
  (h2:b=true→Ib P ops Q (k+1) rest (Act.put { tmps:=a.tmps.setIfInBounds d (.bool true),defers:=a.defers } o.dst undef) C):Ib P ops Q k (o::rest) a C:=by
 have hw:=N6 hg hd hv
 cases b
 ·have h:=h1 rfl
  rw [Jh hv] at h
  exact .inl ⟨hw,h⟩
 ·have h:=h2 rfl
  rw [Jh hv] at h
  exact .inr ⟨hw,h⟩
theorem Bj {g d:Nat} {want:Bool} (hg:o.guard=some (g,want)) (hd:(ops[g]?).bind (·.dst)=some d) (hv:a.tmps[d]? = some undef)
  (h:Ib P ops Q (k+1) rest (a.put o.dst undef) C):Ib P ops Q k (o::rest) a C:=
 .inr ⟨by unfold Region.wanted yielded;simp [hg,hd,hv,undef],h⟩
theorem Bg (a':Act) (h:∀ w,C w→∀ K:Act→World→Prop,(∀ w',C w'→K a' w')→o.wp P a w K (fun _ _ _=>False)) (ha:a'=a.put o.dst (a'.tmps.getD (o.dst.getD 0) undef))
  (hr:Ib P ops Q (k+1) rest a' C):Uw P ops Q k o rest a C:=
 .inl ⟨_,fun w hC=>h w hC _ fun _ hC'=>⟨ha,hC'⟩,ha▸hr⟩
end
end
attribute [irreducible] Ib Uw
section
variable {P:Program} {ops:Array Oper}
def Mv (P:Program) (o:Oper) (a:Act) (C:World→Prop) (R:World→World→Prop) (v:Value):Prop:=
 ∀ w,C w→o.wp P a w (fun a' w'=>a'=a.put o.dst v∧R w w') (fun _ _ _=>False)
def SOk (P:Program) (o:Oper) (a:Act) (C:World→Prop) (K:Act→World→Prop):Prop:=
 ∀ w,C w→o.wp P a w (fun a' w'=>(∃ v,a'=a.put o.dst v)∧K a' w') (fun _ _ _=>False)
theorem Mv.of_put {oi oj:Oper} {v u:Value} {a:Act} {C:World→Prop} {R:World→World→Prop} (hap:oi.apart ops oj=true) (hsj:∀ cs b,oj.op ≠ .select cs b)
  (h:Mv P oj (a.put oi.dst v) C R u):Mv P oj a C R u:=by
 obtain⟨h1,h2,h3⟩:=Oper.apart_spec hap
 intro w hw
 have h:=h w hw
 unfold Oper.wp at *
 rw [execOp_put oj hsj a oi.dst v h1] at h
 generalize (execOp a.eval oj).run P w=r at *
 cases r with
 |ok n w'=>
  cases n<;>simp only [Oper.upon] at h ⊢
  case value z=>exact⟨Gh h2 h.1,h.2⟩
  case skip=>exact⟨Gh h2 h.1,h.2⟩
  case defer d=>exact(G1 (a:=a.put oi.dst v) h.1).elim
  case enter f args=>
   refine Calls.mono h fun e w'' he=>?_
   cases e with
   |returned z=>exact⟨Gh h2 he.1,he.2⟩
   |panicked c=>exact he
   |outgrown=>exact he
  case row row args=>exact Rows.mono h fun z w'' he=>⟨Gh h2 he.1,he.2⟩
 |halt x w'=>cases x<;>simp only [Oper.upon] at h
theorem Mv.put {oi oj:Oper} {v u:Value} {a:Act} {C:World→Prop} {R:World→World→Prop} (hap:oi.apart ops oj=true) (hsi:∀ cs b,oi.op ≠ .select cs b)
  (h:Mv P oi a C R v):Mv P oi (a.put oj.dst u) C R v:=by
 obtain⟨h1,h2,h3⟩:=Oper.apart_spec hap
 have h2':∀ d,oj.dst=some d→oi.dst≠some d:=fun d hd he=>h2 d he hd
 intro w hw
 have h:=h w hw
 unfold Oper.wp at *
 rw [execOp_put oi hsi a oj.dst u h3]
 generalize (execOp a.eval oi).run P w=r at *
 have key:∀ z,a.put oi.dst z=a.put oi.dst v→(a.put oj.dst u).put oi.dst z=(a.put oj.dst u).put oi.dst v:=fun z hz=>by
  rw [Act.put_comm a u z h2',Act.put_comm a u v h2',hz]
 cases r with
 |ok n w'=>
  cases n<;>simp only [Oper.upon] at h ⊢
  case value z=>exact⟨key z h.1,h.2⟩
  case skip=>exact⟨key _ h.1,h.2⟩
  case defer d=>exact(G1 h.1).elim
  case enter f args=>
   refine Calls.mono h fun e w'' he=>?_
   cases e with
   |returned z=>exact⟨key z he.1,he.2⟩
   |panicked c=>exact he
   |outgrown=>exact he
  case row row args=>exact Rows.mono h fun z w'' he=>⟨key z he.1,he.2⟩
 |halt x w'=>cases x<;>simp only [Oper.upon] at h
theorem SOk.of_put {oi oj:Oper} {v:Value} {a:Act} {C:World→Prop} {K K':Act→World→Prop} (hap:oi.apart ops oj=true) (hsj:∀ cs b,oj.op ≠ .select cs b)
  (hK:∀ u w',K ((a.put oi.dst v).put oj.dst u) w'→K' (a.put oj.dst u) w') (h:SOk P oj (a.put oi.dst v) C K):SOk P oj a C K':=by
 obtain⟨h1,h2,h3⟩:=Oper.apart_spec hap
 intro w hw
 have h:=h w hw
 unfold Oper.wp at *
 rw [execOp_put oj hsj a oi.dst v h1] at h
 generalize (execOp a.eval oj).run P w=r at *
 cases r with
 |ok n w'=>
  cases n<;>simp only [Oper.upon] at h ⊢
  case value z=>exact⟨⟨_,rfl⟩,hK _ _ h.2⟩
  case skip=>exact⟨⟨_,rfl⟩,hK _ _ h.2⟩
  case defer d=>
   obtain⟨⟨u,hu⟩,_⟩:=h
   exact(G1 (a:=a.put oi.dst v) hu).elim
  case enter f args=>
   refine Calls.mono h fun e w'' he=>?_
   cases e with
   |returned z=>exact⟨⟨_,rfl⟩,hK _ _ he.2⟩
   |panicked c=>exact he
   |outgrown=>exact he
  case row row args=>exact Rows.mono h fun z w'' he=>⟨⟨_,rfl⟩,hK _ _ he.2⟩
 |halt x w'=>cases x<;>simp only [Oper.upon] at h
theorem SOk.mono {o:Oper} {a:Act} {C C':World→Prop} {K K':Act→World→Prop} (hC:∀ w,C' w→C w) (hK:∀ a w,K a w→K' a w) (h:SOk P o a C K):SOk P o a C' K':=
 fun w hw=>Oper.wp_mono (fun a' w' ⟨h1,h2⟩=>⟨h1,hK a' w' h2⟩) (h w (hC w hw))
def Xo (ops:Array Oper) (j i:Nat):Bool:=(K9 ops ops.size (((ops[j]?).map Lk).getD 0)).testBit i
def Mo (ops:Array Oper) (m:Nat) (j:Nat):Bool:=(List.range ops.size).all fun i=>i==j || m.testBit i || Xo ops j i || Xo ops i j
theorem Qn {listed:Array Bool} {i j:Nat} (hd:Down ops listed) (hr:j∈Region.ready .any ops listed) (hw:Xo ops j i=true):listed.getD i false=true:=by
 obtain⟨_,o,ho,hall⟩:=mem_ready.1 hr
 unfold Xo at hw
 rw [ho,Option.map_some,Option.getD_some] at hw
 refine La hd ops.size (Lk o) ?_ i hw
 intro b hm
 obtain⟨e,he,hb,rfl⟩:=Ky hm
 exact hall e he hb
theorem Uf {listed:Array Bool} {j:Nat} (h:j∈Region.ready .any ops listed):listed.getD j false=false:=by
 have hjun:=(mem_ready.1 h).1
 rcases Nat.lt_or_ge j listed.size with h' | h'
 ·simp [h'] at hjun ⊢;exact hjun
 ·simp [Array.getElem?_eq_none h']
theorem Td {listed:Array Bool} {m i j:Nat} (hd:Down ops listed) (hi:i∈Region.ready .any ops listed) (hj:j∈Region.ready .any ops listed) (hne:j≠i) (hm:m.testBit i=false) (h:Mo ops m j=true):False:=by
 obtain⟨_,o,ho,_⟩:=mem_ready.1 hi
 unfold Mo at h
 rw [List.all_eq_true] at h
 have:=h i (List.mem_range.2 (Array.getElem?_eq_some_iff.1 ho).1)
 simp only [Bool.or_eq_true,beq_iff_eq,hm,Bool.false_eq_true,or_false] at this
 rcases this with(h1 | h1) | h1
 ·exact hne h1.symm
 ·have:=Qn hd hj h1
  rw [Uf hi] at this;cases this
 ·have:=Qn hd hi h1
  rw [Uf hj] at this;cases this
def opO (P:Program) (ops:Array Oper) (EM GM:Nat) (i:Nat) (K:Act→(World→Prop)→(World→Prop)→Prop) (a:Act) (G C:World→Prop):Prop:=
 ∃ o,ops[i]? = some o ∧
  ((Region.wanted o (yielded ops a.tmps)=true ∧
   ((EM.testBit i=true∧∃ v,Mv P o a (fun _=>True) (fun w w'=>w'=w) v∧K (a.put o.dst v) G C) ∨
    (EM.testBit i=false∧GM.testBit i=true∧∃ v,Mv P o a G (fun w w'=>w'=w) v∧K (a.put o.dst v) G C) ∨
    (EM.testBit i=false∧GM.testBit i=false∧∃ v,Mv P o a G (fun _ w'=>G w') v∧K (a.put o.dst v) G G) ∨
    (EM.testBit i=false∧GM.testBit i=false∧Mo ops EM i=true∧SOk P o a C (fun a' w'=>∃ G' C',(∀ w,C' w→G' w)∧C' w'∧K a' G' C')) ∨
    (EM.testBit i=false∧GM.testBit i=false∧Mo ops (EM ||| GM) i=true∧SOk P o a C (fun a' w'=>∃ C',(∀ w,C' w→G w)∧C' w'∧K a' G C')))) ∨
   (Region.wanted o (yielded ops a.tmps)=false∧K (a.put o.dst undef) G C))
def Ph (P:Program) (ops:Array Oper) (EM GM:Nat) (Q:Exit→Act→World→Prop):Nat→Array Bool→Act→(World→Prop)→(World→Prop)→Prop
 |0,listed,a,_,C=>Region.ready .any ops listed=[]∧∀ w,C w→Q .normal a w
 |fuel+1,listed,a,G,C=>
  (Region.ready .any ops listed=[]→∀ w,C w→Q .normal a w) ∧
  ∀ i∈Region.ready .any ops listed,opO P ops EM GM i (fun a' G' C'=>Ph P ops EM GM Q fuel (listed.setIfInBounds i true) a' G' C') a G C
theorem Ack {EM GM:Nat} {Q:Exit→Act→World→Prop}:∀ (fuel:Nat) (listed:Array Bool) (a:Act) (G C:World→Prop) (w:World),(∀ w,C w→G w)→C w →
  Ph P ops EM GM Q fuel listed a G C→wpAny P .any ops Q fuel listed a w:=by
 intro fuel
 induction fuel with
 |zero=>intro listed a G C w _ hC h;exact⟨h.1,h.2 w hC⟩
 |succ fuel ih=>
  intro listed a G C w hG hC h
  refine⟨fun h0=>h.1 h0 w hC,fun i hi=>?_⟩
  obtain⟨o,ho,h1⟩:=h.2 i hi
  unfold wpOp
  simp only [ho]
  rcases h1 with⟨hw,h1⟩ | ⟨hw,h1⟩
  ·rw [if_pos hw]
   refine .inl ?_
   rcases h1 with⟨_,v,hq,hk⟩ | ⟨_,_,v,hq,hk⟩ | ⟨_,_,v,hq,hk⟩ | ⟨_,_,_,hq⟩ | ⟨_,_,_,hq⟩
   ·refine Oper.wp_mono ?_ (Ic (hq w trivial))
    rintro a' w' ⟨rfl,rfl⟩
    exact ih _ _ _ _ _ hG hC hk
   ·refine Oper.wp_mono ?_ (Ic (hq w (hG w hC)))
    rintro a' w' ⟨rfl,rfl⟩
    exact ih _ _ _ _ _ hG hC hk
   ·refine Oper.wp_mono ?_ (Ic (hq w (hG w hC)))
    rintro a' w' ⟨rfl,hC'⟩
    exact ih _ _ _ _ _ (fun _ h=>h) hC' hk
   ·refine Oper.wp_mono ?_ (Ic (hq w hC))
    rintro a' w' ⟨_,G',C',hG',hC',hk⟩
    exact ih _ _ _ _ _ hG' hC' hk
   ·refine Oper.wp_mono ?_ (Ic (hq w hC))
    rintro a' w' ⟨_,C',hG',hC',hk⟩
    exact ih _ _ _ _ _ hG' hC' hk
  ·rw [if_neg (by rw [hw];simp)]
   exact ih _ _ _ _ _ hG hC h1
inductive Reads (P:Program) (ops:Array Oper) (EM GM:Nat) (i:Nat) (o:Oper) (v:Value) (a:Act) (G:World→Prop):(World→Prop)→(World→Prop)→Prop
 |skip {C}:Region.wanted o (yielded ops a.tmps)=false→v=undef→Reads P ops EM GM i o v a G C C
 |ever {C}:Region.wanted o (yielded ops a.tmps)=true→EM.testBit i=true→Mv P o a (fun _=>True) (fun w w'=>w'=w) v→Reads P ops EM GM i o v a G C C
 |reads {C}:Region.wanted o (yielded ops a.tmps)=true→EM.testBit i=false→GM.testBit i=true→Mv P o a G (fun w w'=>w'=w) v→Reads P ops EM GM i o v a G C C
 |calls {C}:Region.wanted o (yielded ops a.tmps)=true→EM.testBit i=false→GM.testBit i=false→Mv P o a G (fun _ w'=>G w') v→Reads P ops EM GM i o v a G C G
theorem Reads.opO {EM GM i:Nat} {o:Oper} {v:Value} {a:Act} {G C C2:World→Prop} {K:Act→(World→Prop)→(World→Prop)→Prop} (hi:ops[i]? = some o) (hy:Reads P ops EM GM i o v a G C C2) (h:K (a.put o.dst v) G C2):opO P ops EM GM i K a G C:=by
 refine⟨o,hi,?_⟩
 cases hy with
 |skip hw hv=>subst hv;exact .inr ⟨hw,h⟩
 |ever hw he hq=>exact .inl ⟨hw, .inl ⟨he,v,hq,h⟩⟩
 |reads hw he hg hq=>exact .inl ⟨hw, .inr (.inl ⟨he,hg,v,hq,h⟩)⟩
 |calls hw he hg hq=>exact .inl ⟨hw, .inr (.inr (.inl ⟨he,hg,v,hq,h⟩))⟩
theorem Xr {EM GM:Nat} {Q:Exit→Act→World→Prop} {i:Nat} {oi:Oper} {v:Value} (hi:ops[i]? = some oi) (hsel:∀ (j:Nat) (o:Oper) cs b,ops[j]? = some o→o.op ≠ .select cs b) :
  ∀ (fuel:Nat) (listed:Array Bool) (a:Act) (G C C2:World→Prop),Down ops listed→(∀ w,C w→G w) →
   (∀ j oj,ops[j]? = some oj→j≠i→listed.getD j true=false→(∀ e∈oj.after,Region.binds .any e=true→e.on≠i)→oi.apart ops oj=true) →
   i∈Region.ready .any ops listed→Reads P ops EM GM i oi v a G C C2 →
   Ph P ops EM GM Q fuel (listed.setIfInBounds i true) (a.put oi.dst v) G C2→Ph P ops EM GM Q (fuel+1) listed a G C:=by
 intro fuel
 induction fuel with
 |zero=>
  intro listed a G C C2 _ _ _ hr hy H
  refine⟨fun h=>(by rw [h] at hr;cases hr),fun j hj=>?_⟩
  by_cases hji:j=i
  ·subst hji;exact hy.opO hi H
  ·have:=ready_mono hj hji
   rw [H.1] at this
   cases this
 |succ fuel ih=>
  intro listed a G C C2 hdown hGC hfree hr hy H
  refine⟨fun h=>(by rw [h] at hr;cases hr),fun j hj=>?_⟩
  by_cases hji:j=i
  ·subst hji;exact hy.opO hi H
  ·obtain⟨oj,hoj,h1⟩:=H.2 j (ready_mono hj hji)
   obtain⟨hjun,oj',hoj',hall⟩:=mem_ready.1 hj
   rw [hoj] at hoj'
   cases hoj'
   have hiun:=Uf hr
   have hnot:∀ e∈oj.after,Region.binds .any e=true→e.on≠i:=fun e he hb heq=>by
    have h1:=hall e he hb
    rw [heq,hiun] at h1
    cases h1
   have hap:=hfree j oj hoj hji hjun hnot
   obtain⟨p1,p2,p3⟩:=Oper.apart_spec hap
   have hsi:=fun cs b=>hsel i oi cs b hi
   have hsj:=fun cs b=>hsel j oj cs b hoj
   have hfree':∀ k ok,ops[k]? = some ok→k≠i→(listed.setIfInBounds j true).getD k true=false →
     (∀ e∈ok.after,Region.binds .any e=true→e.on≠i)→oi.apart ops ok=true:=fun k ok hk hki hun hno=>by
    refine hfree k ok hk hki ?_ hno
    by_cases hjk:j=k
    ·subst hjk;exact hjun
    ·rw [getD_set_ne true hjk] at hun;exact hun
   have putR:∀ (G' C' C2':World→Prop) (u:Value),Reads P ops EM GM i oi v a G' C' C2'→Reads P ops EM GM i oi v (a.put oj.dst u) G' C' C2':=fun G' C' C2' u hh=>by
    cases hh with
    |skip hw hv=>exact .skip (by rw [wanted_put oi a oj.dst u p3];exact hw) hv
    |ever hw he hq=>exact .ever (by rw [wanted_put oi a oj.dst u p3];exact hw) he (hq.put hap hsi)
    |reads hw he hg hq=>exact .reads (by rw [wanted_put oi a oj.dst u p3];exact hw) he hg (hq.put hap hsi)
    |calls hw he hg hq=>exact .calls (by rw [wanted_put oi a oj.dst u p3];exact hw) he hg (hq.put hap hsi)
   have step:∀ u (G' C' C2':World→Prop),(∀ w,C' w→G' w)→Reads P ops EM GM i oi v a G' C' C2'→Ph P ops EM GM Q fuel ((listed.setIfInBounds i true).setIfInBounds j true) ((a.put oi.dst v).put oj.dst u) G' C2' →
     Ph P ops EM GM Q (fuel+1) (listed.setIfInBounds j true) (a.put oj.dst u) G' C':=fun u G' C' C2' hGC' hR hu=>by
    refine ih (listed.setIfInBounds j true) (a.put oj.dst u) G' C' C2' (hdown.set hj) hGC' hfree' (ready_mono hr (Ne.symm hji)) (putR _ _ _ u hR) ?_
    rw [Array.setIfInBounds_comm _ _ hji,←Act.put_comm a v u p2]
    exact hu
   rw [wanted_put oj a oi.dst v p1] at h1
   refine⟨oj,hoj,?_⟩
   rcases h1 with⟨hw,h1⟩ | ⟨hw,hk⟩
   ·refine .inl ⟨hw,?_⟩
    rcases h1 with⟨he,u,hq,hk⟩ | ⟨he,hg,u,hq,hk⟩ | ⟨he,hg,u,hq,hk⟩ | ⟨he,hg,hc,hq⟩ | ⟨he,hg,hc,hq⟩
    ·exact .inl ⟨he,u,hq.of_put hap hsj,step u G C C2 hGC hy hk⟩
    ·exact .inr (.inl ⟨he,hg,u,hq.of_put hap hsj,step u G C C2 hGC hy hk⟩)
    ·refine .inr (.inr (.inl ⟨he,hg,u,hq.of_put hap hsj,?_⟩))
     cases hy with
     |skip hw hv=>exact step u G G G (fun _ h=>h) (.skip hw hv) hk
     |ever hw he hq=>exact step u G G G (fun _ h=>h) (.ever hw he hq) hk
     |reads hw he hg hq=>exact step u G G G (fun _ h=>h) (.reads hw he hg hq) hk
     |calls hw he hg hq=>exact step u G G G (fun _ h=>h) (.calls hw he hg hq) hk
    ·refine .inr (.inr (.inr (.inl ⟨he,hg,hc,?_⟩)))
     cases hy with
     |skip hw hv=>exact(hq.of_put hap hsj (fun u w' ⟨G',C',h1,h2,h3⟩=>⟨G',C',h1,h2,step u G' C' C' h1 (.skip hw hv) h3⟩))
     |ever hw he hq'=>exact(hq.of_put hap hsj (fun u w' ⟨G',C',h1,h2,h3⟩=>⟨G',C',h1,h2,step u G' C' C' h1 (.ever hw he hq') h3⟩))
     |reads hw he hg hq=>exact(Td hdown hr hj hji he hc).elim
     |calls hw he hg hq=>exact(Td hdown hr hj hji he hc).elim
    ·refine .inr (.inr (.inr (.inr ⟨he,hg,hc,?_⟩)))
     cases hy with
     |skip hw hv=>exact(hq.of_put hap hsj (fun u w' ⟨C',h1,h2,h3⟩=>⟨C',h1,h2,step u G C' C' h1 (.skip hw hv) h3⟩))
     |ever hw he hq'=>exact(hq.of_put hap hsj (fun u w' ⟨C',h1,h2,h3⟩=>⟨C',h1,h2,step u G C' C' h1 (.ever hw he hq') h3⟩))
     |reads hw he hg hq'=>exact(hq.of_put hap hsj (fun u w' ⟨C',h1,h2,h3⟩=>⟨C',h1,h2,step u G C' C' h1 (.reads hw he hg hq') h3⟩))
     |calls hw he hg hq=>exact(Td hdown hr hj hji (by rw [Nat.testBit_or,he,hg];rfl) hc).elim
   ·exact .inr ⟨hw,step undef G C C2 hGC hy hk⟩
def Aev (ops:Array Oper) (m:Nat):List Nat→Array Bool→Bool
 |[],listed=>(Region.ready .any ops listed).isEmpty
 |i::ord,listed=>(Region.ready .any ops listed).contains i&&Region.free .any ops listed i&&(m.testBit i || Region.ready .any ops listed==[i])&&Aev ops m ord (listed.setIfInBounds i true)
def J5:List Oper→Nat→Option Oper
 |[],_=>none
 |o::_,0=>some o
 |_::l,n+1=>J5 l n
theorem Lj:∀ (l:List Oper) (n:Nat),J5 l n=l[n]?
 |[],_=>rfl
 |_::_,0=>rfl
 |_::l,n+1=>by simpa [J5] using Lj l n
def wpO (P:Program) (l:List Oper) (EM GM m:Nat) (Q:Exit→Act→World→Prop):List Nat→Act→(World→Prop)→(World→Prop)→Prop
 |[],a,_,C=>∀ w,C w→Q .normal a w
 |i::ord,a,G,C=>∃ o,J5 l i=some o ∧
  ((Region.wanted o (yielded l.toArray a.tmps)=true ∧
   ((EM.testBit i=true∧m.testBit i=true∧∃ v,Mv P o a (fun _=>True) (fun w w'=>w'=w) v∧wpO P l EM GM m Q ord (a.put o.dst v) G C) ∨
    (EM.testBit i=false∧GM.testBit i=true∧m.testBit i=true∧∃ v,Mv P o a G (fun w w'=>w'=w) v∧wpO P l EM GM m Q ord (a.put o.dst v) G C) ∨
    (EM.testBit i=false∧GM.testBit i=false∧m.testBit i=true∧∃ v,Mv P o a G (fun _ w'=>G w') v∧wpO P l EM GM m Q ord (a.put o.dst v) G G) ∨
    (EM.testBit i=false∧GM.testBit i=false∧m.testBit i=false∧Mo l.toArray EM i=true∧SOk P o a C (fun a' w'=>∃ G' C',(∀ w,C' w→G' w)∧C' w'∧wpO P l EM GM m Q ord a' G' C')) ∨
    (EM.testBit i=false∧GM.testBit i=false∧m.testBit i=false∧Mo l.toArray (EM ||| GM) i=true∧SOk P o a C (fun a' w'=>∃ C',(∀ w,C' w→G w)∧C' w'∧wpO P l EM GM m Q ord a' G C')))) ∨
   (Region.wanted o (yielded l.toArray a.tmps)=false∧wpO P l EM GM m Q ord (a.put o.dst undef) G C))
end
theorem Uv {P:Program} {l:List Oper} {EM GM m:Nat} {Q:Exit→Act→World→Prop} (hs:Region.noSelect l.toArray=true):∀ (ord:List Nat) (listed:Array Bool) (a:Act) (G C:World→Prop),(∀ w,C w→G w) →
  Down l.toArray listed→Aev l.toArray m ord listed=true→wpO P l EM GM m Q ord a G C→Ph P l.toArray EM GM Q ord.length listed a G C
 |[],_,_,_,_,_,_,hB,h=>⟨by simpa [Aev] using hB,h⟩
 |i::ord,listed,a,G,C,hGC,hd,hB,h=>by
  obtain⟨o,ho,h⟩:=h
  have h0:l.toArray[i]? = some o:=by rw [Lj] at ho;simpa using ho
  simp only [Aev,Bool.and_eq_true] at hB
  obtain⟨⟨⟨hr,hf⟩,hm⟩,hB'⟩:=hB
  have hr:i∈Region.ready .any l.toArray listed:=by simpa using hr
  have hd':=hd.set hr
  have next:=fun a' G' C' hG' (hm:wpO P l EM GM m Q ord a' G' C')=>Uv hs ord (listed.setIfInBounds i true) a' G' C' hG' hd' hB' hm
  have first:=fun v C2 (hG2:∀ w,C2 w→G w) (hy:Reads P l.toArray EM GM i o v a G C C2) hm=>Xr (Q:=Q) h0 (Region.noSelect_spec hs) ord.length listed a G C C2 hd hGC (Region.free_spec h0 hf) hr hy (next (a.put o.dst v) G C2 hG2 hm)
  have solo:m.testBit i=false→∀ j∈Region.ready .any l.toArray listed,j=i:=fun h1 j hj=>by
   rw [h1,Bool.false_or] at hm
   rw [eq_of_beq hm,List.mem_singleton] at hj
   exact hj
  rcases h with⟨hw,h⟩ | ⟨hw,hm⟩
  ·rcases h with⟨he,_,v,hq,hm⟩ | ⟨he,hg,_,v,hq,hm⟩ | ⟨he,hg,_,v,hq,hm⟩ | ⟨he,hg,hmm,hc,hq⟩ | ⟨he,hg,hmm,hc,hq⟩
   ·exact first v C hGC (.ever hw he hq) hm
   ·exact first v C hGC (.reads hw he hg hq) hm
   ·exact first v G (fun _ h=>h) (.calls hw he hg hq) hm
   ·refine⟨fun hn=>(by rw [hn] at hr;cases hr),fun j hj=>?_⟩
    obtain rfl:=solo hmm j hj
    exact⟨o,h0, .inl ⟨hw, .inr (.inr (.inr (.inl ⟨he,hg,hc,hq.mono (fun _ h=>h) fun a' w' ⟨G',C',h1,h2,h3⟩=>⟨G',C',h1,h2,next a' G' C' h1 h3⟩⟩)))⟩⟩
   ·refine⟨fun hn=>(by rw [hn] at hr;cases hr),fun j hj=>?_⟩
    obtain rfl:=solo hmm j hj
    exact⟨o,h0, .inl ⟨hw, .inr (.inr (.inr (.inr ⟨he,hg,hc,hq.mono (fun _ h=>h) fun a' w' ⟨C',h1,h2,h3⟩=>⟨C',h1,h2,next a' G C' h1 h3⟩⟩)))⟩⟩
  ·exact first undef C hGC (.skip hw rfl) hm
theorem Dg {P:Program} {id:Nat} {Q:Exit→Act→World→Prop} {a:Act} {w:World} (EM GM m:Nat) (ord:List Nat) (G C:World→Prop) {l:List Oper} (hm:P.follows .mixedOrders=true) (hs:Region.noSelect l.toArray=true)
  (hB:Aev l.toArray m ord (Array.replicate l.length false)=true) (hn:ord.length=l.length) (hGC:∀ w,C w→G w) (hC:C w.drew)
  (h:wpO P l EM GM m Q ord a G C):(Code.region id l.toArray true).wp P Q a w:=by
 refine wp_region_any hm (Ack (EM:=EM) (GM:=GM) _ _ _ G C _ hGC hC ?_)
 have:=Uv hs ord (Array.replicate l.length false) a G C hGC (fun i o _ hl=>?_) hB h
 ·rw [hn] at this
  simpa using this
 ·exfalso
  rcases Nat.lt_or_ge i l.length with h' | h'
  ·simp [h'] at hl
  ·simp [Nat.not_lt.2 h'] at hl
theorem Ae {P:Program} {id:Nat} {Q:Exit→Act→World→Prop} {a:Act} {w:World} (EM GM m:Nat) (ord:List Nat) {l:List Oper} (hm:P.follows .mixedOrders=true) (hs:Region.noSelect l.toArray=true)
  (hB:Aev l.toArray m ord (Array.replicate l.length false)=true) (hn:ord.length=l.length)
  (h:wpO P l EM GM m Q ord a (fun w'=>RowKit.Below w.heap.size w w') (fun w'=>w'=w.drew)):(Code.region id l.toArray true).wp P Q a w:=
 Dg EM GM m ord (fun w'=>RowKit.Below w.heap.size w w') (fun w'=>w'=w.drew) hm hs hB hn (fun w' hw=>by rw [hw];exact(RowKit.Below.refl _ _).drew) rfl h
section
variable {P:Program} {l:List Oper} {EM GM m:Nat} {Q:Exit→Act→World→Prop} {i:Nat} {ord:List Nat} {o:Oper} {a:Act} {G C:World→Prop}
def Si (P:Program) (l:List Oper) (EM GM m:Nat) (Q:Exit→Act→World→Prop) (i:Nat) (o:Oper) (ord:List Nat) (a:Act) (G C:World→Prop):Prop:=
 ((EM.testBit i=true∧m.testBit i=true∧∃ v,Mv P o a (fun _=>True) (fun w w'=>w'=w) v∧wpO P l EM GM m Q ord (a.put o.dst v) G C) ∨
  (EM.testBit i=false∧GM.testBit i=true∧m.testBit i=true∧∃ v,Mv P o a G (fun w w'=>w'=w) v∧wpO P l EM GM m Q ord (a.put o.dst v) G C) ∨
  (EM.testBit i=false∧GM.testBit i=false∧m.testBit i=true∧∃ v,Mv P o a G (fun _ w'=>G w') v∧wpO P l EM GM m Q ord (a.put o.dst v) G G) ∨
  (EM.testBit i=false∧GM.testBit i=false∧m.testBit i=false∧Mo l.toArray EM i=true∧SOk P o a C (fun a' w'=>∃ G' C',(∀ w,C' w→G' w)∧C' w'∧wpO P l EM GM m Q ord a' G' C')) ∨
  (EM.testBit i=false∧GM.testBit i=false∧m.testBit i=false∧Mo l.toArray (EM ||| GM) i=true∧SOk P o a C (fun a' w'=>∃ C',(∀ w,C' w→G w)∧C' w'∧wpO P l EM GM m Q ord a' G C')))
theorem Aj (h:∀ w,C w→Q .normal a w):wpO P l EM GM m Q [] a G C:=h
theorem oQ (ho:J5 l i=some o) (hg:o.guard=none) (h:Si P l EM GM m Q i o ord a G C):wpO P l EM GM m Q (i::ord) a G C:=
 ⟨o,ho, .inl ⟨by simp [Region.wanted,hg],h⟩⟩
theorem oT {g d:Nat} {b:Bool} (ho:J5 l i=some o) (hg:o.guard=some (g,true)) (hd:(J5 l g).bind (·.dst)=some d) (hv:a.tmps[d]? = some (.bool b))
  (h1:b=true→Si P l EM GM m Q i o ord { tmps:=a.tmps.setIfInBounds d (.bool true),defers:=a.defers } G C)
  (h2:b=false→wpO P l EM GM m Q ord (Act.put { tmps:=a.tmps.setIfInBounds d (.bool false),defers:=a.defers } o.dst undef) G C):wpO P l EM GM m Q (i::ord) a G C:=by
 have hw:=N6 (ops:=l.toArray) hg (by rw [Lj] at hd;simpa using hd) hv
 cases b
 ·have h:=h2 rfl
  rw [Jh hv] at h
  exact⟨o,ho, .inr ⟨hw,h⟩⟩
 ·have h:=h1 rfl
  rw [Jh hv] at h
  exact⟨o,ho, .inl ⟨hw,h⟩⟩
theorem oF {g d:Nat} {b:Bool} (ho:J5 l i=some o) (hg:o.guard=some (g,false)) (hd:(J5 l g).bind (·.dst)=some d) (hv:a.tmps[d]? = some (.bool b))
  (h1:b=false→Si P l EM GM m Q i o ord { tmps:=a.tmps.setIfInBounds d (.bool false),defers:=a.defers } G C)
  (h2:b=true→wpO P l EM GM m Q ord (Act.put { tmps:=a.tmps.setIfInBounds d (.bool true),defers:=a.defers } o.dst undef) G C):wpO P l EM GM m Q (i::ord) a G C:=by
 have hw:=N6 (ops:=l.toArray) hg (by rw [Lj] at hd;simpa using hd) hv
 cases b
 ·have h:=h1 rfl
  rw [Jh hv] at h
  exact⟨o,ho, .inl ⟨hw,h⟩⟩
 ·have h:=h2 rfl
  rw [Jh hv] at h
  exact⟨o,ho, .inr ⟨hw,h⟩⟩
theorem oU {g d:Nat} {want:Bool} (ho:J5 l i=some o) (hg:o.guard=some (g,want)) (hd:(J5 l g).bind (·.dst)=some d) (hv:a.tmps[d]? = some undef)
  (h:wpO P l EM GM m Q ord (a.put o.dst undef) G C):wpO P l EM GM m Q (i::ord) a G C:=by
 have hd':(l.toArray[g]?).bind (·.dst)=some d:=by rw [Lj] at hd;simpa using hd
 exact⟨o,ho, .inr ⟨by unfold Region.wanted yielded;simp at hd';simp [hg,hd',hv,undef],h⟩⟩
theorem oE (a':Act) (he:EM.testBit i=true) (hm:m.testBit i=true) (h:∀ w,∀ K:Act→World→Prop,K a' w→o.wp P a w K (fun _ _ _=>False)) (ha:a'=a.put o.dst (a'.tmps.getD (o.dst.getD 0) undef))
  (hr:wpO P l EM GM m Q ord a' G C):Si P l EM GM m Q i o ord a G C:=
 .inl ⟨he,hm,_,fun w _=>h w _ ⟨ha,rfl⟩,ha▸hr⟩
theorem oR (a':Act) (he:EM.testBit i=false) (hg:GM.testBit i=true) (hm:m.testBit i=true) (h:∀ w,G w→∀ K:Act→World→Prop,K a' w→o.wp P a w K (fun _ _ _=>False)) (ha:a'=a.put o.dst (a'.tmps.getD (o.dst.getD 0) undef))
  (hr:wpO P l EM GM m Q ord a' G C):Si P l EM GM m Q i o ord a G C:=
 .inr (.inl ⟨he,hg,hm,_,fun w hw=>h w hw _ ⟨ha,rfl⟩,ha▸hr⟩)
theorem oC (a':Act) (he:EM.testBit i=false) (hg:GM.testBit i=false) (hm:m.testBit i=true) (h:∀ w,G w→∀ K:Act→World→Prop,(∀ w',G w'→K a' w')→o.wp P a w K (fun _ _ _=>False)) (ha:a'=a.put o.dst (a'.tmps.getD (o.dst.getD 0) undef))
  (hr:wpO P l EM GM m Q ord a' G G):Si P l EM GM m Q i o ord a G C:=
 .inr (.inr (.inl ⟨he,hg,hm,_,fun w hw=>h w hw _ fun _ hw'=>⟨ha,hw'⟩,ha▸hr⟩))
theorem Afk (he:EM.testBit i=false) (hg:GM.testBit i=false) (hm:m.testBit i=false) (hc:Mo l.toArray EM i=true)
  (h:∀ w,C w→∀ K:Act→World→Prop,(∀ v w' (G':World→Prop),G' w'→wpO P l EM GM m Q ord (a.put o.dst v) G' (fun x=>x=w')→K (a.put o.dst v) w')→o.wp P a w K (fun _ _ _=>False)):Si P l EM GM m Q i o ord a G C:=
 .inr (.inr (.inr (.inl ⟨he,hg,hm,hc,fun w hw=>h w hw _ fun v w' G' hG hm=>⟨⟨v,rfl⟩,G',fun x=>x=w',fun _ hx=>hx▸hG,rfl,hm⟩⟩)))
theorem Aah (he:EM.testBit i=false) (hg:GM.testBit i=false) (hm:m.testBit i=false) (hc:Mo l.toArray (EM ||| GM) i=true)
  (h:∀ w,C w→∀ K:Act→World→Prop,(∀ v w',G w'→wpO P l EM GM m Q ord (a.put o.dst v) G (fun x=>x=w')→K (a.put o.dst v) w')→o.wp P a w K (fun _ _ _=>False)):Si P l EM GM m Q i o ord a G C:=
 .inr (.inr (.inr (.inr ⟨he,hg,hm,hc,fun w hw=>h w hw _ fun v w' hG hm=>⟨⟨v,rfl⟩,fun x=>x=w',fun _ hx=>hx▸hG,rfl,hm⟩⟩)))
end
attribute [irreducible] wpO Si
end Go.Proofs.YtapgojgcmlnbgacGreat
namespace Go.Proofs.YtapgojgcmlnbgacGreat
open Go Go.RowKit
section
variable {P:Program} {l:List Oper} {EM GM m:Nat} {Q:Exit→Act→World→Prop} {i:Nat} {o:Oper} {ord:List Nat} {a:Act} {G C:World→Prop}
theorem oP (a':Act) (h:∀ w,G w→∀ K:Act→World→Prop,K a' w→o.wp P a w K (fun _ _ _=>False)) (ha:a'=a.put o.dst (a'.tmps.getD (o.dst.getD 0) undef)) (hr:wpO P l EM GM m Q ord a' G C)
  (he:EM.testBit i=false:=by decide) (hg:GM.testBit i=true:=by decide) (hm:m.testBit i=true:=by decide):Si P l EM GM m Q i o ord a G C:=oR a' he hg hm h ha hr
theorem oS (h:∀ w,C w→∀ K:Act→World→Prop,(∀ v w' (G':World→Prop),G' w'→wpO P l EM GM m Q ord (a.put o.dst v) G' (fun x=>x=w')→K (a.put o.dst v) w')→o.wp P a w K (fun _ _ _=>False))
  (he:EM.testBit i=false:=by decide) (hg:GM.testBit i=false:=by decide) (hm:m.testBit i=false:=by decide) (hc:Mo l.toArray EM i=true:=by kernel_rfl):Si P l EM GM m Q i o ord a G C:=Afk he hg hm hc h
theorem oB (h:∀ w,C w→∀ K:Act→World→Prop,(∀ v w',G w'→wpO P l EM GM m Q ord (a.put o.dst v) G (fun x=>x=w')→K (a.put o.dst v) w')→o.wp P a w K (fun _ _ _=>False))
  (he:EM.testBit i=false:=by decide) (hg:GM.testBit i=false:=by decide) (hm:m.testBit i=false:=by decide) (hc:Mo l.toArray (EM ||| GM) i=true:=by kernel_rfl):Si P l EM GM m Q i o ord a G C:=Aah he hg hm hc h
end
theorem rO {P W:Prop} (hP:P) (h:Hid P→W:=by
  intro hP
  repeat'(first
   |refine oQ rfl rfl ?_
   |(refine' oE _ (by decide) (by decide) (fun wq K hK=>?_) ?_ ?_;rotate_left 1;(· go_wp2_with(fail);all_goals exact hK);rfl)
   |(refine oT rfl rfl rfl rfl (fun _=>?_) (fun hc=>by cases hc);simp only [Act.put,sA,sS,sZ])
   |(refine oF rfl rfl rfl rfl (fun _=>?_) (fun hc=>by cases hc);simp only [Act.put,sA,sS,sZ])
   |(refine oT rfl rfl rfl rfl (fun hc=>by cases hc) (fun _=>?_);simp only [Act.put,sA,sS,sZ])
   |(refine oF rfl rfl rfl rfl (fun hc=>by cases hc) (fun _=>?_);simp only [Act.put,sA,sS,sZ])
   |(refine oU rfl rfl rfl rfl ?_;(try simp only [Act.put,sA,sS,sZ])))
  exact hP.out):W:=h (Lib.hid hP)
theorem rR {P W:Prop} {B:Nat} {w:World} {F:World→Prop} (hF:∀ wq,Below B w wq→F wq) (hP:P) (h:Hid (∀ wq,Below B w wq→F wq)→Hid P→W:=by
  intro hF hP
  repeat'(first
   |refine oQ rfl rfl ?_
   |(refine' oE _ (by decide) (by decide) (fun wq K hK=>?_) ?_ ?_;rotate_left 1;(· go_wp2_with(fail);all_goals exact hK);rfl)
   |(refine' oR _ (by decide) (by decide) (by decide) (fun wq hwq K hK=>?_) ?_ ?_;rotate_left 1;(· have hf:=hF.out wq hwq;(repeat (obtain⟨_,hf⟩:=(hf:_∧_)));go_wp2_with(fail);all_goals exact hK);rfl)
   |(refine oT rfl rfl rfl rfl (fun _=>?_) (fun hc=>by cases hc);simp only [Act.put,sA,sS,sZ])
   |(refine oF rfl rfl rfl rfl (fun _=>?_) (fun hc=>by cases hc);simp only [Act.put,sA,sS,sZ])
   |(refine oT rfl rfl rfl rfl (fun hc=>by cases hc) (fun _=>?_);simp only [Act.put,sA,sS,sZ])
   |(refine oF rfl rfl rfl rfl (fun hc=>by cases hc) (fun _=>?_);simp only [Act.put,sA,sS,sZ])
   |(refine oU rfl rfl rfl rfl ?_;(try simp only [Act.put,sA,sS,sZ])))
  exact hP.out):W:=h (Lib.hid hF) (Lib.hid hP)
theorem rZ {P W:Prop} (hP:P) (h:Hid P→W:=by
  intro hP
  first
   |refine oQ rfl rfl ?_
   |(refine' oE _ (by decide) (by decide) (fun wq K hK=>?_) ?_ ?_;rotate_left 1;(· go_wp2_with(fail);all_goals exact hK);rfl)
   |(refine oT rfl rfl rfl rfl (fun _=>?_) (fun hc=>by cases hc);simp only [Act.put,sA,sS,sZ])
   |(refine oF rfl rfl rfl rfl (fun _=>?_) (fun hc=>by cases hc);simp only [Act.put,sA,sS,sZ])
   |(refine oT rfl rfl rfl rfl (fun hc=>by cases hc) (fun _=>?_);simp only [Act.put,sA,sS,sZ])
   |(refine oF rfl rfl rfl rfl (fun hc=>by cases hc) (fun _=>?_);simp only [Act.put,sA,sS,sZ])
   |(refine oU rfl rfl rfl rfl ?_;(try simp only [Act.put,sA,sS,sZ]))
  repeat'(first
   |refine oQ rfl rfl ?_
   |(refine' oE _ (by decide) (by decide) (fun wq K hK=>?_) ?_ ?_;rotate_left 1;(· go_wp2_with(fail);all_goals exact hK);rfl)
   |(refine oT rfl rfl rfl rfl (fun _=>?_) (fun hc=>by cases hc);simp only [Act.put,sA,sS,sZ])
   |(refine oF rfl rfl rfl rfl (fun _=>?_) (fun hc=>by cases hc);simp only [Act.put,sA,sS,sZ])
   |(refine oT rfl rfl rfl rfl (fun hc=>by cases hc) (fun _=>?_);simp only [Act.put,sA,sS,sZ])
   |(refine oF rfl rfl rfl rfl (fun hc=>by cases hc) (fun _=>?_);simp only [Act.put,sA,sS,sZ])
   |(refine oU rfl rfl rfl rfl ?_;(try simp only [Act.put,sA,sS,sZ])))
  exact hP.out):W:=h (Lib.hid hP)
theorem i2 {a b:Prop} (x:a) (y:b):a∧b:=⟨x,y⟩
theorem G3 {P:Program} {w:World} {o:Oper} {a:Act} {K:Act→World→Prop} {Q:Exit→Act→World→Prop} (s x:Operand) (t:TypeId)
  (ho:o.op = .call { callee := .builtin .append,args:=#[s,x],argTypes:=#[t,t] })
  (base:Nat) (e:TypeId) (i:TypeInfo) (z:Value) (size bytes:Nat) (ht:P.underlying t=some (.slice e)) (hi:P.info? e=some i) (hz:i.zero=some z)
  (hsize:i.size=size) (hby:i.bytes=bytes) (hzs:z.cells.size=size) (hsz:0<size)
  (v:Value) (n:Nat) (xs:List Value) (hs:a.eval s=v) (hown:w.ownsRow base e size v n xs)
  (A:Option Addr) (m c:Nat) (news:List Value) (hx:a.eval x = .slice A m c) (hl:news.length=m*size) (hnil:A=none→m=0∧c=0) (hnews:∀ ad,A=some ad→∀ j u,news[j]? = some u→w.cell? (ad.add j)=some u) (h1:∀ u∈news,u.oneCell'=true)
  (h63:n+m≤maxLen) (hbytes:(n+m)*bytes≤140737488355328) (hbase:base≤w.heap.size)
  (h:∀ v' w',w'.ownsRow base e size v' (n+m) (xs++news)→w.grownBy w' v.ownBlock→K (a.put o.dst v') w'):o.wp P a w K Q:=by
 cases A with
 |some ad=>exact wp_append_own w s x t ho base e i z size bytes ht hi hz hsize hby hzs hsz v n xs hs hown ad m c news hx hl (hnews ad rfl) h1 h63 hbytes hbase fun v' w' h2 h3 _=>h v' w' h2 h3
 |none=>
  obtain⟨rfl,rfl⟩:=hnil rfl
  have hnews0:news=[]:=List.eq_nil_of_length_eq_zero (by simpa using hl)
  subst hnews0
  have hrun:=run_append_owned_none (P:=P) (w:=w) base t o.type e i size ht hi v n xs hown
  unfold Oper.wp execOp
  simp only [ho,resolve,invoke,builtin,Sem.run_bind,Sem.run_pure,Result.andThen_ok,List.map_toArray,List.map_cons,List.map_nil,hs,hx,hrun]
  exact h v w (by simpa using hown) ⟨rfl,rfl,rfl,Nat.le_refl _,fun _ _ _=>rfl⟩
theorem E7 {P:Program} {w:World} {ops:Array Oper} {rest:List Oper} {o:Oper} {a:Act} {Q:Exit→Act→World→Prop} (hgd:o.guard=none) (s x:Operand) (t:TypeId)
  (ho:o.op = .call { callee := .builtin .append,args:=#[s,x],argTypes:=#[t,t] })
  (base:Nat) (e:TypeId) (i:TypeInfo) (z:Value) (size bytes:Nat) (ht:P.underlying t=some (.slice e)) (hi:P.info? e=some i) (hz:i.zero=some z)
  (hsize:i.size=size) (hby:i.bytes=bytes) (hzs:z.cells.size=size) (hsz:0<size)
  (v:Value) (n:Nat) (xs:List Value) (hs:a.eval s=v) (hown:w.ownsRow base e size v n xs)
  (A:Option Addr) (m c:Nat) (news:List Value) (hx:a.eval x = .slice A m c) (hl:news.length=m*size) (hnil:A=none→m=0∧c=0) (hnews:∀ ad,A=some ad→∀ j u,news[j]? = some u→w.cell? (ad.add j)=some u) (h1:∀ u∈news,u.oneCell'=true)
  (h63:n+m≤maxLen) (hbytes:(n+m)*bytes≤140737488355328) (hbase:base≤w.heap.size)
  (h:∀ v' w',w'.ownsRow base e size v' (n+m) (xs++news)→w.grownBy w' v.ownBlock→wpList P ops Q rest (a.put o.dst v') w'):wpList P ops Q (o::rest) a w:=
 wpList_plain hgd fun _ hK=>G3 s x t ho base e i z size bytes ht hi hz hsize hby hzs hsz v n xs hs hown A m c news hx hl hnil hnews h1 h63 hbytes hbase fun v' w' h2 h3=>hK _ _ (h v' w' h2 h3)
theorem Sl (w:World) (u:Value) (t:TypeId):∀ ad,some (⟨w.heap.size,0,none⟩:Addr)=some ad→∀ j v,[u][j]? = some v→(w.alloc (.cells #[u] t)).cell? (ad.add j)=some v:=by
 intro ad h j v hj
 cases h
 rw [Addr.add_lit,Nat.zero_add]
 rw [World.cell?_alloc_new]
 simpa using hj
theorem Fw {w:World} {base:Nat} {e:TypeId} {k:IntKind} {v:Value} {n:Nat} {l:List Int} (h:w.ownsRow base e 1 v n (l.map (Value.int k))) :
  ∃ A cap,v = .slice A n cap∧l.length=n∧(A=none→l=[]∧cap=0)∧Aq w w.heap.size k A l∧n≤cap∧∀ ad,A=some ad→base≤ad.block:=by
 have hln:l.length=n:=by simpa using h.1
 have h0:=h
 rcases h.2 with⟨rfl,rfl⟩ | ⟨g,c,cur,rfl,hgb,_,hc,_⟩
 ·obtain rfl:=List.eq_nil_of_length_eq_zero hln
  exact⟨none,0,rfl,rfl,fun _=>⟨rfl,rfl⟩,fun h=>absurd rfl h,Nat.le_refl _,fun _ h=>by cases h⟩
 ·exact⟨_,c,rfl,hln,fun h=>(by cases h),Aq.own h0,hc,fun ad h=>by cases h;exact hgb⟩
theorem F0 {k:IntKind} (l:List Int):∀ u∈l.map (Value.int k),u.oneCell'=true:=by
 intro u hu
 obtain⟨x,_,rfl⟩:=List.mem_map.1 hu
 rfl
theorem Aid {w:World} {base:Nat} {e:TypeId} {k:IntKind} {v:Value} {n:Nat} {l:List Int} (h:w.ownsRow base e 1 v n (l.map (Value.int k))) (hn:0<n) :
  ∃ g cap cur,v = .slice (some ⟨g,0,none⟩) n cap∧base≤g∧Blk w g e cur∧∀ j,j<n→cur[j]? = some (.int k (l.getD j 0)):=by
 have hln:l.length=n:=by simpa using h.1
 rcases h.2 with⟨_,rfl⟩ | ⟨g,c,cur,rfl,hb,hh,_,_,_,ht⟩
 ·omega
 ·refine⟨g,c,cur,rfl,hb,hh,fun j hj=>?_⟩
  have h1:(cur.toList.take (n*1))[j]? = (l.map (Value.int k))[j]? := by rw [ht]
  rw [List.getElem?_take,if_pos (by omega),List.getElem?_map,List.getElem?_eq_getElem (l:=l) (by omega)] at h1
  simp [List.getD,List.getElem?_eq_getElem (show j<l.length by omega)] at h1 ⊢
  exact h1
theorem Aq.setCell {w:World} {B:Nat} {k:IntKind} {A:Option Addr} {l:List Int} (h:Aq w B k A l) {p:Addr} (u:Value) (hne:∀ ad,A=some ad→ad.block≠p.block):Aq (w.setCell p u) B k A l:=fun hl=>by
 obtain⟨b,o,hA,hB,hc⟩:=h hl
 have hb:=hne _ hA
 refine⟨b,o,hA,hB,fun i v hi=>?_⟩
 have:=Below.heap_setCell w p u b hb
 rw [World.cell?_of_block this]
 exact hc i v hi
theorem Aq.grown {w w':World} {B:Nat} {k:IntKind} {A:Option Addr} {l:List Int} {g:Nat} (h:Aq w B k A l) (hB:B≤w.heap.size) (hg:w.grownBy w' (some g)) (hne:∀ ad,A=some ad→ad.block≠g):Aq w' B k A l:=fun hl=>by
 obtain⟨b,o,hA,hb,hc⟩:=h hl
 have hbg:=hne _ hA
 refine⟨b,o,hA,hb,fun i v hi=>?_⟩
 rw [World.cell?_of_block (hg.block b (Nat.lt_of_lt_of_le hb hB) (by simp;exact hbg))]
 exact hc i v hi
theorem Cp {w w':World} (h:Below w.heap.size w w'):w.grownBy w' none:=⟨h.os,h.tape,h.output,h.size,fun k hk _=>h.block k hk⟩
def splice (cur:Array Value) (o:Nat) (vs:List Value):Array Value:=(cur.toList.take o++vs++cur.toList.drop (o+vs.length)).toArray
theorem H8 (cur:Array Value) (o:Nat) (vs:List Value) (h:o+vs.length≤cur.size):(splice cur o vs).size=cur.size:=by
 simp [splice];omega
theorem Fa (cur:Array Value) (o:Nat) (vs:List Value) (h:o+vs.length≤cur.size) (i:Nat):(splice cur o vs)[i]? = if i<o then cur[i]? else if i<o+vs.length then vs[i - o]? else cur[i]? := by
 have ht:(cur.toList.take o).length=o:=by simp;omega
 simp only [splice,List.getElem?_toArray]
 by_cases h1:i<o
 ·rw [if_pos h1,List.getElem?_append_left (by simp;omega),List.getElem?_append_left (by omega),List.getElem?_take,if_pos h1]
  simp
 ·rw [if_neg h1]
  by_cases h2:i<o+vs.length
  ·rw [if_pos h2,List.getElem?_append_left (by simp;omega),List.getElem?_append_right (by omega),ht]
  ·rw [if_neg h2,List.getElem?_append_right (by simp;omega),List.getElem?_drop]
   simp only [List.length_append,ht]
   rw [show o+vs.length+(i - (o+vs.length))=i by omega]
   simp
theorem Jr (cur:Array Value) (vs:Array Value) (h:vs.size=cur.size):splice cur 0 vs.toList=vs:=by
 apply Array.ext_getElem?
 intro i
 rw [Fa cur 0 vs.toList (by simp;omega)]
 simp
 intro hi
 rw [Array.getElem?_eq_none (by omega),Array.getElem?_eq_none (by omega)]
section
variable {P:Program} {ops:Array Oper} {rest:List Oper} {o:Oper} {a:Act} {w:World} {Q:Exit→Act→World→Prop}
theorem G5 (w:World) (g off:Nat) (t ty:TypeId) (cs:Array Value) (n:Nat) (d:TypeDesc) (hg:Blk w g t cs) (hu:P.underlying ty=some d)
  (hd:(match d with | .struct _ | .array _ _=>true | _=>false)=true) (hi:(P.info? ty).map (·.size)=some n) (hn:off+n≤cs.size) :
  (loadVar ty ⟨g,off,none⟩).run P w = .ok (.agg (cs.extract off (off+n))) w:=by
 have hsz:(cs.extract off (off+n)).size=n:=by simp;omega
 have hl:(loadCells ⟨g,off,none⟩ (cs.extract off (off+n)).toList.length).run P w = .ok (cs.extract off (off+n)).toList.toArray w:=
  run_loadCells_list (P:=P) w ⟨g,off,none⟩ (cs.extract off (off+n)).toList (fun j v hv=>by
   have hadd:(⟨g,off,none⟩:Addr).add j=⟨g,off+j,none⟩:=by unfold Addr.add;split<;>simp_all
   rw [hadd,hg.cell]
   rw [Array.getElem?_toList,Array.getElem?_extract] at hv
   split at hv
   ·exact hv
   ·cases hv)
 cases hq:P.info? ty with
 |none=>simp [hq] at hi
 |some i=>
  have hs:i.size=n:=by simpa [hq] using hi
  have hagg:(isAgg ty).run P w = .ok true w:=by
   unfold isAgg
   rw [Sem.run_bind,run_underlying hu w]
   cases d<;>simp_all
  rw [Array.length_toList,Array.toArray_toList,hsz] at hl
  simp [loadVar,Sem.run_bind,hagg,sizeOf,typeInfo,hq,hs,hl]
theorem Ax {K:Act→World→Prop} (ty:TypeId) (x:Operand) (ho:o.op = .load ty x) (g off:Nat) (hx:a.eval x = .pointer (some ⟨g,off,none⟩)) (t:TypeId) (cs:Array Value) (n:Nat) (d:TypeDesc) (hg:Blk w g t cs)
  (hu:P.underlying ty=some d) (hd:(match d with | .struct _ | .array _ _=>true | _=>false)=true) (hi:(P.info? ty).map (·.size)=some n) (hn:off+n≤cs.size)
  (h:K (a.put o.dst (.agg (cs.extract off (off+n)))) w):o.wp P a w K Q:=by
 unfold Oper.wp execOp
 simp only [ho,hx,Instr.loadAt,Instr.sureAddr,Sem.run_bind,Sem.run_pure,Result.andThen_ok,G5 w g off t ty cs n d hg hu hd hi hn]
 exact h
theorem Am (hgd:o.guard=none) (ty:TypeId) (x:Operand) (ho:o.op = .load ty x) (g off:Nat) (hx:a.eval x = .pointer (some ⟨g,off,none⟩)) (t:TypeId) (cs:Array Value) (n:Nat) (d:TypeDesc) (hg:Blk w g t cs)
  (hu:P.underlying ty=some d) (hd:(match d with | .struct _ | .array _ _=>true | _=>false)=true) (hi:(P.info? ty).map (·.size)=some n) (hn:off+n≤cs.size)
  (h:wpList P ops Q rest (a.put o.dst (.agg (cs.extract off (off+n)))) w):wpList P ops Q (o::rest) a w:=
 wpList_plain hgd fun _ hK=>Ax ty x ho g off hx t cs n d hg hu hd hi hn (hK _ _ h)
theorem I9 (cs:Array Value) (n:Nat) (h:cs.size=n):cs.extract 0 (0+n)=cs:=by
 subst h
 simp
theorem Eb {K:Act→World→Prop} (ty:TypeId) (x:Operand) (ho:o.op = .load ty x) (g:Nat) (hx:a.eval x = .pointer (some ⟨g,0,none⟩)) (t:TypeId) (cs:Array Value) (d:TypeDesc) (hg:Blk w g t cs)
  (hu:P.underlying ty=some d) (hd:(match d with | .struct _ | .array _ _=>true | _=>false)=true) (hi:(P.info? ty).map (·.size)=some cs.size)
  (h:K (a.put o.dst (.agg cs)) w):o.wp P a w K Q:=
 Ax ty x ho g 0 hx t cs cs.size d hg hu hd hi (by omega) (by rw [I9 cs _ rfl];exact h)
theorem Ac (hgd:o.guard=none) (ty:TypeId) (x:Operand) (ho:o.op = .load ty x) (g:Nat) (hx:a.eval x = .pointer (some ⟨g,0,none⟩)) (t:TypeId) (cs:Array Value) (d:TypeDesc) (hg:Blk w g t cs)
  (hu:P.underlying ty=some d) (hd:(match d with | .struct _ | .array _ _=>true | _=>false)=true) (hi:(P.info? ty).map (·.size)=some cs.size)
  (h:wpList P ops Q rest (a.put o.dst (.agg cs)) w):wpList P ops Q (o::rest) a w:=
 wpList_plain hgd fun _ hK=>Eb ty x ho g hx t cs d hg hu hd hi (hK _ _ h)
theorem Q9 (w:World) (g off:Nat) (t ty:TypeId) (old cells:Array Value) (hg:Blk w g t old) (hi:(P.info? ty).map (·.size)=some cells.size)
  (hn:off+cells.size≤old.size) (h1:cells.all (·.oneCell')=true) :
  (storeVar ty ⟨g,off,none⟩ (.agg cells)).run P w = .ok () (w.setRow g (splice old off cells.toList)):=by
 have:=run_storeCells_at P g off t cells.toList 0 old w hg (by simp;omega) (fun v hv=>(Array.all_eq_true_iff_forall_mem.1 h1) v (by simpa using hv))
 cases hq:P.info? ty with
 |none=>simp [hq] at hi
 |some i=>
  have hs:cells.size=i.size:=by simp [hq] at hi;omega
  simpa [storeVar,sizeOf,typeInfo,hq,Value.cells,hs,splice] using this
theorem Blk.setRow {w:World} {g:Nat} {t:TypeId} {old:Array Value} (hg:Blk w g t old) (cs:Array Value):Blk (w.setRow g cs) g t cs:=setRow_heap w g old cs t (0,0) hg
theorem Gg (w:World) (g:Nat) (cs:Array Value):w.grownBy (w.setRow g cs) (some g):=
 ⟨rfl,rfl,rfl,by simp,fun i _ hne=>by
  simp only [World.setRow,Array.getElem?_modify]
  rw [if_neg (fun e=>hne (by rw [e]))]⟩
theorem Cm {K:Act→World→Prop} (ty:TypeId) (x y:Operand) (ho:o.op = .store ty x y) (g off:Nat) (cells:Array Value) (hx:a.eval x = .pointer (some ⟨g,off,none⟩)) (hy:a.eval y = .agg cells)
  (t:TypeId) (old:Array Value) (hg:Blk w g t old) (hi:(P.info? ty).map (·.size)=some cells.size) (hn:off+cells.size≤old.size) (h1:cells.all (·.oneCell')=true)
  (h:∀ w',Blk w' g t (splice old off cells.toList)→w.grownBy w' (some g)→K (a.put o.dst undef) w'):o.wp P a w K Q:=by
 unfold Oper.wp execOp
 simp only [ho,hx,hy,Instr.storeAt,Instr.sureAddr,Sem.run_bind,Sem.run_pure,Result.andThen_ok,Q9 w g off t ty old cells hg hi hn h1]
 exact h _ (hg.setRow _) (Gg _ _ _)
theorem Co (hgd:o.guard=none) (ty:TypeId) (x y:Operand) (ho:o.op = .store ty x y) (g off:Nat) (cells:Array Value) (hx:a.eval x = .pointer (some ⟨g,off,none⟩)) (hy:a.eval y = .agg cells)
  (t:TypeId) (old:Array Value) (hg:Blk w g t old) (hi:(P.info? ty).map (·.size)=some cells.size) (hn:off+cells.size≤old.size) (h1:cells.all (·.oneCell')=true)
  (h:∀ w',Blk w' g t (splice old off cells.toList)→w.grownBy w' (some g)→wpList P ops Q rest (a.put o.dst undef) w'):wpList P ops Q (o::rest) a w:=
 wpList_plain hgd fun _ hK=>Cm ty x y ho g off cells hx hy t old hg hi hn h1 fun w' h2 h3=>hK _ _ (h w' h2 h3)
theorem Ab (hgd:o.guard=none) (ty:TypeId) (x y:Operand) (ho:o.op = .store ty x y) (g:Nat) (cells:Array Value) (hx:a.eval x = .pointer (some ⟨g,0,none⟩)) (hy:a.eval y = .agg cells)
  (t:TypeId) (old:Array Value) (hg:Blk w g t old) (hi:(P.info? ty).map (·.size)=some cells.size) (hn:cells.size=old.size) (h1:cells.all (·.oneCell')=true)
  (h:∀ w',Blk w' g t cells→w.grownBy w' (some g)→wpList P ops Q rest (a.put o.dst undef) w'):wpList P ops Q (o::rest) a w:=
 Co hgd ty x y ho g 0 cells hx hy t old hg hi (by omega) h1 fun w' h2 h3=>h w' (by rwa [Jr _ _ hn] at h2) h3
end
theorem Ao {P:Program} {ops:Array Oper} {rest:List Oper} {o:Oper} {a:Act} {w:World} {Q:Exit→Act→World→Prop} (hg:o.guard=none) (t:TypeId) (parts:Array (Nat×Operand)) (ho:o.op = .build t parts) (vals:List (Nat×Value))
  (hv:(parts.map fun(i,x)=>(i,a.eval x)).toList=vals) (cs:Array Value) (hf:P.built t vals=some cs)
  (h:wpList P ops Q rest (a.put o.dst (.agg cs)) w):wpList P ops Q (o::rest) a w:=
 wpList_build hg t parts ho (by rw [hv,hf];rfl) (by rw [hv,hf];exact h)
theorem Az {P:Program} {fn:Func} {p:Tmp} {ty:TypeId} (h:fn.results=#[.cell p ty]) (tmps:Array Value) (w:World) (g:Nat) (t:TypeId) (cs:Array Value) (d:TypeDesc)
  (hp:tmps.getD p undef = .pointer (some ⟨g,0,none⟩)) (hg:Blk w g t cs) (hu:P.underlying ty=some d) (hd:(match d with | .struct _ | .array _ _=>true | _=>false)=true) (hi:(P.info? ty).map (·.size)=some cs.size) :
  (results fn tmps).run P w = .ok (.agg cs) w:=results_cell_row h tmps w g t cs (0,0) d hp hg hu hd hi
theorem below_grown {B:Nat} {w0 w w':World} {g:Nat} (hb:Below B w0 w) (hg:w.grownBy w' (some g)) (hw:B≤w.heap.size) (hB:B≤g):Below B w0 w':=hb.grown hg hw (fun k hk=>by cases hk;exact hB)
theorem Blk.farAt {w:World} {g:Nat} {t:TypeId} {cs:Array Value} (h:Blk w g t cs) {b off:Nat} (hp:g≠b) (u:Value):Blk (w.setCell ⟨b,off,none⟩ u) g t cs:=h.far hp u
theorem Ai {B:Nat} {w0 w:World} {b off:Nat} {u:Value} (hB:B≤b) (hb:Below B w0 w):Below B w0 (w.setCell ⟨b,off,none⟩ u):=hb.setCell hB u
theorem Blk.newAt (w:World) (t:TypeId) (cs:Array Value) {g:Nat} (hg:g=w.heap.size):Blk (w.alloc (.cells cs t)) g t cs:=by subst hg;exact Blk.new w t cs
end Go.Proofs.YtapgojgcmlnbgacGreat
namespace Go.Proofs.YtapgojgcmlnbgacGreat
open Go
structure Ins where
 op:Int
 rd:Int
 rs1:Int
 rs2:Int
 imm:Int
 deriving DecidableEq
instance:Inhabited Ins:=⟨⟨0,0,0,0,0⟩⟩
def Ap (w:Int) (f t:Nat):Int:=w / 2 ^ f%2 ^ (t+1 - f)
def Fx (n:Int) (b:Nat):Int:=if n<2 ^ (b - 1) then n else n - 2 ^ b
structure Kind where
 form:Int
 low:Int
 middle:Int
 upper:Int
 deriving DecidableEq
def Kn (op:Int):Option Kind:=
 if op=1 then some ⟨0,55,0,0⟩
 else if op=2 then some ⟨0,23,0,0⟩
 else if op=3 then some ⟨1,111,0,0⟩
 else if op=4 then some ⟨2,103,0,0⟩
 else if op=5 then some ⟨4,99,0,0⟩
 else if op=6 then some ⟨4,99,1,0⟩
 else if op=7 then some ⟨4,99,4,0⟩
 else if op=8 then some ⟨4,99,5,0⟩
 else if op=9 then some ⟨4,99,6,0⟩
 else if op=10 then some ⟨4,99,7,0⟩
 else if op=11 then some ⟨2,3,0,0⟩
 else if op=12 then some ⟨2,3,1,0⟩
 else if op=13 then some ⟨2,3,2,0⟩
 else if op=14 then some ⟨2,3,4,0⟩
 else if op=15 then some ⟨2,3,5,0⟩
 else if op=16 then some ⟨5,35,0,0⟩
 else if op=17 then some ⟨5,35,1,0⟩
 else if op=18 then some ⟨5,35,2,0⟩
 else if op=19 then some ⟨2,19,0,0⟩
 else if op=20 then some ⟨2,19,2,0⟩
 else if op=21 then some ⟨2,19,3,0⟩
 else if op=22 then some ⟨2,19,4,0⟩
 else if op=23 then some ⟨2,19,6,0⟩
 else if op=24 then some ⟨2,19,7,0⟩
 else if op=25 then some ⟨3,19,1,0⟩
 else if op=26 then some ⟨3,19,5,0⟩
 else if op=27 then some ⟨3,19,5,32⟩
 else if op=28 then some ⟨6,51,0,0⟩
 else if op=29 then some ⟨6,51,0,32⟩
 else if op=30 then some ⟨6,51,1,0⟩
 else if op=31 then some ⟨6,51,2,0⟩
 else if op=32 then some ⟨6,51,3,0⟩
 else if op=33 then some ⟨6,51,4,0⟩
 else if op=34 then some ⟨6,51,5,0⟩
 else if op=35 then some ⟨6,51,5,32⟩
 else if op=36 then some ⟨6,51,6,0⟩
 else if op=37 then some ⟨6,51,7,0⟩
 else if op=38 then some ⟨6,51,0,1⟩
 else if op=39 then some ⟨6,51,1,1⟩
 else if op=40 then some ⟨6,51,2,1⟩
 else if op=41 then some ⟨6,51,3,1⟩
 else if op=42 then some ⟨6,51,4,1⟩
 else if op=43 then some ⟨6,51,5,1⟩
 else if op=44 then some ⟨6,51,6,1⟩
 else if op=45 then some ⟨6,51,7,1⟩
 else if op=46 then some ⟨2,15,0,0⟩
 else if op=47 then some ⟨7,115,0,0⟩
 else if op=48 then some ⟨7,115,0,1⟩
 else none
def Io (k:Kind) (w:Int):Bool:=
 if Ap w 0 6=k.low then
  if k.form=0∨k.form=1 then true
  else if k.form=7 then decide (w=k.low+k.upper*1048576)
  else if k.form=3∨k.form=6 then decide (Ap w 12 14=k.middle∧Ap w 25 31=k.upper)
  else decide (Ap w 12 14=k.middle)
 else false
def Cu (op form w:Int):Ins:=
 let rd:=Ap w 7 11
 let rs1:=Ap w 15 19
 let rs2:=Ap w 20 24
 if form=0 then ⟨op,rd,0,0,Fx (w - Ap w 0 11) 32⟩
 else if form=1 then ⟨op,rd,0,0,Fx (Ap w 31 31*1048576+Ap w 12 19*4096+Ap w 20 20*2048+Ap w 21 30*2) 21⟩
 else if form=2 then ⟨op,rd,rs1,0,Fx (Ap w 20 31) 12⟩
 else if form=3 then ⟨op,rd,rs1,0,Ap w 20 24⟩
 else if form=4 then ⟨op,0,rs1,rs2,Fx (Ap w 31 31*4096+Ap w 7 7*2048+Ap w 25 30*32+Ap w 8 11*2) 13⟩
 else if form=5 then ⟨op,0,rs1,rs2,Fx (Ap w 25 31*32+Ap w 7 11) 12⟩
 else if form=7 then ⟨op,0,0,0,0⟩
 else ⟨op,rd,rs1,rs2,0⟩
def Km (w:Int):Nat→Int→Option Ins
 |0,_=>none
 |n+1,op=>
  match Kn op with
  |some k=>if Io k w=true then some (Cu op k.form w) else Km w n (op+1)
  |none=>Km w n (op+1)
def Ld (w:Int):Option Ins:=Km w 48 1
def Ew (n:Int):List (Int×Int)→Int
 |[] => -1
 |(a,o)::l=>if a=n then o else Ew n l
def Fp (low mid up w:Int):Int×Int:=
 if low=55 then (1,0)
 else if low=23 then (2,0)
 else if low=111 then (3,1)
 else if low=103 then (Ew mid [(0,4)],2)
 else if low=99 then (Ew mid [(0,5),(1,6),(4,7),(5,8),(6,9),(7,10)],4)
 else if low=3 then (Ew mid [(0,11),(1,12),(2,13),(4,14),(5,15)],2)
 else if low=35 then (Ew mid [(0,16),(1,17),(2,18)],5)
 else if low=19 then
  if mid=1∨mid=5 then (Ew (8*up+mid) [(1,25),(5,26),(261,27)],3)
  else (Ew mid [(0,19),(2,20),(3,21),(4,22),(6,23),(7,24)],2)
 else if low=51 then
  if up=0 then (Ew mid [(0,28),(1,30),(2,31),(3,32),(4,33),(5,34),(6,36),(7,37)],6)
  else if up=32 then (Ew mid [(0,29),(5,35)],6)
  else if up=1 then (Ew mid [(0,38),(1,39),(2,40),(3,41),(4,42),(5,43),(6,44),(7,45)],6)
  else (-1,7)
 else if low=15 then (Ew mid [(0,46)],2)
 else if low=115 then (Ew w [(115,47),(1048691,48)],7)
 else (-1,7)
def Aiy (w:Int):Option Ins:=
 let p:=Fp (Ap w 0 6) (Ap w 12 14) (Ap w 25 31) w
 if p.1<0 then none else some (Cu p.1 p.2 w)
def F6 (k:Kind) (low mid up w:Int):Bool:=
 if low=k.low then
  if k.form=0∨k.form=1 then true
  else if k.form=7 then decide (w=k.low+k.upper*1048576)
  else if k.form=3∨k.form=6 then decide (mid=k.middle∧up=k.upper)
  else decide (mid=k.middle)
 else false
theorem Afb (k:Kind) (w:Int):Io k w=F6 k (Ap w 0 6) (Ap w 12 14) (Ap w 25 31) w:=rfl
def F9 (low mid up w:Int):List (Int×Kind)→Int×Int
 |[]=>(-1,7)
 |(op,k)::l=>if F6 k low mid up w=true then (op,k.form) else F9 low mid up w l
def kinds:Nat→Int→List (Int×Kind)
 |0,_=>[]
 |n+1,op=>match Kn op with
  |some k=>(op,k)::kinds n (op+1)
  |none=>kinds n (op+1)
theorem Py (w:Int):∀ (n:Nat) (op:Int),1≤op→Km w n op=let p:=F9 (Ap w 0 6) (Ap w 12 14) (Ap w 25 31) w (kinds n op);if p.1<0 then none else some (Cu p.1 p.2 w)
 |0,_,_=>rfl
 |n+1,op,h=>by
  unfold Km kinds
  cases hk:Kn op with
  |none=>simpa using Py w n (op+1) (by omega)
  |some k=>
   simp only [hk]
   unfold F9
   rw [Afb]
   by_cases ht:F6 k (Ap w 0 6) (Ap w 12 14) (Ap w 25 31) w=true
   ·rw [if_pos ht,if_pos ht]
    simp only
    rw [if_neg (by omega)]
   ·rw [if_neg ht,if_neg ht]
    exact Py w n (op+1) (by omega)
def Eq:List (Int×Kind):=[(1,⟨0,55,0,0⟩),(2,⟨0,23,0,0⟩),(3,⟨1,111,0,0⟩),(4,⟨2,103,0,0⟩),
 (5,⟨4,99,0,0⟩),(6,⟨4,99,1,0⟩),(7,⟨4,99,4,0⟩),(8,⟨4,99,5,0⟩),(9,⟨4,99,6,0⟩),(10,⟨4,99,7,0⟩),
 (11,⟨2,3,0,0⟩),(12,⟨2,3,1,0⟩),(13,⟨2,3,2,0⟩),(14,⟨2,3,4,0⟩),(15,⟨2,3,5,0⟩),(16,⟨5,35,0,0⟩),(17,⟨5,35,1,0⟩),(18,⟨5,35,2,0⟩),
 (19,⟨2,19,0,0⟩),(20,⟨2,19,2,0⟩),(21,⟨2,19,3,0⟩),(22,⟨2,19,4,0⟩),(23,⟨2,19,6,0⟩),(24,⟨2,19,7,0⟩),(25,⟨3,19,1,0⟩),(26,⟨3,19,5,0⟩),(27,⟨3,19,5,32⟩),
 (28,⟨6,51,0,0⟩),(29,⟨6,51,0,32⟩),(30,⟨6,51,1,0⟩),(31,⟨6,51,2,0⟩),(32,⟨6,51,3,0⟩),(33,⟨6,51,4,0⟩),(34,⟨6,51,5,0⟩),(35,⟨6,51,5,32⟩),(36,⟨6,51,6,0⟩),(37,⟨6,51,7,0⟩),
 (38,⟨6,51,0,1⟩),(39,⟨6,51,1,1⟩),(40,⟨6,51,2,1⟩),(41,⟨6,51,3,1⟩),(42,⟨6,51,4,1⟩),(43,⟨6,51,5,1⟩),(44,⟨6,51,6,1⟩),(45,⟨6,51,7,1⟩),
 (46,⟨2,15,0,0⟩),(47,⟨7,115,0,0⟩),(48,⟨7,115,0,1⟩)]
theorem Ze:kinds 48 1=Eq:=by decide +kernel
theorem Gn {m:Int} (h0:0≤m) (h1:m<8):m=0∨m=1∨m=2∨m=3∨m=4∨m=5∨m=6∨m=7:=by omega
theorem Vy (low mid up w:Int) (m0:0≤mid) (m1:mid<8) (u0:0≤up) (hl:low=w%128) :
  (let p:=F9 low mid up w Eq;let q:=Fp low mid up w;p.1=q.1∧(0≤q.1→p.2=q.2)):=by
 by_cases h:low=55
 ·subst h;simp [F9,Eq,F6,Fp]
 by_cases h:low=23
 ·subst h;simp [F9,Eq,F6,Fp]
 by_cases h:low=111
 ·subst h;simp [F9,Eq,F6,Fp]
 by_cases h:low=103
 ·subst h
  obtain rfl | rfl | rfl | rfl | rfl | rfl | rfl | rfl:=Gn m0 m1<;>simp [F9,Eq,F6,Fp,Ew]
 by_cases h:low=99
 ·subst h
  obtain rfl | rfl | rfl | rfl | rfl | rfl | rfl | rfl:=Gn m0 m1<;>simp [F9,Eq,F6,Fp,Ew]
 by_cases h:low=3
 ·subst h
  obtain rfl | rfl | rfl | rfl | rfl | rfl | rfl | rfl:=Gn m0 m1<;>simp [F9,Eq,F6,Fp,Ew]
 by_cases h:low=35
 ·subst h
  obtain rfl | rfl | rfl | rfl | rfl | rfl | rfl | rfl:=Gn m0 m1<;>simp [F9,Eq,F6,Fp,Ew]
 by_cases h:low=15
 ·subst h
  obtain rfl | rfl | rfl | rfl | rfl | rfl | rfl | rfl:=Gn m0 m1<;>simp [F9,Eq,F6,Fp,Ew]
 by_cases h:low=19
 ·subst h
  have e1:(1:Int)=8*up+1↔up=0:=by omega
  have e2:((5:Int)=8*up+1)=False:=by rw [eq_iff_iff,iff_false];omega
  have e3:((261:Int)=8*up+1)=False:=by rw [eq_iff_iff,iff_false];omega
  have e4:((1:Int)=8*up+5)=False:=by rw [eq_iff_iff,iff_false];omega
  have e5:(5:Int)=8*up+5↔up=0:=by omega
  have e6:(261:Int)=8*up+5↔up=32:=by omega
  obtain rfl | rfl | rfl | rfl | rfl | rfl | rfl | rfl:=Gn m0 m1<;>simp only [F9,Eq,F6,Fp,Ew,e1,e2,e3,e4,e5,e6]<;>simp
  all_goals
   by_cases a:up=0
   ·subst a;simp
   by_cases b:up=32
   ·subst b;simp
   simp [a,b]
 by_cases h:low=51
 ·subst h
  by_cases a:up=0
  ·subst a
   obtain rfl | rfl | rfl | rfl | rfl | rfl | rfl | rfl:=Gn m0 m1<;>simp [F9,Eq,F6,Fp,Ew]
  by_cases b:up=32
  ·subst b
   obtain rfl | rfl | rfl | rfl | rfl | rfl | rfl | rfl:=Gn m0 m1<;>simp [F9,Eq,F6,Fp,Ew]
  by_cases c:up=1
  ·subst c
   obtain rfl | rfl | rfl | rfl | rfl | rfl | rfl | rfl:=Gn m0 m1<;>simp [F9,Eq,F6,Fp,Ew]
  simp [F9,Eq,F6,Fp,a,b,c]
 by_cases h:low=115
 ·subst h
  have e1:w=115↔(115:Int)=w:=eq_comm
  have e2:w=1048691↔(1048691:Int)=w:=eq_comm
  simp [F9,Eq,F6,Fp,Ew,e1,e2]
  by_cases a:(115:Int)=w
  ·simp [a]
  ·by_cases b:(1048691:Int)=w
   ·simp [a,b]
   ·simp [a,b]
 ·clear hl
  simp [F9,Eq,F6,Fp, *]
theorem Oz (w:Int) (f t:Nat):0≤Ap w f t∧Ap w f t<2 ^ (t+1 - f):=by
 unfold Ap
 have h:(0:Int)<2 ^ (t+1 - f):=Int.pow_pos (by omega)
 exact⟨Int.emod_nonneg _ (by omega),Int.emod_lt_of_pos _ h⟩
theorem Ahn (w:Int):Ld w=Aiy w:=by
 unfold Ld Aiy
 rw [Py w 48 1 (by omega),Ze]
 have h:=Vy (Ap w 0 6) (Ap w 12 14) (Ap w 25 31) w (Oz _ _ _).1 (by simpa using (Oz w 12 14).2) (Oz _ _ _).1 (by unfold Ap;simp)
 generalize F9 (Ap w 0 6) (Ap w 12 14) (Ap w 25 31) w Eq=p at h
 generalize Fp (Ap w 0 6) (Ap w 12 14) (Ap w 25 31) w=q at h
 obtain⟨h1,h2⟩:=h
 simp only
 rw [h1]
 by_cases hq:q.1<0
 ·rw [if_pos hq,if_pos hq]
 ·rw [if_neg hq,if_neg hq,h2 (by omega)]
end Go.Proofs.YtapgojgcmlnbgacGreat
